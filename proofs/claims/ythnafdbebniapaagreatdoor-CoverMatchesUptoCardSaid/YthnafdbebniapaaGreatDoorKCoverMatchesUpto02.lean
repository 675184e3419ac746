/- Walks. -/
import Derived.Test.YthnafdbebniapaaGreatDoorQ12
import Derived.Test.YthnafdbebniapaaGreatDoorQ09
import Derived.Test.YthnafdbebniapaaGreatDoorQ08
import Derived.Test.YthnafdbebniapaaGreatDoorQ06
import Derived.Test.YthnafdbebniapaaGreatDoorQ05
import Derived.Test.YthnafdbebniapaaGreatDoorQ04
import Derived.Test.YthnafdbebniapaaGreatDoorQ03
import Derived.Test.YthnafdbebniapaaGreatDoorQ02
import Derived.Test.YthnafdbebniapaaGreatDoorKCoverMatchesUpto01
import Derived.Test.YthnafdbebniapaaGreatDoorQ10
import Derived.Test.YthnafdbebniapaaGreatDoorKCoverMatchesUptoTy
import Derived.Test.YthnafdbebniapaaGreatDoorQ18
import Derived.Test.YthnafdbebniapaaGreatDoorQ17
import Derived.Test.YthnafdbebniapaaGreatDoorQ11
import Derived.Test.YthnafdbebniapaaGreatDoorQ31
import Derived.OpenShut
import Derived.Below
import Derived.Carry
import Derived.SizedLaws
import Derived.Deep.Slices
import Derived.Deep.Strs
import Derived.Test.YthnafdbebniapaaGreatDoorQ38
import Derived.Test.YthnafdbebniapaaGreatDoorQ37
import Derived.Test.YthnafdbebniapaaGreatDoorQ30
import Derived.Test.YthnafdbebniapaaGreatDoorQ29
import Derived.Test.YthnafdbebniapaaGreatDoorQ28
import Derived.Test.YthnafdbebniapaaGreatDoorQ27
import Derived.Test.YthnafdbebniapaaGreatDoorQ26
import Derived.Test.YthnafdbebniapaaGreatDoorQ19
import Derived.Test.YthnafdbebniapaaGreatDoorQShelf
import Derived.Test.YthnafdbebniapaaGreatDoorQ21
import Derived.Test.YthnafdbebniapaaGreatDoorQ16
import Derived.Test.YthnafdbebniapaaGreatDoorQ15
import Derived.Test.YthnafdbebniapaaGreatDoorQ14
import Derived.Test.YthnafdbebniapaaGreatDoorQ13
import Derived.Test.YthnafdbebniapaaGreatDoorQ25
import Derived.Test.YthnafdbebniapaaGreatDoorQ20
import Derived.Test.YthnafdbebniapaaGreatDoorQ24
import Derived.Test.YthnafdbebniapaaGreatDoorQ23
import Derived.Test.YthnafdbebniapaaGreatDoorQ22
import Derived.Test.YthnafdbebniapaaGreatDoorQ35
import Derived.Test.YthnafdbebniapaaGreatDoorQ34
import Derived.Test.YthnafdbebniapaaGreatDoorQ33
import Derived.Test.YthnafdbebniapaaGreatDoorQ36
import Derived.Test.YthnafdbebniapaaGreatDoorQ32
set_option maxHeartbeats 8000000
namespace Go.Proofs.YthnafdbebniapaaGreatDoor
open Go Go.Wk Go.Un Go.De
set_option linter.unusedSimpArgs false
set_option linter.unusedVariables false
attribute [local irreducible] Go.wpList Go.Code.wp Go.wpStill Go.Wk.wpPre Go.bodyPost Go.Calls Go.Wk.Ct Go.Wk.OwnS Go.Wk.wpG Go.Wk.wpM
def Cnt (p S most : Nat) : Prop := p ≤ most ∧ p ≤ S ∧ (p = S ∨ p = most)
theorem zzCe0 {p : Prop} (h : p := by (rw [← hao] at S; refine ⟨l.len - (k + 1), by omega, k + 1, p + 1 + p9, s + 1 + x.2.size, rfl, by omega, by omega, by unfold Cnt; omega, ?_⟩; refine S.keep ?_; exact zk)) : p := h
theorem zzCe1 {p : Prop} (h : p := by (first | (have hz : (l.drop k).size = 0 := (by rw [Fo.drop_len (by omega)]; rfl); exact ⟨p, rfl, by unfold Cnt; omega⟩) | (exact ⟨p, rfl, by unfold Cnt; omega⟩))) : p := h
theorem typesCt (F : Heap) : ∀ (n : Nat) (l : Fo) (v : Value) (most : Nat), l.size ≤ n → most ≤ 1000000 → SlF F v l → Ct Tryz.prog 18 [v, .int .i64 (most : Int)] F [] (fun _ _ u => ∃ p : Nat, u = .int .i64 (p : Int) ∧ Cnt p l.size most) := by
 intro n
 induction n using Nat.strongRecOn with
 | _ n ih =>
 intro l v most hn hmost h
 obtain ⟨ao, cap, rfl, hcap, hpos⟩ := h
 refine Ct.enter Tryz.func18 rfl Tryz.ntmps18 rfl fun w0 a S => ?_
 (revert S a; refine go 14 ?_; intro Z hZ a S)
 refine wpc_loop (fun m a w' => ∃ (k p s : Nat), m = l.len - k ∧ k ≤ l.len ∧ s + (l.drop k).size = l.size ∧ Cnt p s most ∧ St 32 [(0, .slice ao l.len cap), (1, .int .i64 (most : Int)), (5, .int .i64 (p : Int)), (6, .int .i64 k)] w0 F [] F [] a w') ?_ ?_
 ·(refine ⟨l.len, 0, 0, 0, by omega, Nat.zero_le _, by rw [Nat.zero_add]; rfl, ⟨Nat.zero_le _, Nat.le_refl _, .inl rfl⟩, ?_⟩; refine S.keep ?_; exact zk)
 (clear S; rintro m a w ⟨k, p, s, rfl, hkl, hs, hp, S⟩; unfold Cnt at hp)
 (revert S a; refine go 7 ?_; intro Z hZ Z hZ a S)
 refine wgd S ?_ ?_
 ·(clear S; intro h S)
  (revert S a; revert hZ Z; refine go 8 ?_; intro a S)
  refine wpc_sp S rfl ?_ ?_ <;> intro h
  ·(revert S a; revert hZ Z; refine go 10 ?_; intro Z hZ a S)
   (obtain ⟨b8, o8, hao, x, v1, hx, hc1, hT1⟩ := FoM.pos hpos (k := k) (by omega); rw [hao] at S; have hxs := Fo.size_get hx; have hdz : (l.drop k).size = x.2.size + (l.drop (k + 1)).size + 1 := (by rw [Fo.drop_get hx]; simp only [Fo.size]); have hc2 : Cel F b8 (o8 + k * 2 + 1) v1 := hc1 1 _ rfl)
   (revert S a; refine go 6 ?_; intro a S)
   (refine wv S (sv_loadF S rfl rfl hc2) ?_; clear S a; intro a S)
   (revert S a; refine go 3 ?_; intro a S)
   (rw [show ((most : Int) - ((p : Int) + 1)) = ((most - (p + 1) : Nat) : Int) by omega] at S)
   (refine wc0 S (ih x.2.size (by omega) x.2 _ (most - (p + 1)) (Nat.le_refl _) (by omega) hT1) ?_; clear S a; intro v a w hv S; obtain ⟨p9, rfl, hp9⟩ := hv; unfold Cnt at hp9)
   (revert S a; revert hZ Z; refine go 9 ?_; intro a S)
   change ∃ m', _ ∧ _
   exact zzCe0
  (refine wp_exit ?_; conv => whnf)
  clear hZ Z
  (revert S a; revert hZ Z; refine go 6 ?_; intro a S)
  refine wp_ret (fr1 S Tryz.results18 ?_)
  exact zzCe1
 (clear S a; intro h a S)
 (revert S a; revert hZ Z; refine go 5 ?_; intro a S)
 refine wpc_false S rfl ?_
 (refine wp_exit ?_; conv => whnf)
 clear hZ Z
 (revert S a; revert hZ Z; refine go 6 ?_; intro a S)
 refine wp_ret (fr1 S Tryz.results18 ?_)
 exact zzCe1
theorem zzCe2 {p : Prop} (h : p := by (first | (have hz : (l.drop k).size = 0 := (by rw [Rose.drop_len (by omega)]; rfl); exact ⟨p, rfl, by unfold Cnt; omega⟩) | (exact ⟨p, rfl, by unfold Cnt; omega⟩))) : p := h
theorem exprsNCt (F : Heap) : ∀ (n : Nat) (l : Ef) (v : Value) (most : Nat), l.size ≤ n → most ≤ 1000000 → TrS F 9 EhR v l → Ct Tryz.prog 9 [v, .int .i64 (most : Int)] F [] (fun _ _ u => ∃ p : Nat, u = .int .i64 (p : Int) ∧ Cnt p l.size most) := by
 intro n
 induction n using Nat.strongRecOn with
 | _ n ih =>
 intro l v most hn hmost h
 obtain ⟨ao, cap, rfl, hcap, hpos⟩ := h
 refine Ct.enter Tryz.func9 rfl Tryz.ntmps9 rfl fun w0 a S => ?_
 (revert S a; refine go 14 ?_; intro Z hZ a S)
 refine wpc_loop (fun m a w' => ∃ (k p s : Nat), m = l.len - k ∧ k ≤ l.len ∧ s + (l.drop k).size = l.size ∧ Cnt p s most ∧ St 32 [(0, .slice ao l.len cap), (1, .int .i64 (most : Int)), (5, .int .i64 (p : Int)), (6, .int .i64 k)] w0 F [] F [] a w') ?_ ?_
 ·(refine ⟨l.len, 0, 0, 0, by omega, Nat.zero_le _, by rw [Nat.zero_add]; rfl, ⟨Nat.zero_le _, Nat.le_refl _, .inl rfl⟩, ?_⟩; refine S.keep ?_; exact zk)
 (clear S; rintro m a w ⟨k, p, s, rfl, hkl, hs, hp, S⟩; unfold Cnt at hp)
 (revert S a; refine go 7 ?_; intro Z hZ Z hZ a S)
 refine wgd S ?_ ?_
 ·(clear S; intro h S)
  (revert S a; revert hZ Z; refine go 8 ?_; intro a S)
  refine wpc_sp S rfl ?_ ?_ <;> intro h
  ·(revert S a; revert hZ Z; refine go 10 ?_; intro Z hZ a S)
   (obtain ⟨b8, o8, hao, x, cs1, v1, hx, hc1, ⟨w9, rfl, -⟩, hT1⟩ := TrM.pos hpos (k := k) (by omega); rw [hao] at S; have hxs := Rose.size_get hx; have hdz : (l.drop k).size = x.2.size + (l.drop (k + 1)).size + 1 := (by rw [Rose.drop_get hx]; simp only [Rose.size]); have hc2 : Cel F b8 (o8 + k * 9 + 8) v1 := hc1 8 _ rfl)
   (revert S a; refine go 6 ?_; intro a S)
   (refine wv S (sv_loadF S rfl rfl hc2) ?_; clear S a; intro a S)
   (revert S a; refine go 3 ?_; intro a S)
   (rw [show ((most : Int) - ((p : Int) + 1)) = ((most - (p + 1) : Nat) : Int) by omega] at S)
   (refine wc0 S (ih x.2.size (by omega) x.2 _ (most - (p + 1)) (Nat.le_refl _) (by omega) hT1) ?_; clear S a; intro v a w hv S; obtain ⟨p9, rfl, hp9⟩ := hv; unfold Cnt at hp9)
   (revert S a; revert hZ Z; refine go 9 ?_; intro a S)
   change ∃ m', _ ∧ _
   exact zzCe0
  (refine wp_exit ?_; conv => whnf)
  clear hZ Z
  (revert S a; revert hZ Z; refine go 6 ?_; intro a S)
  refine wp_ret (fr1 S Tryz.results9 ?_)
  exact zzCe2
 (clear S a; intro h a S)
 (revert S a; revert hZ Z; refine go 5 ?_; intro a S)
 refine wpc_false S rfl ?_
 (refine wp_exit ?_; conv => whnf)
 clear hZ Z
 (revert S a; revert hZ Z; refine go 6 ?_; intro a S)
 refine wp_ret (fr1 S Tryz.results9 ?_)
 exact zzCe2
def wtL : Vf → Nat
 | .nil => 0
 | .cons h L r => 1 + h.s.length / 50 + wtL L + wtL r
def wtV (h : VH) (L : Vf) : Nat := 1 + h.s.length / 50 + wtL L
theorem zzCe3 {p : Prop} (h : p := by (first | (have hz : wtL (L.drop k) = 0 := (by rw [Rose.drop_len (by omega)]; rfl); exact ⟨p, rfl, by omega, hpb⟩) | (exact ⟨p, rfl, by omega, hpb⟩))) : p := h
theorem weightCt (F : Heap) : ∀ (n : Nat) (h : VH) (L : Vf) (v : Value) (most : Nat), L.size ≤ n → most ≤ 1000000 → h.s.length ≤ 140737488355328 → TrS F 4 VhR v L → Ct Tryz.prog 10 [.agg ⟨[.int .u8 (h.k : Int), .int .i64 h.n, .string (bs h.s), v]⟩, .int .i64 (most : Int)] F [] (fun _ _ u => ∃ p : Nat, u = .int .i64 (p : Int) ∧ (p < most → p = wtV h L) ∧ p ≤ most + 4398046511104) := by
 intro n
 induction n using Nat.strongRecOn with
 | _ n ih =>
 intro h L v most hn hmost hlen hT
 obtain ⟨ao, cap, rfl, hcap, hpos⟩ := hT
 have hq : h.s.length / 50 ≤ 2814749767107 := by omega
 refine Ct.enter Tryz.func10 rfl Tryz.ntmps10 rfl fun w0 a S => ?_
 refine wp_sr fun Z hZ => ?_
 (refine wbx S ?_; clear S a; intro b2 a w S)
 (revert S a; revert hZ Z; refine go 7 ?_; intro Z hZ a S)
 (refine wv S (sv_quo S rfl rfl rfl (by first | omega | (simp only [List.length_append, List.length_cons, List.length_nil]; omega))) ?_; clear S a; intro a S)
 (revert S a; refine go 1 ?_; intro a S)
 (rw [show ((1 : Int) + (h.s.length : Int) / 50) = ((1 + h.s.length / 50 : Nat) : Int) by omega] at S)
 (revert S a; revert hZ Z; refine go 9 ?_; intro Z hZ a S)
 refine wpc_loop (fun m a w' => ∃ (k p s : Nat), m = L.len - k ∧ k ≤ L.len ∧ s + wtL (L.drop k) = wtV h L ∧ (p < most → p = s) ∧ p ≤ most + 4398046511104 ∧ St 36 [(1, .int .i64 (most : Int)), (2, ptr b2), (5, .int .i64 (p : Int)), (6, .int .i64 k)] w0 F [] F [[(b2, .cells ⟨[.int .u8 (h.k : Int), .int .i64 h.n, .string (bs h.s), .slice ao L.len cap]⟩ 26 (0, 0))]] a w') ?_ ?_
 ·(refine ⟨L.len, 0, 1 + h.s.length / 50, 1 + h.s.length / 50, by omega, Nat.zero_le _, rfl, fun _ => rfl, by omega, ?_⟩; refine S.keep ?_; exact zk)
 (clear S; rintro m a w ⟨k, p, s, rfl, hkl, hs, hp, hpb, S⟩)
 (revert S a; refine go 8 ?_; intro Z hZ Z hZ a S)
 refine wgd S ?_ ?_
 ·(clear S; intro h S)
  (revert S a; revert hZ Z; refine go 8 ?_; intro a S)
  refine wpc_sp S rfl ?_ ?_ <;> intro h
  ·(revert S a; revert hZ Z; refine go 4 ?_; intro Z hZ a S)
   (obtain ⟨b8, o8, hao, x, cs1, v1, hx, hc1, ⟨rfl, hsl⟩, hT1⟩ := TrM.pos hpos (k := k) (by omega); rw [hao] at S; have hxs := Rose.size_get hx; have hdz : wtL (L.drop k) = wtV x.1 x.2 + wtL (L.drop (k + 1)) := (by rw [Rose.drop_get hx]; rfl))
   (revert S a; refine go 6 ?_; intro a S)
   (refine wv S (sv_loadAF S rfl rfl hc1 (by rfl)) ?_; clear S a; intro a S)
   (revert S a; refine go 3 ?_; intro a S)
   (rw [show ((most : Int) - (p : Int)) = ((most - p : Nat) : Int) by omega] at S)
   (refine wc0 S (ih x.2.size (by omega) x.1 x.2 _ (most - p) (Nat.le_refl _) (by omega) hsl hT1) ?_; clear S a; intro v a w hv S; obtain ⟨p9, rfl, hp9, hp9b⟩ := hv)
   (revert S a; revert hZ Z; refine go 9 ?_; intro a S)
   change ∃ m', _ ∧ _
   (rw [← hao] at S; refine ⟨L.len - (k + 1), by omega, k + 1, p + p9, s + wtV x.1 x.2, rfl, by omega, by omega, by omega, by omega, ?_⟩; refine S.keep ?_; exact zk)
  (refine wp_exit ?_; conv => whnf)
  clear hZ Z
  (revert S a; revert hZ Z; refine go 6 ?_; intro a S)
  refine wp_ret (fr1 S Tryz.results10 ?_)
  exact zzCe3
 (clear S a; intro h a S)
 (revert S a; revert hZ Z; refine go 5 ?_; intro a S)
 refine wpc_false S rfl ?_
 (refine wp_exit ?_; conv => whnf)
 clear hZ Z
 (revert S a; revert hZ Z; refine go 6 ?_; intro a S)
 refine wp_ret (fr1 S Tryz.results10 ?_)
 exact zzCe3
theorem cmpL_cons (h : VH) (L r : Vf) (h2 : VH) (L2 r2 : Vf) : cmpL (.cons h L r) (.cons h2 L2 r2) = or2 (cmpH h L h2 L2) (cmpL r r2) := rfl
theorem sameH_iff {h h2 : VH} : sameH h h2 = true ↔ h = h2 := by
 unfold sameH
 simp only [Bool.and_eq_true, decide_eq_true_eq]
 obtain ⟨a, b, c⟩ := h
 obtain ⟨a2, b2, c2⟩ := h2
 simp
theorem sameL_iff : ∀ {l m : Vf}, sameL l m = true ↔ l = m
 | .nil, .nil => by simp [sameL]
 | .nil, .cons _ _ _ => by simp [sameL]
 | .cons _ _ _, .nil => by simp [sameL]
 | .cons h L r, .cons h2 L2 r2 => by
  unfold sameL
  rw [Bool.and_eq_true, Bool.and_eq_true, sameH_iff, sameL_iff (l := L), sameL_iff (l := r)]
  constructor
  ·rintro ⟨⟨rfl, rfl⟩, rfl⟩; rfl
  ·intro e; cases e; exact ⟨⟨rfl, rfl⟩, rfl⟩
theorem sameV_iff {x y : Vv} : sameV x y = true ↔ x = y := by
 unfold sameV
 rw [Bool.and_eq_true, sameH_iff, sameL_iff]
 exact ⟨fun h => Prod.ext h.1 h.2, fun h => by rw [h]; exact ⟨rfl, rfl⟩⟩
theorem less_irr : ∀ s : List UInt8, Op.bytesLess s s = false
 | [] => rfl
 | x :: r => by
  unfold Op.bytesLess
  have := less_irr r
  simp [this]
theorem cS0 {s t : List UInt8} : cS s t = 0 ↔ s = t := by
 unfold cS
 constructor
 ·intro h
  split at h
  ·cases h
  ·split at h
   ·assumption
   ·cases h
 ·intro h
  subst h
  rw [less_irr, if_neg (by decide), if_pos rfl]
theorem cI0 {a b : Int} : cI a b = 0 ↔ a = b := by unfold cI; split <;> (try split) <;> omega
theorem or20 {a b : Int} : or2 a b = 0 ↔ a = 0 ∧ b = 0 := by unfold or2; split <;> omega
theorem take1 {s : List UInt8} (h : s.take 1 = [45]) : s = 45 :: s.drop 1 := by
 cases s with
 | nil => cases h
 | cons x r => simp at h; subst h; rfl
theorem bigC0 : ∀ (n : Nat) (s t : List UInt8), s.length + t.length < n → (bigC n s t = 0 ↔ s = t)
 | 0, _, _, h => absurd h (Nat.not_lt_zero _)
 | n + 1, s, t, h => by
  unfold bigC
  split
  ·rename_i h1
   have e1 := take1 h1.1
   have e2 := take1 h1.2
   have l1 : s.length = (s.drop 1).length + 1 := by rw [e1]; rfl
   have l2 : t.length = (t.drop 1).length + 1 := by rw [e2]; rfl
   rw [bigC0 n _ _ (by omega)]
   constructor
   ·intro h3; rw [e1, e2, h3]
   ·intro h3; rw [h3]
  ·rename_i h1
   split
   ·rename_i h2
    constructor
    ·intro h; cases h
    ·intro h; subst h; exact absurd ⟨h2, h2⟩ h1
   ·rename_i h2
    split
    ·rename_i h3
     constructor
     ·intro h; cases h
     ·intro h; subst h; exact absurd h3 h2
    ·rw [or20, cI0, cS0]
     constructor
     ·exact fun h => h.2
     ·intro h; subst h; exact ⟨rfl, rfl⟩
theorem bigs0 {s t : List UInt8} : bigsC s t = 0 ↔ s = t := bigC0 _ _ _ (Nat.lt_succ_self _)
theorem len0 {α : Type} {l : Rose α} (h : l.len = 0) : l = .nil := by cases l with | nil => rfl | cons a L r => cases h
theorem form34 {h : VH} {n : Nat} (hf : formH h n = true) (hk : h.k = 3 ∨ h.k = 4) : h.n = 0 ∧ n = 0 := by
 unfold formH at hf
 rcases hk with hk | hk
 ·rw [if_neg (by omega), if_neg (by omega), if_pos hk, Bool.and_eq_true] at hf
  exact of_decide_eq_true hf.2
 ·rw [if_neg (by omega), if_neg (by omega), if_neg (by omega), if_pos hk] at hf
  exact of_decide_eq_true hf
theorem cmpH0_of {h h2 : VH} {L L2 : Vf} (hf : formH h L.len = true) (hf2 : formH h2 L2.len = true) (ih : cmpL L L2 = 0 ↔ L = L2) : cmpH h L h2 L2 = 0 ↔ h = h2 ∧ L = L2 := by
 unfold cmpH
 split
 ·rename_i hk
  constructor
  ·intro e; rw [cI0] at e; omega
  ·intro e; exact absurd (by rw [e.1]) hk
 ·rename_i hk
  have hk' : h.k = h2.k := Classical.not_not.1 hk
  split
  ·rename_i h3
   have f1 := form34 hf (.inl h3)
   have f2 := form34 hf2 (.inl (by omega))
   rw [bigs0]
   constructor
   ·intro e; exact ⟨VH.ext' hk' (by omega) e, by rw [len0 f1.2, len0 f2.2]⟩
   ·intro e; rw [e.1]
  ·split
   ·rename_i h4
    have f1 := form34 hf (.inr h4)
    have f2 := form34 hf2 (.inr (by omega))
    rw [cS0]
    constructor
    ·intro e; exact ⟨VH.ext' hk' (by omega) e, by rw [len0 f1.2, len0 f2.2]⟩
    ·intro e; rw [e.1]
   ·rw [or20, or20, cI0, cS0, ih]
    constructor
    ·rintro ⟨e1, e2, e3⟩; exact ⟨VH.ext' hk' e1 e2, e3⟩
    ·rintro ⟨e1, e2⟩; subst e1; exact ⟨rfl, rfl, e2⟩
theorem cmpL0 : ∀ (l m : Vf), formL l = true → formL m = true → (cmpL l m = 0 ↔ l = m)
 | .nil, .nil, _, _ => ⟨fun _ => rfl, fun _ => rfl⟩
 | .nil, .cons _ _ _, _, _ => ⟨fun h => (by cases h), fun h => (by cases h)⟩
 | .cons _ _ _, .nil, _, _ => ⟨fun h => (by cases h), fun h => (by cases h)⟩
 | .cons h L r, .cons h2 L2 r2, f1, f2 => by
  rw [formL_cons, Bool.and_eq_true, Bool.and_eq_true] at f1 f2
  rw [cmpL_cons, or20, cmpH0_of f1.1.1 f2.1.1 (cmpL0 L L2 f1.1.2 f2.1.2), cmpL0 r r2 f1.2 f2.2]
  constructor
  ·rintro ⟨⟨rfl, rfl⟩, rfl⟩; rfl
  ·intro e; cases e; exact ⟨⟨rfl, rfl⟩, rfl⟩
theorem may_form {x : Vv} (h : mayV x = true) : formH x.1 x.2.len = true ∧ formL x.2 = true := by
 have h1 := of_decide_eq_true h
 unfold checkV at h1
 split at h1
 ·cases h1
 ·split at h1
  ·cases h1
  ·rename_i h2
   have h3 : (formH x.1 x.2.len && formL x.2) = true := by simpa using h2
   rw [Bool.and_eq_true] at h3
   exact h3
theorem cmpV0 {x y : Vv} (hy : mayV y = true) : cmpV2 x y = 0 ↔ x = y := by
 unfold cmpV2
 by_cases hx : mayV x = true
 ·rw [if_pos ⟨hx, hy⟩]
  obtain ⟨f1, f2⟩ := may_form hx
  obtain ⟨g1, g2⟩ := may_form hy
  rw [cmpH0_of f1 g1 (cmpL0 _ _ f2 g2)]
  exact ⟨fun h => Prod.ext h.1 h.2, fun h => by rw [h]; exact ⟨rfl, rfl⟩⟩
 ·rw [if_neg (fun h => hx h.1), if_neg (fun h => hx (h.trans hy)), if_neg hx]
  constructor
  ·intro h; cases h
  ·intro h; rw [h] at hx; exact absurd hy hx
theorem same_cmp {x y : Vv} (hy : mayV y = true) : sameV x y = decide (cmpV2 x y = 0) := by
 rw [Bool.eq_iff_iff, sameV_iff, decide_eq_true_eq, cmpV0 hy]
theorem depV_more : ∀ (l : Vf) (n m m' : Int), depV l n m < m → m ≤ m' → depV l n m' = depV l n m
 | .nil, n, m, m', _, _ => rfl
 | .cons h L r, n, m, m', h1, h2 => by
  rw [depV_cons] at h1 ⊢
  rw [depV_cons]
  split at h1
  ·omega
  ·rename_i h3
   rw [if_neg h3, if_neg (by omega)]
   have h4 : max n (depV L 0 (m - 1) + 1) ≤ depV r (max n (depV L 0 (m - 1) + 1)) m := by
    have : 0 ≤ depV L 0 (m - 1) := (depV_bd L 0 (m - 1) (Int.le_refl _)).1
    exact (depV_bd r _ m (by omega)).1
   have e := depV_more L 0 (m - 1) (m' - 1) (by omega) (by omega)
   rw [e]
   exact depV_more r _ m m' h1 h2
theorem depV_all : ∀ (l : Vf) (n m : Int), 0 ≤ n → depV l n m < m → ∀ k x, l.get? k = some x → depV x.2 0 m + 1 ≤ depV l n m
 | .cons h L r, n, m, hn, h1, 0, x, e => by
  cases e
  rw [depV_cons] at h1 ⊢
  split at h1
  ·omega
  ·rename_i h3
   rw [if_neg h3]
   have h0 : 0 ≤ depV L 0 (m - 1) := (depV_bd L 0 (m - 1) (Int.le_refl _)).1
   have h4 := (depV_bd r (max n (depV L 0 (m - 1) + 1)) m (by omega)).1
   have e := depV_more L 0 (m - 1) m (by omega) (by omega)
   show depV L 0 m + 1 ≤ _
   omega
 | .cons h L r, n, m, hn, h1, k + 1, x, e => by
  rw [depV_cons] at h1 ⊢
  split at h1
  ·omega
  ·rename_i h3
   rw [if_neg h3]
   exact depV_all r _ m (by omega) h1 k x e
theorem formL_get : ∀ {l : Vf} {k : Nat} {x : Vv}, formL l = true → l.get? k = some x → formH x.1 x.2.len = true ∧ formL x.2 = true
 | .cons h L r, 0, x, f, e => by cases e; rw [formL_cons, Bool.and_eq_true, Bool.and_eq_true] at f; exact f.1
 | .cons h L r, k + 1, x, f, e => by rw [formL_cons, Bool.and_eq_true] at f; exact formL_get (l := r) f.2 e
theorem fitsL_get : ∀ {l : Vf} {k : Nat} {x : Vv}, fitsL l = true → l.get? k = some x → fitsH x.1 x.2.len = true ∧ fitsL x.2 = true
 | .cons h L r, 0, x, f, e => by cases e; rw [fitsL_cons, Bool.and_eq_true, Bool.and_eq_true] at f; exact f.1
 | .cons h L r, k + 1, x, f, e => by rw [fitsL_cons, Bool.and_eq_true] at f; exact fitsL_get (l := r) f.2 e
theorem check_parts {h : VH} {L : Vf} (hc : checkV h L = 0) : depV L 0 65 + 1 ≤ 64 ∧ (formH h L.len && formL L) = true ∧ (fitsH h L.len && fitsL L) = true := by
 unfold checkV at hc
 split at hc
 ·cases hc
 ·split at hc
  ·cases hc
  ·split at hc
   ·cases hc
   ·rename_i h1 h2 h3
    exact ⟨by omega, by simpa using h2, by simpa using h3⟩
theorem may_get {v x : Vv} {k : Nat} (hv : mayV v = true) (e : v.2.get? k = some x) : mayV x = true := by
 obtain ⟨h1, h2, h3⟩ := check_parts (of_decide_eq_true hv)
 rw [Bool.and_eq_true] at h2 h3
 have f := formL_get h2.2 e
 have g := fitsL_get h3.2 e
 have d := depV_all v.2 0 65 (Int.le_refl _) (by omega) k x e
 refine decide_eq_true ?_
 unfold checkV
 rw [if_neg (by omega), if_neg (by rw [f.1, f.2]; decide), if_neg (by rw [g.1, g.2]; decide)]
end Go.Proofs.YthnafdbebniapaaGreatDoor
namespace Go.Wk
open Go Go.ChangeShapes Go.WideShapes
set_option linter.unusedSimpArgs false
set_option linter.unusedVariables false
theorem at_heapOf (w : World) : At w (heapOf w) [] := ⟨fun _ _ h => h, fun p h => by simp at h, by simp [keys]⟩
theorem below_of {W W' : World} {F' : Heap} {G' : List Grp} (h : Tr W (heapOf W) [] W' F' G') : Go.RowKit.Below W.heap.size W W' :=
 ⟨h.os, h.tape, h.output, h.size, fun k hk => h.old k hk (by simp)⟩
theorem cels_flat {α : Type} {cell : α → List Value} {sz : Nat} (hlen : ∀ x, (cell x).length = sz) {F : Heap} {b : Nat} : ∀ (l : List α) (off : Nat), (∀ i x, l[i]? = some x → Cels F b (off + i * sz) (cell x)) → Cels F b off (l.flatMap cell)
 | [], _, _ => fun _ _ h => by simp at h
 | x :: r, off, h => by
  rw [List.flatMap_cons]
  refine Cels.append (by have := h 0 x rfl; simpa using this) ?_
  rw [hlen]
  refine cels_flat hlen r _ fun i y hy => ?_
  have := h (i + 1) y hy
  rw [show off + sz + i * sz = off + (i + 1) * sz by rw [Nat.add_mul]; omega]
  exact this
end Go.Wk
namespace Go.Proofs.YthnafdbebniapaaGreatDoor
open Go Go.Wk Go.Un Go.De Go.Cv
set_option linter.unusedSimpArgs false
set_option linter.unusedVariables false
attribute [local irreducible] Go.wpList Go.Code.wp Go.wpStill Go.Wk.wpPre Go.bodyPost Go.Calls Go.Wk.Ct Go.Wk.OwnS Go.Wk.wpG Go.Wk.wpM
theorem rownCt : ∀ (n : Nat) (F : Heap) (l : Vf) (v : Value), l.size < n → l.len * 56 ≤ 140737488355328 → ThV l → TrS F 4 VhR v l → Ct Tryz.prog 33 [v] F [] (fun F' _ u => TrS F' 4 VhR u l) := by
 intro n
 induction n with
 | zero => intro F l v hn; omega
 | succ n ih =>
 intro F l v hn h56 hth hv
 obtain ⟨ao, cap, rfl, hcap, hpos⟩ := hv
 refine Ct.enter Tryz.func33 rfl Tryz.ntmps33 rfl fun w0 a S => ?_
 (revert S a; refine go 14 ?_; intro Z hZ a S)
 refine wpc_loop (fun m a w' => ∃ (i : Nat) (v : Value) (g : Grp) (xs : List Value) (F3 : Heap), m = l.len - i ∧ i ≤ l.len ∧ (∀ b o, F b = some o → F3 b = some o) ∧ OwnS 26 4 v i xs g ∧ LiC F3 4 (RoR 4 VhR) xs ((kids l).take i) ∧ St 25 [(0, .slice ao l.len cap), (3, v), (4, .int .i64 (i : Int))] w0 F [] F3 (g :: []) a w') ?_ ?_
 ·(replace S := S.nilg; refine ⟨l.len, 0, .slice none 0 0, [], [], F, by omega, Nat.zero_le _, fun _ _ h => h, OwnS.nil _ _, rfl, ?_⟩; refine S.keep ?_; exact zk)
 (clear S; rintro m a w ⟨i, v, g, xs, F3, rfl, hil, hF3, hown, hfc, S⟩)
 (revert S a; refine go 8 ?_; intro Z hZ a S)
 refine wpc_sp S rfl ?_ ?_ <;> intro h
 ·(revert S a; revert hZ Z; refine go 4 ?_; intro Z hZ a S)
  (refine wp_seq_k ?_; intro Z hZ)
  (obtain ⟨b8, o8, hao, x, cs1, v1, hx, hc1, hw9, hT1⟩ := TrM.pos hpos (k := i) (by omega); rw [hao] at S; replace hc1 := Cels.mono hF3 hc1; replace hT1 := hT1.mono hF3; have hxs := Rose.size_get hx; obtain ⟨hx56, hxth⟩ := hth.get hx; have hT1c := hT1; obtain ⟨a91, c91, rfl, -⟩ := hT1c; have hw9c := hw9.1; subst hw9c; (simp only [List.cons_append, List.nil_append] at hc1))
  (revert S a; refine go 5 ?_; intro a S)
  (refine wpl_alloc S rfl rfl rfl rfl ?_; clear S a; intro b5 a w S)
  (refine wso S rfl rfl ?_; clear S; intro w S)
  (revert S a; revert hZ Z; refine go 5 ?_; intro Z hZ a S)
  (refine wcF S (ih F3 x.2 _ (by omega) hx56 hxth hT1) ?_; clear S a; intro u9 F4 a w hv9 hF4 S; have hv9c := hv9; obtain ⟨a4, c4, rfl, -⟩ := hv9c)
  (revert S a; refine go 1 ?_; intro a S)
  (refine wpl_store1 S rfl rfl rfl rfl rfl rfl (by first | (simp; done) | (simp [Value.cells]; done) | exact Nat.le_of_ble_eq_true rfl) ?_; clear S; intro w S)
  (revert S a; revert hZ Z; refine go 2 ?_; intro a S)
  (obtain ⟨aoK, capK, rfl, -⟩ := hown.at)
  (revert S a; refine go 3 ?_; intro a S)
  (refine wpl_append S rfl rfl rfl rfl rfl rfl rfl rfl rfl rfl rfl (fun _ => rfl) hown (by rfl) (by simp [Value.cells, splice, splice]) (by simp [Value.cells, Value.oneCell', splice, splice]) rfl (by rfl) (by rfl) rfl (by omega) (by omega) ?_; clear hown S a; intro v u g a w hown S)
  (revert S a; revert hZ Z; refine go 8 ?_; intro a S)
  change ∃ m', _ ∧ _
  (rw [← hao] at S; replace S := St.pullB b5 S; replace S := S.drop1; refine ⟨l.len - (i + 1), by omega, i + 1, _, _, _, F4, rfl, by omega, fun b o h => hF4 _ _ (hF3 _ _ h), hown, ?_, ?_⟩; rotate_left 1; (refine S.keep ?_; exact zk); (show LiC F4 4 (RoR 4 VhR) (xs ++ ([.int .u8 (x.1.k : Int), .int .i64 x.1.n, .string (bs x.1.s), .slice a4 x.2.len c4] : List Value)) _; rw [List.take_add_one, kids_get, hx]; exact LiC.app (hfc.mono hF4) (LiC.one rfl ⟨[_, _, _], _, rfl, rfl, hw9, hv9⟩)))
 (refine wp_exit ?_; conv => whnf)
 clear hZ Z
 (revert S a; revert hZ Z; refine go 6 ?_; intro a S)
 refine wp_ret ?_
 (have hii : i = l.len := (by omega); have hle := add_le (G1 := []) S; replace S := St.freeze (G1 := []) S; (simp only [List.nil_append] at S hle))
 refine fin_ret S (results1 Tryz.results33 (RV.tmp S rfl)) ?_
 (rw [List.take_of_length_le (by rw [kids_len]; omega)] at hfc; exact trs_kids (LiC.lim hown hfc (by rw [kids_len]; omega) hle (by omega)))
theorem trv_one {F : Heap} {v : Value} {x : Vv} (h : TrS F 4 VhR v (.cons x.1 x.2 .nil)) : ∃ b o cap a1 c1, v = .slice (some ⟨b, o, none⟩) 1 cap ∧ Cels F b (o + 0 * 4) [.int .u8 (x.1.k : Int), .int .i64 x.1.n, .string (bs x.1.s), .slice a1 x.2.len c1] ∧ VaC F [.int .u8 (x.1.k : Int), .int .i64 x.1.n, .string (bs x.1.s), .slice a1 x.2.len c1] x.1 x.2 := by
 obtain ⟨ao, cap, rfl, -, hpos⟩ := h
 obtain ⟨b, o, rfl, y, cs, u, hy, hc, ⟨rfl, hs⟩, hT⟩ := TrM.pos hpos (k := 0) (show 0 < 1 by decide)
 cases hy
 have hTc := hT
 obtain ⟨a1, c1, rfl, -⟩ := hTc
 exact ⟨b, o, cap, a1, c1, rfl, hc, _, rfl, hT, hs⟩
theorem zzLtG0 {p : Prop} (h : p := by (have hii : i = vs.length := (by omega); rw [List.take_of_length_le (by omega)] at hfc; rw [hii] at hown; exact ⟨_, _, rfl, hown, hfc⟩)) : p := h
theorem givenCt (F : Heap) (vs : List Bd) (vv : Value) (hn : vs.length ≤ 1000000) (hz : ∀ x ∈ vs, x.2.2.len * 56 ≤ 140737488355328 ∧ ThV x.2.2) (hv : LiM F 5 BvR vv vs) : Ct Tryz.prog 12 [vv] F [] (fun F' G' u => ∃ g xs, G' = [g] ∧ OwnS 44 5 u vs.length xs g ∧ LiC F' 5 BvR xs vs) := by
 obtain ⟨ao, cap, rfl, hcap, hpos⟩ := hv
 refine Ct.enter Tryz.func12 rfl Tryz.ntmps12 rfl fun w0 a S => ?_
 (revert S a; refine go 14 ?_; intro Z hZ a S)
 refine wpc_loop (fun m a w' => ∃ (i : Nat) (v : Value) (g : Grp) (xs : List Value) (F3 : Heap), m = vs.length - i ∧ i ≤ vs.length ∧ (∀ b o, F b = some o → F3 b = some o) ∧ OwnS 44 5 v i xs g ∧ LiC F3 5 BvR xs (vs.take i) ∧ St 30 [(0, .slice ao vs.length cap), (3, v), (4, .int .i64 (i : Int))] w0 F [] F3 (g :: []) a w') ?_ ?_
 ·(replace S := S.nilg; refine ⟨vs.length, 0, .slice none 0 0, [], [], F, by omega, Nat.zero_le _, fun _ _ h => h, OwnS.nil _ _, rfl, ?_⟩; refine S.keep ?_; exact zk)
 (clear S; rintro m a w ⟨i, v, g, xs, F3, rfl, hil, hF3, hown, hfc, S⟩)
 (revert S a; refine go 8 ?_; intro Z hZ a S)
 refine wpc_sp S rfl ?_ ?_ <;> intro h
 ·(revert S a; revert hZ Z; refine go 4 ?_; intro Z hZ a S)
  (obtain ⟨b8, o8, hao, x, cs1, hx, hc1, a91, c91, rfl, hVx⟩ := LiM.pos hpos (k := i) (by omega); rw [hao] at S; replace hc1 := Cels.mono hF3 hc1; replace hVx := hVx.mono hF3; have hzx := hz x (List.mem_of_getElem? hx); have hc2 := Cels.drop hc1 1; obtain ⟨aoK, capK, rfl, -⟩ := hown.at)
  (refine wpc_mixM [0, 1, 2, 3, 4, 5, 6, 7, 8, 9, 10, 13, 15] [5, 10] [] (.one 0 (.one 1 (.one 2 (.one 3 (.one 4 (.one 5 (.one 6 (.one 7 (.one 8 (.one 9 (.one 10 (.one 11 (.one 12 (.one 13 (.one 14 (.one 15 (.one 16 (.one 17 (.one 18 .nil))))))))))))))))))) [] S mixed (by kernel_rfl) ?_; clear S; intro w S)
  (revert S a; refine go 5 ?_; intro a S)
  (refine wlF S rfl (fun w' S => sv_loadF S rfl rfl (hc1 0 _ rfl)) ?_; clear S a; intro a S)
  (revert S a; refine go 4 ?_; intro a S)
  (refine wlF S rfl (fun w' S => sv_loadAF S rfl rfl hc2 (by rfl)) ?_; clear S a; intro a S)
  refine wpm_eff rfl rfl (kwa S) ?_
  (refine wpl_buildSlice S rfl rfl rfl rfl rfl rfl (by rfl) (by simp [Value.cells, splice]) rfl (by rfl) (by rfl) ?_; clear S a; intro b22 a w hown2 S; have S' := frz1 S; clear S; obtain ⟨F22, hF22, hb22, S⟩ := S'; have k22 : TrS F22 4 VhR (.slice (some ⟨b22, 0, none⟩) 1 1) (.cons x.2.1 x.2.2 .nil) := trs_lim (lim_of (l := ([x.2] : List Vv)) hb22 (LiC.one rfl (Mon.h hF22 (vac_ror hVx))) (show 1 ≤ _ by decide)))
  (revert S a; refine go 2 ?_; intro a S)
  (refine wcF S (rownCt (x.2.2.size + 2) F22 (.cons x.2.1 x.2.2 .nil) _ (by simp only [Rose.size]; omega) (by show 1 * 56 ≤ _; omega) ⟨hzx.1, hzx.2, trivial⟩ k22) ?_; clear S a; intro u9 F23 a w hv9 hF23 S; obtain ⟨be, oe, ce, ae, ne, rfl, hce, hVe⟩ := trv_one hv9)
  (revert S a; refine go 3 ?_; intro a S)
  (refine wv S (sv_loadAF S rfl rfl hce (by rfl)) ?_; clear S a; intro a S)
  (revert S a; refine go 3 ?_; intro a S)
  (refine wpl_buildSlice S rfl rfl rfl rfl rfl rfl (by rfl) (by simp [Value.cells, splice, splice]) rfl (by rfl) (by rfl) ?_; clear S a; intro b27 a w hown2 S)
  (revert S a; refine go 2 ?_; intro a S)
  (refine wpl_appendOwn S rfl rfl rfl rfl rfl rfl hown hown2 (by rfl) (by simp [Value.cells, Value.oneCell', splice, splice]) (by omega) (by omega) ?_; clear hown S a; intro v g a w hown S)
  (revert S a; revert hZ Z; refine go 11 ?_; intro a S)
  change ∃ m', _ ∧ _
  (rw [← hao] at S; refine ⟨vs.length - (i + 1), by omega, i + 1, _, _, _, F23, rfl, by omega, fun b o h => hF23 _ _ (hF22 _ _ (hF3 _ _ h)), hown, ?_, ?_⟩; rotate_left 1; (refine S.keep ?_; exact zk); (rw [List.take_add_one, hx]; exact LiC.app ((hfc.mono hF22).mono hF23) (LiC.one rfl ⟨_, _, rfl, hVe⟩)))
 (refine wp_exit ?_; conv => whnf)
 clear hZ Z
 (revert S a; revert hZ Z; refine go 6 ?_; intro a S)
 refine wp_ret (fr1 S Tryz.results12 ?_)
 exact zzLtG0
theorem backCt (F : Heap) (vs : List Bd) (vv : Value) (hn : vs.length ≤ 2000000000) (hv : LiM F 5 BvR vv vs) : Ct Tryz.prog 16 [vv] F [] (fun F' G' u => ∃ g xs, G' = [g] ∧ OwnS 34 5 u vs.length xs g ∧ LiC F' 5 BvR xs vs) := by
 obtain ⟨ao, cap, rfl, hcap, hpos⟩ := hv
 refine Ct.enter Tryz.func16 rfl Tryz.ntmps16 rfl fun w0 a S => ?_
 (revert S a; refine go 14 ?_; intro Z hZ a S)
 refine wpc_loop (fun m a w' => ∃ (i : Nat) (v : Value) (g : Grp) (xs : List Value), m = vs.length - i ∧ i ≤ vs.length ∧ OwnS 34 5 v i xs g ∧ LiC F 5 BvR xs (vs.take i) ∧ St 26 [(0, .slice ao vs.length cap), (3, v), (4, .int .i64 (i : Int))] w0 F [] F (g :: []) a w') ?_ ?_
 ·(replace S := S.nilg; refine ⟨vs.length, 0, .slice none 0 0, [], [], by omega, Nat.zero_le _, OwnS.nil _ _, rfl, ?_⟩; refine S.keep ?_; exact zk)
 (clear S; rintro m a w ⟨i, v, g, xs, rfl, hil, hown, hfc, S⟩)
 (revert S a; refine go 8 ?_; intro Z hZ a S)
 refine wpc_sp S rfl ?_ ?_ <;> intro h
 ·(revert S a; revert hZ Z; refine go 4 ?_; intro Z hZ a S)
  (obtain ⟨b8, o8, hao, x, cs1, hx, hc1, a91, c91, rfl, hVx⟩ := LiM.pos hpos (k := i) (by omega); rw [hao] at S; have hc2 := Cels.drop hc1 1; obtain ⟨aoK, capK, rfl, -⟩ := hown.at)
  (refine wpc_mixM [0, 1, 2, 3, 4, 5, 6, 7, 8, 9, 10, 11] [5, 10] [] (.one 0 (.one 1 (.one 2 (.one 3 (.one 4 (.one 5 (.one 6 (.one 7 (.one 8 (.one 9 (.one 10 (.one 11 (.one 12 (.one 13 (.one 14 .nil))))))))))))))) [] S mixed (by kernel_rfl) ?_; clear S; intro w S)
  (revert S a; refine go 5 ?_; intro a S)
  (refine wlF S rfl (fun w' S => sv_loadF S rfl rfl (hc1 0 _ rfl)) ?_; clear S a; intro a S)
  (revert S a; refine go 4 ?_; intro a S)
  (refine wlF S rfl (fun w' S => sv_loadAF S rfl rfl hc2 (by rfl)) ?_; clear S a; intro a S)
  (revert S a; refine go 2 ?_; intro a S)
  (refine wpl_buildSlice S rfl rfl rfl rfl rfl rfl (by rfl) (by simp [Value.cells, splice, splice]) rfl (by rfl) (by rfl) ?_; clear S a; intro b23 a w hown2 S)
  (revert S a; refine go 2 ?_; intro a S)
  (refine wpl_appendOwn S rfl rfl rfl rfl rfl rfl hown hown2 (by rfl) (by simp [Value.cells, Value.oneCell', splice, splice]) (by omega) (by omega) ?_; clear hown S a; intro v g a w hown S)
  (revert S a; revert hZ Z; refine go 11 ?_; intro a S)
  change ∃ m', _ ∧ _
  (rw [← hao] at S; refine ⟨vs.length - (i + 1), by omega, i + 1, _, _, _, rfl, by omega, hown, ?_, ?_⟩; rotate_left 1; (refine S.keep ?_; exact zk); (rw [List.take_add_one, hx]; exact LiC.app hfc (LiC.one rfl ⟨_, _, rfl, hVx⟩)))
 (refine wp_exit ?_; conv => whnf)
 clear hZ Z
 (revert S a; revert hZ Z; refine go 6 ?_; intro a S)
 refine wp_ret (fr1 S Tryz.results16 ?_)
 exact zzLtG0
theorem sameV_self (x : Vv) : sameV x x = true := sameV_iff.2 rfl
theorem vac_tr {F : Heap} {h : VH} {L : Vf} {v : Value} (hV : VaC F [.int .u8 (h.k : Int), .int .i64 h.n, .string (bs h.s), v] h L) : TrS F 4 VhR v L ∧ h.s.length ≤ 140737488355328 := by
 obtain ⟨u, e, h1, h2⟩ := hV
 obtain rfl : v = u := by simpa using e
 exact ⟨h1, h2⟩
theorem sameBsCt (F : Heap) (l : List Bd) (v u : Value) (hv : LiM F 5 BvR v l) (hu : LiM F 5 BvR u l) : Ct Tryz.prog 15 [v, u] F [] (fun _ _ u => u = .bool true) := by
 obtain ⟨ao, cap, rfl, hcap, hpos⟩ := hv
 obtain ⟨ao2, cap2, rfl, hcap2, hpos2⟩ := hu
 refine Ct.enter Tryz.func15 rfl Tryz.ntmps15 rfl fun w0 a S => ?_
 (revert S a; refine go 10 ?_; intro Z hZ Z hZ a S)
 (refine wv S (sv_lit (c := false) (sv_pure S rfl) (by simp)) ?_; clear S a; intro a S)
 (revert S a; revert hZ Z; refine go 2 ?_; intro a S)
 refine wpc_false S rfl ?_
 (revert S a; revert hZ Z; refine go 8 ?_; intro Z hZ a S)
 refine wpc_loop (fun m a w' => ∃ (k : Nat), m = l.length - k ∧ k ≤ l.length ∧ St 42 [(0, .slice ao l.length cap), (1, .slice ao2 l.length cap2), (5, .int .i64 (k : Int))] w0 F [] F [] a w') ?_ ?_
 ·(refine ⟨l.length, 0, by omega, Nat.zero_le _, ?_⟩; refine S.keep ?_; exact zk)
 (clear S; rintro m a w ⟨k, rfl, hkl, S⟩)
 (revert S a; refine go 8 ?_; intro Z hZ a S)
 refine wpc_sp S rfl ?_ ?_ <;> intro h
 ·(revert S a; revert hZ Z; refine go 4 ?_; intro Z hZ a S)
  (refine wp_seq_k ?_; intro Z hZ)
  (obtain ⟨b8, o8, hao, x, cs1, hx, hc1, a91, c91, rfl, hVx⟩ := LiM.pos hpos (k := k) (by omega); obtain ⟨b9, o9, hao2, y, cs2, hy, hd1, a92, c92, rfl, hVy⟩ := LiM.pos hpos2 (k := k) (by omega); obtain rfl : x = y := Option.some.inj (hx.symm.trans hy); rw [hao, hao2] at S; have hc2 := Cels.drop hc1 1; have hd2 := Cels.drop hd1 1)
  (refine wpc_mixM [0, 1, 2, 3, 4, 5, 6, 7, 8, 9, 10, 11, 12, 13, 14, 15, 16, 17, 18, 19, 20, 21, 23, 24] [4, 9, 16, 21] [] (.one 0 (.one 1 (.one 2 (.one 3 (.one 4 (.one 5 (.one 6 (.one 7 (.one 8 (.one 9 (.one 10 (.one 11 (.one 12 (.one 13 (.one 14 (.one 15 (.one 16 (.one 17 (.one 18 (.one 19 (.one 20 (.one 21 (.one 22 (.one 23 (.one 24 .nil))))))))))))))))))))))))) [] S mixed (by kernel_rfl) ?_; clear S; intro w S)
  (revert S a; refine go 4 ?_; intro a S)
  (refine wlF S rfl (fun w' S => sv_loadF S rfl rfl (hc1 0 _ rfl)) ?_; clear S a; intro a S)
  (revert S a; refine go 4 ?_; intro a S)
  (refine wlF S rfl (fun w' S => sv_loadF S rfl rfl (hd1 0 _ rfl)) ?_; clear S a; intro a S)
  (refine wpm_v S rfl rfl rfl (want_none _ rfl) rfl rfl (fun w' S => sv_lit (c := false) (sv_pure S rfl) (by simp)) ?_; clear S a; intro a S)
  (revert S a; refine go 5 ?_; intro a S)
  (refine wlF S rfl (fun w' S => sv_loadAF S rfl rfl hc2 (by rfl)) ?_; clear S a; intro a S)
  (revert S a; refine go 4 ?_; intro a S)
  (refine wlF S rfl (fun w' S => sv_loadAF S rfl rfl hd2 (by rfl)) ?_; clear S a; intro a S)
  (revert S a; refine go 2 ?_; intro a S)
  (refine wc0 S (sameCt (x.2.2.size + 1) F x.2 x.2 _ _ (Nat.lt_succ_self _) hVx hVy) ?_; clear S a; intro v39 a w hv S; rw [sameV_self] at hv; subst hv)
  skip
  (revert S a; revert hZ Z; refine go 5 ?_; intro a S)
  refine wpc_false S rfl ?_
  (revert S a; revert hZ Z; refine go 7 ?_; intro a S)
  change ∃ m', _ ∧ _
  (rw [← hao, ← hao2] at S; refine ⟨l.length - (k + 1), by omega, k + 1, rfl, by omega, ?_⟩; refine S.keep ?_; exact zk)
 (refine wp_exit ?_; conv => whnf)
 clear hZ Z
 (revert S a; revert hZ Z; refine go 5 ?_; intro a S)
 refine wp_ret (fr1 S Tryz.results15 ?_)
 rfl
theorem wt_size : ∀ L : Vf, L.size ≤ wtL L
 | .nil => Nat.le_refl _
 | .cons h L r => by
  have h1 := wt_size L
  have h2 := wt_size r
  show L.size + r.size + 1 ≤ 1 + h.s.length / 50 + wtL L + wtL r
  omega
theorem mat_some {h : EH} {L : Ef} {v : Vv} {l a : List Bd} (e : MatF h L v l = some a) : patZ h L = true ∧ mayV v = true ∧ mtE h L v l = some a := by
 unfold MatF at e
 split at e
 ·rename_i h1; exact ⟨h1.1, h1.2, e⟩
 ·cases e
theorem mt_min {h : EH} {L : Ef} {vh : VH} {VL : Vf} {l a : List Bd} (e : mtE h L (vh, VL) l = some a) : a.length ≤ l.length + min L.size VL.size + 1 := by
 have h1 := mtE_len true e
 have h2 := mtE_len false e
 simp only [szB] at h1 h2
 omega
theorem ma_S {n : Sz} {d : Nat} {u : Value} {L : List (Nat × Value)} {w0 : World} {F0 : Heap} {K0 : List Nat} {F : Heap} {G G' : List Grp} {a : Act} {w : World} {r : Option (List Bd)} (S : St n ((d, u) :: L) w0 F0 K0 F (G' ++ G) a w) (h : MaP r F G' u) (hb : ∀ k, r = some k → k.length ≤ 140737488355328) :
  ∃ F' ao c b k, (∀ b o, F b = some o → F' b = some o) ∧ u = .tuple ⟨[.slice ao (List.length k) c, .bool b]⟩ ∧ r = (if b = true then some k else none) ∧ (b = false → k = []) ∧ LiM F' 5 BvR (.slice ao (List.length k) c) k ∧ St n ((d, u) :: L) w0 F0 K0 F' G a w := by
 rcases h with ⟨h1, h2⟩ | ⟨v, k, g, xs, h1, h2, rfl, h3, h4⟩
 ·exact ⟨F, none, 0, false, [], fun b o h => h, h2, by rw [h1]; rfl, fun _ => rfl, LiM.nil _ _ _, S.fr, S.tr.sub (by rw [List.flatten_append]; exact List.sublist_append_right _ _)⟩
 ·have hle := add_le (G1 := []) (G2 := G) S
  have hL := LiC.lim h3 h4 rfl hle (hb k h1)
  obtain ⟨ao, c, rfl, -, -⟩ := id hL
  exact ⟨_, ao, c, true, k, hle, h2, by rw [h1]; rfl, fun h => (by cases h), hL, St.freeze (G1 := []) (G2 := G) S⟩
end Go.Proofs.YthnafdbebniapaaGreatDoor
