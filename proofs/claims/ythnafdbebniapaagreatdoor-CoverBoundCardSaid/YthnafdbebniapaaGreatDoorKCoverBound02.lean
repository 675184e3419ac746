/- Walks. -/
import Derived.Test.YthnafdbebniapaaGreatDoorQ31
import Derived.Test.YthnafdbebniapaaGreatDoorQ30
import Derived.Test.YthnafdbebniapaaGreatDoorQ29
import Derived.Test.YthnafdbebniapaaGreatDoorQ28
import Derived.Test.YthnafdbebniapaaGreatDoorQ27
import Derived.Test.YthnafdbebniapaaGreatDoorQ08
import Derived.Test.YthnafdbebniapaaGreatDoorQ05
import Derived.Test.YthnafdbebniapaaGreatDoorQ04
import Derived.Test.YthnafdbebniapaaGreatDoorQ03
import Derived.Test.YthnafdbebniapaaGreatDoorQ02
import Derived.Test.YthnafdbebniapaaGreatDoorKCoverBound01
import Derived.Test.YthnafdbebniapaaGreatDoorKCoverBoundTy
import Derived.Test.YthnafdbebniapaaGreatDoorQ19
import Derived.Test.YthnafdbebniapaaGreatDoorQ18
import Derived.Test.YthnafdbebniapaaGreatDoorQ17
import Derived.Test.YthnafdbebniapaaGreatDoorQ11
import Derived.Test.YthnafdbebniapaaGreatDoorQ10
import Derived.Test.YthnafdbebniapaaGreatDoorQ09
import Derived.Test.YthnafdbebniapaaGreatDoorQ06
import Derived.Test.YthnafdbebniapaaGreatDoorQShelf
import Derived.Test.YthnafdbebniapaaGreatDoorQ12
import Derived.Test.YthnafdbebniapaaGreatDoorQ22
import Derived.Test.YthnafdbebniapaaGreatDoorQ16
import Derived.Test.YthnafdbebniapaaGreatDoorQ15
import Derived.Test.YthnafdbebniapaaGreatDoorQ14
import Derived.Test.YthnafdbebniapaaGreatDoorQ13
import Derived.Test.YthnafdbebniapaaGreatDoorQ26
import Derived.Test.YthnafdbebniapaaGreatDoorQ21
import Derived.Test.YthnafdbebniapaaGreatDoorQ20
import Derived.Test.YthnafdbebniapaaGreatDoorQ25
import Derived.Test.YthnafdbebniapaaGreatDoorQ24
import Derived.Test.YthnafdbebniapaaGreatDoorQ23
import Derived.Test.YthnafdbebniapaaGreatDoorQ32
import Derived.OpenShut
import Derived.Below
import Derived.Carry
import Derived.SizedLaws
import Derived.Deep.Slices
import Derived.Deep.Strs
import Derived.Test.YthnafdbebniapaaGreatDoorQ39
set_option maxHeartbeats 4000000
namespace Go.Proofs.YthnafdbebniapaaGreatDoor
open Go Go.Wk Go.Un Go.De Go.Cv
set_option linter.unusedSimpArgs false
set_option linter.unusedVariables false
attribute [local irreducible] Go.wpList Go.Code.wp Go.wpStill Go.Wk.wpPre Go.bodyPost Go.Calls Go.Wk.Ct Go.Wk.OwnS
attribute [local irreducible] Go.Wk.wpG Go.Wk.wpM
theorem lim_take {α : Type} {F : Heap} {sz i : Nat} {R : Heap → α → List Value → Prop} {ao : Option Addr} {m c : Nat} {l : List α} (h : LiM F sz R (.slice ao m c) l) (hi : i ≤ l.length) : LiM F sz R (.slice ao i c) (l.take i) := by
  obtain ⟨_, _, e, h1, h2⟩ := h
  cases e
  have hl : (l.take i).length = i := by rw [List.length_take]; omega
  refine ⟨ao, c, by rw [hl], ⟨by rw [hl]; omega, by rw [hl]; omega⟩, fun hp => ?_⟩
  rw [hl] at hp
  obtain ⟨b, o, rfl, h3⟩ := h2 (by omega)
  refine ⟨b, o, rfl, fun k x hx => h3 k x ?_⟩
  rw [List.getElem?_take] at hx
  split at hx
  · exact hx
  · cases hx
end Go.Proofs.YthnafdbebniapaaGreatDoor
namespace Go.Proofs.YthnafdbebniapaaGreatDoor
open Go Go.Wk Go.Un Go.De
set_option linter.unusedSimpArgs false
set_option linter.unusedVariables false
attribute [local irreducible] Go.wpList Go.Code.wp Go.wpStill Go.Wk.wpPre Go.bodyPost Go.Calls Go.Wk.Ct Go.Wk.OwnS
attribute [local irreducible] Go.Wk.wpG Go.Wk.wpM
def Cnt (p S most : Nat) : Prop := p ≤ most ∧ p ≤ S ∧ (p = S ∨ p = most)
theorem zzCe0 {p : Prop} (h : p := by (rw [← hao] at S; refine ⟨l.len - (k + 1), by omega, k + 1, p + 1 + p9, s + 1 + x.2.size, rfl, by omega, by omega, by unfold Cnt; omega, ?_⟩; refine S.keep ?_; exact zk)) : p := h
theorem zzCe1 {p : Prop} (h : p := by (first | (have hz : (l.drop k).size = 0 := (by rw [Fo.drop_len (by omega)]; rfl); exact ⟨p, rfl, by unfold Cnt; omega⟩) | (exact ⟨p, rfl, by unfold Cnt; omega⟩))) : p := h
theorem typesCt (F : Heap) : ∀ (n : Nat) (l : Fo) (v : Value) (most : Nat), l.size ≤ n → most ≤ 1000000 → SlF F v l → Ct Tryz.prog 18 [v, .int .i64 (most : Int)] F [] (fun _ _ u => ∃ p : Nat, u = .int .i64 (p : Int) ∧ Cnt p l.size most) := by
  intro n
  induction n using Nat.strongRecOn with
  | _ n ih =>
  intro l v most hn hmost h
  obtain ⟨ao, cap, rfl, hcap, hpos⟩ := h
  refine Ct.enter Tryz.func18 rfl Tryz.ntmps18 rfl fun w0 a S => ?_
  (revert S a; refine go01 14 ?_; intro Z hZ a S)
  refine wpc_loop (fun m a w' => ∃ (k p s : Nat), m = l.len - k ∧ k ≤ l.len ∧ s + (l.drop k).size = l.size ∧ Cnt p s most ∧ St 32 [(0, .slice ao l.len cap), (1, .int .i64 (most : Int)), (5, .int .i64 (p : Int)), (6, .int .i64 k)] w0 F [] F [] a w') ?_ ?_
  · (refine ⟨l.len, 0, 0, 0, by omega, Nat.zero_le _, by rw [Nat.zero_add]; rfl, ⟨Nat.zero_le _, Nat.le_refl _, .inl rfl⟩, ?_⟩; refine S.keep ?_; exact zk)
  (clear S; rintro m a w ⟨k, p, s, rfl, hkl, hs, hp, S⟩; unfold Cnt at hp)
  (revert S a; refine go02 7 ?_; intro Z hZ Z hZ a S)
  refine wpl_guard S rfl rfl rfl rfl rfl ?_ ?_
  · (clear S; intro h S; (try simp only [tq] at h))
    (revert S a; revert hZ Z; refine go10 8 ?_; intro a S)
    refine wpc_sp S rfl ?_ ?_ <;> intro h
    · (revert S a; revert hZ Z; refine go11 10 ?_; intro Z hZ a S)
      (obtain ⟨b8, o8, hao, x, v1, hx, hc1, hT1⟩ := FoM.pos hpos (k := k) (by omega); rw [hao] at S; have hxs := Fo.size_get hx; have hdz : (l.drop k).size = x.2.size + (l.drop (k + 1)).size + 1 := (by rw [Fo.drop_get hx]; simp only [Fo.size]); have hc2 : Cel F b8 (o8 + k * 2 + 1) v1 := hc1 1 _ rfl)
      (revert S a; refine go00 6 ?_; intro a S)
      (refine wpl_v S rfl rfl rfl (sv_loadF S rfl rfl hc2) ?_; clear S a; intro a S)
      (revert S a; refine go00 3 ?_; intro a S)
      (rw [show ((most : Int) - ((p : Int) + 1)) = ((most - (p + 1) : Nat) : Int) by omega] at S)
      (refine wpl_call0 S rfl rfl rfl rfl rfl rfl (ih x.2.size (by omega) x.2 _ (most - (p + 1)) (Nat.le_refl _) (by omega) hT1) rfl ?_; clear S a; intro v a w hv S; obtain ⟨p9, rfl, hp9⟩ := hv; unfold Cnt at hp9)
      (revert S a; revert hZ Z; refine go10 9 ?_; intro a S)
      change ∃ m', _ ∧ _
      exact zzCe0
    (refine wp_exit ?_; conv => whnf)
    clear hZ Z
    (revert S a; revert hZ Z; refine go10 6 ?_; intro a S)
    refine wp_ret (fr1 S Tryz.results18 ?_)
    exact zzCe1
  (intro h; clear S a; intro a S; (try simp only [tq] at h))
  (revert S a; revert hZ Z; refine go10 5 ?_; intro a S)
  refine wpc_false S rfl ?_
  (refine wp_exit ?_; conv => whnf)
  clear hZ Z
  (revert S a; revert hZ Z; refine go10 6 ?_; intro a S)
  refine wp_ret (fr1 S Tryz.results18 ?_)
  exact zzCe1
theorem zzCe2 {p : Prop} (h : p := by (first | (have hz : (l.drop k).size = 0 := (by rw [Rose.drop_len (by omega)]; rfl); exact ⟨p, rfl, by unfold Cnt; omega⟩) | (exact ⟨p, rfl, by unfold Cnt; omega⟩))) : p := h
theorem exprsNCt (F : Heap) : ∀ (n : Nat) (l : Ef) (v : Value) (most : Nat), l.size ≤ n → most ≤ 1000000 → TrS F 9 EhR v l → Ct Tryz.prog 9 [v, .int .i64 (most : Int)] F [] (fun _ _ u => ∃ p : Nat, u = .int .i64 (p : Int) ∧ Cnt p l.size most) := by
  intro n
  induction n using Nat.strongRecOn with
  | _ n ih =>
  intro l v most hn hmost h
  obtain ⟨ao, cap, rfl, hcap, hpos⟩ := h
  refine Ct.enter Tryz.func9 rfl Tryz.ntmps9 rfl fun w0 a S => ?_
  (revert S a; refine go01 14 ?_; intro Z hZ a S)
  refine wpc_loop (fun m a w' => ∃ (k p s : Nat), m = l.len - k ∧ k ≤ l.len ∧ s + (l.drop k).size = l.size ∧ Cnt p s most ∧ St 32 [(0, .slice ao l.len cap), (1, .int .i64 (most : Int)), (5, .int .i64 (p : Int)), (6, .int .i64 k)] w0 F [] F [] a w') ?_ ?_
  · (refine ⟨l.len, 0, 0, 0, by omega, Nat.zero_le _, by rw [Nat.zero_add]; rfl, ⟨Nat.zero_le _, Nat.le_refl _, .inl rfl⟩, ?_⟩; refine S.keep ?_; exact zk)
  (clear S; rintro m a w ⟨k, p, s, rfl, hkl, hs, hp, S⟩; unfold Cnt at hp)
  (revert S a; refine go02 7 ?_; intro Z hZ Z hZ a S)
  refine wpl_guard S rfl rfl rfl rfl rfl ?_ ?_
  · (clear S; intro h S; (try simp only [tq] at h))
    (revert S a; revert hZ Z; refine go10 8 ?_; intro a S)
    refine wpc_sp S rfl ?_ ?_ <;> intro h
    · (revert S a; revert hZ Z; refine go11 10 ?_; intro Z hZ a S)
      (obtain ⟨b8, o8, hao, x, cs1, v1, hx, hc1, ⟨w9, rfl, -⟩, hT1⟩ := TrM.pos hpos (k := k) (by omega); rw [hao] at S; have hxs := Rose.size_get hx; have hdz : (l.drop k).size = x.2.size + (l.drop (k + 1)).size + 1 := (by rw [Rose.drop_get hx]; simp only [Rose.size]); have hc2 : Cel F b8 (o8 + k * 9 + 8) v1 := hc1 8 _ rfl)
      (revert S a; refine go00 6 ?_; intro a S)
      (refine wpl_v S rfl rfl rfl (sv_loadF S rfl rfl hc2) ?_; clear S a; intro a S)
      (revert S a; refine go00 3 ?_; intro a S)
      (rw [show ((most : Int) - ((p : Int) + 1)) = ((most - (p + 1) : Nat) : Int) by omega] at S)
      (refine wpl_call0 S rfl rfl rfl rfl rfl rfl (ih x.2.size (by omega) x.2 _ (most - (p + 1)) (Nat.le_refl _) (by omega) hT1) rfl ?_; clear S a; intro v a w hv S; obtain ⟨p9, rfl, hp9⟩ := hv; unfold Cnt at hp9)
      (revert S a; revert hZ Z; refine go10 9 ?_; intro a S)
      change ∃ m', _ ∧ _
      exact zzCe0
    (refine wp_exit ?_; conv => whnf)
    clear hZ Z
    (revert S a; revert hZ Z; refine go10 6 ?_; intro a S)
    refine wp_ret (fr1 S Tryz.results9 ?_)
    exact zzCe2
  (intro h; clear S a; intro a S; (try simp only [tq] at h))
  (revert S a; revert hZ Z; refine go10 5 ?_; intro a S)
  refine wpc_false S rfl ?_
  (refine wp_exit ?_; conv => whnf)
  clear hZ Z
  (revert S a; revert hZ Z; refine go10 6 ?_; intro a S)
  refine wp_ret (fr1 S Tryz.results9 ?_)
  exact zzCe2
def wtL : Vf → Nat
  | .nil => 0
  | .cons h L r => 1 + h.s.length / 50 + wtL L + wtL r
def wtV (h : VH) (L : Vf) : Nat := 1 + h.s.length / 50 + wtL L
theorem zzCe3 {p : Prop} (h : p := by (first | (have hz : wtL (L.drop k) = 0 := (by rw [Rose.drop_len (by omega)]; rfl); exact ⟨p, rfl, by omega, hpb⟩) | (exact ⟨p, rfl, by omega, hpb⟩))) : p := h
theorem weightCt (F : Heap) : ∀ (n : Nat) (h : VH) (L : Vf) (v : Value) (most : Nat), L.size ≤ n → most ≤ 1000000 → h.s.length ≤ 140737488355328 → TrS F 4 VhR v L → Ct Tryz.prog 10 [.agg ⟨[.int .u8 (h.k : Int), .int .i64 h.n, .string (bs h.s), v]⟩, .int .i64 (most : Int)] F [] (fun _ _ u => ∃ p : Nat, u = .int .i64 (p : Int) ∧ (p < most → p = wtV h L) ∧ p ≤ most + 4398046511104) := by
  intro n
  induction n using Nat.strongRecOn with
  | _ n ih =>
  intro h L v most hn hmost hlen hT
  obtain ⟨ao, cap, rfl, hcap, hpos⟩ := hT
  have hq : h.s.length / 50 ≤ 2814749767107 := by omega
  refine Ct.enter Tryz.func10 rfl Tryz.ntmps10 rfl fun w0 a S => ?_
  refine wp_sr fun Z hZ => ?_
  (refine wpl_box S rfl rfl rfl rfl rfl ?_; clear S a; intro b2 a w S)
  (revert S a; revert hZ Z; refine go11 7 ?_; intro Z hZ a S)
  (refine wpl_v S rfl rfl rfl (sv_quo S rfl rfl rfl (by first | omega | (simp only [List.length_append, List.length_cons, List.length_nil]; omega))) ?_; clear S a; intro a S)
  (revert S a; refine go00 1 ?_; intro a S)
  (rw [show ((1 : Int) + (h.s.length : Int) / 50) = ((1 + h.s.length / 50 : Nat) : Int) by omega] at S)
  (revert S a; revert hZ Z; refine go11 9 ?_; intro Z hZ a S)
  refine wpc_loop (fun m a w' => ∃ (k p s : Nat), m = L.len - k ∧ k ≤ L.len ∧ s + wtL (L.drop k) = wtV h L ∧ (p < most → p = s) ∧ p ≤ most + 4398046511104 ∧ St 36 [(1, .int .i64 (most : Int)), (2, ptr b2), (5, .int .i64 (p : Int)), (6, .int .i64 k)] w0 F [] F [[(b2, .cells ⟨[.int .u8 (h.k : Int), .int .i64 h.n, .string (bs h.s), .slice ao L.len cap]⟩ 26 (0, 0))]] a w') ?_ ?_
  · (refine ⟨L.len, 0, 1 + h.s.length / 50, 1 + h.s.length / 50, by omega, Nat.zero_le _, rfl, fun _ => rfl, by omega, ?_⟩; refine S.keep ?_; exact zk)
  (clear S; rintro m a w ⟨k, p, s, rfl, hkl, hs, hp, hpb, S⟩)
  (revert S a; refine go02 8 ?_; intro Z hZ Z hZ a S)
  refine wpl_guard S rfl rfl rfl rfl rfl ?_ ?_
  · (clear S; intro h S; (try simp only [tq] at h))
    (revert S a; revert hZ Z; refine go10 8 ?_; intro a S)
    refine wpc_sp S rfl ?_ ?_ <;> intro h
    · (revert S a; revert hZ Z; refine go11 4 ?_; intro Z hZ a S)
      (obtain ⟨b8, o8, hao, x, cs1, v1, hx, hc1, ⟨rfl, hsl⟩, hT1⟩ := TrM.pos hpos (k := k) (by omega); rw [hao] at S; have hxs := Rose.size_get hx; have hdz : wtL (L.drop k) = wtV x.1 x.2 + wtL (L.drop (k + 1)) := (by rw [Rose.drop_get hx]; rfl))
      (revert S a; refine go00 6 ?_; intro a S)
      (refine wpl_v S rfl rfl rfl (sv_loadAF S rfl rfl hc1 (by rfl)) ?_; clear S a; intro a S)
      (revert S a; refine go00 3 ?_; intro a S)
      (rw [show ((most : Int) - (p : Int)) = ((most - p : Nat) : Int) by omega] at S)
      (refine wpl_call0 S rfl rfl rfl rfl rfl rfl (ih x.2.size (by omega) x.1 x.2 _ (most - p) (Nat.le_refl _) (by omega) hsl hT1) rfl ?_; clear S a; intro v a w hv S; obtain ⟨p9, rfl, hp9, hp9b⟩ := hv)
      (revert S a; revert hZ Z; refine go10 9 ?_; intro a S)
      change ∃ m', _ ∧ _
      (rw [← hao] at S; refine ⟨L.len - (k + 1), by omega, k + 1, p + p9, s + wtV x.1 x.2, rfl, by omega, by omega, by omega, by omega, ?_⟩; refine S.keep ?_; exact zk)
    (refine wp_exit ?_; conv => whnf)
    clear hZ Z
    (revert S a; revert hZ Z; refine go10 6 ?_; intro a S)
    refine wp_ret (fr1 S Tryz.results10 ?_)
    exact zzCe3
  (intro h; clear S a; intro a S; (try simp only [tq] at h))
  (revert S a; revert hZ Z; refine go10 5 ?_; intro a S)
  refine wpc_false S rfl ?_
  (refine wp_exit ?_; conv => whnf)
  clear hZ Z
  (revert S a; revert hZ Z; refine go10 6 ?_; intro a S)
  refine wp_ret (fr1 S Tryz.results10 ?_)
  exact zzCe3
end Go.Proofs.YthnafdbebniapaaGreatDoor
namespace Go.Proofs.YthnafdbebniapaaGreatDoor
open Go Go.Wk Go.Un Go.De
set_option linter.unusedSimpArgs false
set_option linter.unusedVariables false
theorem cmpL_cons (h : VH) (L r : Vf) (h2 : VH) (L2 r2 : Vf) : cmpL (.cons h L r) (.cons h2 L2 r2) = or2 (cmpH h L h2 L2) (cmpL r r2) := rfl
theorem sameH_iff {h h2 : VH} : sameH h h2 = true ↔ h = h2 := by
  unfold sameH
  simp only [Bool.and_eq_true, decide_eq_true_eq]
  obtain ⟨a, b, c⟩ := h
  obtain ⟨a2, b2, c2⟩ := h2
  simp
theorem sameL_iff : ∀ {l m : Vf}, sameL l m = true ↔ l = m
  | .nil, .nil => by simp [sameL]
  | .nil, .cons _ _ _ => by simp [sameL]
  | .cons _ _ _, .nil => by simp [sameL]
  | .cons h L r, .cons h2 L2 r2 => by
    unfold sameL
    rw [Bool.and_eq_true, Bool.and_eq_true, sameH_iff, sameL_iff (l := L), sameL_iff (l := r)]
    constructor
    · rintro ⟨⟨rfl, rfl⟩, rfl⟩; rfl
    · intro e; cases e; exact ⟨⟨rfl, rfl⟩, rfl⟩
theorem sameV_iff {x y : Vv} : sameV x y = true ↔ x = y := by
  unfold sameV
  rw [Bool.and_eq_true, sameH_iff, sameL_iff]
  exact ⟨fun h => Prod.ext h.1 h.2, fun h => by rw [h]; exact ⟨rfl, rfl⟩⟩
theorem less_irr : ∀ s : List UInt8, Op.bytesLess s s = false
  | [] => rfl
  | x :: r => by
    unfold Op.bytesLess
    have := less_irr r
    simp [this]
theorem cS0 {s t : List UInt8} : cS s t = 0 ↔ s = t := by
  unfold cS
  constructor
  · intro h
    split at h
    · cases h
    · split at h
      · assumption
      · cases h
  · intro h
    subst h
    rw [less_irr, if_neg (by decide), if_pos rfl]
theorem cI0 {a b : Int} : cI a b = 0 ↔ a = b := by unfold cI; split <;> (try split) <;> omega
theorem or20 {a b : Int} : or2 a b = 0 ↔ a = 0 ∧ b = 0 := by unfold or2; split <;> omega
theorem take1 {s : List UInt8} (h : s.take 1 = [45]) : s = 45 :: s.drop 1 := by
  cases s with
  | nil => cases h
  | cons x r => simp at h; subst h; rfl
theorem bigC0 : ∀ (n : Nat) (s t : List UInt8), s.length + t.length < n → (bigC n s t = 0 ↔ s = t)
  | 0, _, _, h => absurd h (Nat.not_lt_zero _)
  | n + 1, s, t, h => by
    unfold bigC
    split
    · rename_i h1
      have e1 := take1 h1.1
      have e2 := take1 h1.2
      have l1 : s.length = (s.drop 1).length + 1 := by rw [e1]; rfl
      have l2 : t.length = (t.drop 1).length + 1 := by rw [e2]; rfl
      rw [bigC0 n _ _ (by omega)]
      constructor
      · intro h3; rw [e1, e2, h3]
      · intro h3; rw [h3]
    · rename_i h1
      split
      · rename_i h2
        constructor
        · intro h; cases h
        · intro h; subst h; exact absurd ⟨h2, h2⟩ h1
      · rename_i h2
        split
        · rename_i h3
          constructor
          · intro h; cases h
          · intro h; subst h; exact absurd h3 h2
        · rw [or20, cI0, cS0]
          constructor
          · exact fun h => h.2
          · intro h; subst h; exact ⟨rfl, rfl⟩
theorem bigs0 {s t : List UInt8} : bigsC s t = 0 ↔ s = t := bigC0 _ _ _ (Nat.lt_succ_self _)
theorem len0 {α : Type} {l : Rose α} (h : l.len = 0) : l = .nil := by cases l with | nil => rfl | cons a L r => cases h
theorem form34 {h : VH} {n : Nat} (hf : formH h n = true) (hk : h.k = 3 ∨ h.k = 4) : h.n = 0 ∧ n = 0 := by
  unfold formH at hf
  rcases hk with hk | hk
  · rw [if_neg (by omega), if_neg (by omega), if_pos hk, Bool.and_eq_true] at hf
    exact of_decide_eq_true hf.2
  · rw [if_neg (by omega), if_neg (by omega), if_neg (by omega), if_pos hk] at hf
    exact of_decide_eq_true hf
theorem cmpH0_of {h h2 : VH} {L L2 : Vf} (hf : formH h L.len = true) (hf2 : formH h2 L2.len = true) (ih : cmpL L L2 = 0 ↔ L = L2) : cmpH h L h2 L2 = 0 ↔ h = h2 ∧ L = L2 := by
  unfold cmpH
  split
  · rename_i hk
    constructor
    · intro e; rw [cI0] at e; omega
    · intro e; exact absurd (by rw [e.1]) hk
  · rename_i hk
    have hk' : h.k = h2.k := Classical.not_not.1 hk
    split
    · rename_i h3
      have f1 := form34 hf (.inl h3)
      have f2 := form34 hf2 (.inl (by omega))
      rw [bigs0]
      constructor
      · intro e; exact ⟨VH.ext' hk' (by omega) e, by rw [len0 f1.2, len0 f2.2]⟩
      · intro e; rw [e.1]
    · split
      · rename_i h4
        have f1 := form34 hf (.inr h4)
        have f2 := form34 hf2 (.inr (by omega))
        rw [cS0]
        constructor
        · intro e; exact ⟨VH.ext' hk' (by omega) e, by rw [len0 f1.2, len0 f2.2]⟩
        · intro e; rw [e.1]
      · rw [or20, or20, cI0, cS0, ih]
        constructor
        · rintro ⟨e1, e2, e3⟩; exact ⟨VH.ext' hk' e1 e2, e3⟩
        · rintro ⟨e1, e2⟩; subst e1; exact ⟨rfl, rfl, e2⟩
theorem cmpL0 : ∀ (l m : Vf), formL l = true → formL m = true → (cmpL l m = 0 ↔ l = m)
  | .nil, .nil, _, _ => ⟨fun _ => rfl, fun _ => rfl⟩
  | .nil, .cons _ _ _, _, _ => ⟨fun h => (by cases h), fun h => (by cases h)⟩
  | .cons _ _ _, .nil, _, _ => ⟨fun h => (by cases h), fun h => (by cases h)⟩
  | .cons h L r, .cons h2 L2 r2, f1, f2 => by
    rw [formL_cons, Bool.and_eq_true, Bool.and_eq_true] at f1 f2
    rw [cmpL_cons, or20, cmpH0_of f1.1.1 f2.1.1 (cmpL0 L L2 f1.1.2 f2.1.2), cmpL0 r r2 f1.2 f2.2]
    constructor
    · rintro ⟨⟨rfl, rfl⟩, rfl⟩; rfl
    · intro e; cases e; exact ⟨⟨rfl, rfl⟩, rfl⟩
theorem may_form {x : Vv} (h : mayV x = true) : formH x.1 x.2.len = true ∧ formL x.2 = true := by
  have h1 := of_decide_eq_true h
  unfold checkV at h1
  split at h1
  · cases h1
  · split at h1
    · cases h1
    · rename_i h2
      have h3 : (formH x.1 x.2.len && formL x.2) = true := by simpa using h2
      rw [Bool.and_eq_true] at h3
      exact h3
theorem cmpV0 {x y : Vv} (hy : mayV y = true) : cmpV2 x y = 0 ↔ x = y := by
  unfold cmpV2
  by_cases hx : mayV x = true
  · rw [if_pos ⟨hx, hy⟩]
    obtain ⟨f1, f2⟩ := may_form hx
    obtain ⟨g1, g2⟩ := may_form hy
    rw [cmpH0_of f1 g1 (cmpL0 _ _ f2 g2)]
    exact ⟨fun h => Prod.ext h.1 h.2, fun h => by rw [h]; exact ⟨rfl, rfl⟩⟩
  · rw [if_neg (fun h => hx h.1), if_neg (fun h => hx (h.trans hy)), if_neg hx]
    constructor
    · intro h; cases h
    · intro h; rw [h] at hx; exact absurd hy hx
theorem cmpV_self (x : Vv) (h : mayV x = true) : cmpV2 x x = 0 := (cmpV0 h).2 rfl
theorem same_cmp {x y : Vv} (hy : mayV y = true) : sameV x y = decide (cmpV2 x y = 0) := by
  rw [Bool.eq_iff_iff, sameV_iff, decide_eq_true_eq, cmpV0 hy]
def mayA : Vf → Prop
  | .nil => True
  | .cons h L r => mayV (h, L) = true ∧ mayA r
theorem depV_more : ∀ (l : Vf) (n m m' : Int), depV l n m < m → m ≤ m' → depV l n m' = depV l n m
  | .nil, n, m, m', _, _ => rfl
  | .cons h L r, n, m, m', h1, h2 => by
    rw [depV_cons] at h1 ⊢
    rw [depV_cons]
    split at h1
    · omega
    · rename_i h3
      rw [if_neg h3, if_neg (by omega)]
      have h4 : max n (depV L 0 (m - 1) + 1) ≤ depV r (max n (depV L 0 (m - 1) + 1)) m := by
        have : 0 ≤ depV L 0 (m - 1) := (depV_bd L 0 (m - 1) (Int.le_refl _)).1
        exact (depV_bd r _ m (by omega)).1
      have e := depV_more L 0 (m - 1) (m' - 1) (by omega) (by omega)
      rw [e]
      exact depV_more r _ m m' h1 h2
theorem depV_all : ∀ (l : Vf) (n m : Int), 0 ≤ n → depV l n m < m → ∀ k x, l.get? k = some x → depV x.2 0 m + 1 ≤ depV l n m
  | .cons h L r, n, m, hn, h1, 0, x, e => by
    cases e
    rw [depV_cons] at h1 ⊢
    split at h1
    · omega
    · rename_i h3
      rw [if_neg h3]
      have h0 : 0 ≤ depV L 0 (m - 1) := (depV_bd L 0 (m - 1) (Int.le_refl _)).1
      have h4 := (depV_bd r (max n (depV L 0 (m - 1) + 1)) m (by omega)).1
      have e := depV_more L 0 (m - 1) m (by omega) (by omega)
      show depV L 0 m + 1 ≤ _
      omega
  | .cons h L r, n, m, hn, h1, k + 1, x, e => by
    rw [depV_cons] at h1 ⊢
    split at h1
    · omega
    · rename_i h3
      rw [if_neg h3]
      exact depV_all r _ m (by omega) h1 k x e
theorem formL_get : ∀ {l : Vf} {k : Nat} {x : Vv}, formL l = true → l.get? k = some x → formH x.1 x.2.len = true ∧ formL x.2 = true
  | .cons h L r, 0, x, f, e => by cases e; rw [formL_cons, Bool.and_eq_true, Bool.and_eq_true] at f; exact f.1
  | .cons h L r, k + 1, x, f, e => by rw [formL_cons, Bool.and_eq_true] at f; exact formL_get (l := r) f.2 e
theorem fitsL_get : ∀ {l : Vf} {k : Nat} {x : Vv}, fitsL l = true → l.get? k = some x → fitsH x.1 x.2.len = true ∧ fitsL x.2 = true
  | .cons h L r, 0, x, f, e => by cases e; rw [fitsL_cons, Bool.and_eq_true, Bool.and_eq_true] at f; exact f.1
  | .cons h L r, k + 1, x, f, e => by rw [fitsL_cons, Bool.and_eq_true] at f; exact fitsL_get (l := r) f.2 e
theorem check_parts {h : VH} {L : Vf} (hc : checkV h L = 0) : depV L 0 65 + 1 ≤ 64 ∧ (formH h L.len && formL L) = true ∧ (fitsH h L.len && fitsL L) = true := by
  unfold checkV at hc
  split at hc
  · cases hc
  · split at hc
    · cases hc
    · split at hc
      · cases hc
      · rename_i h1 h2 h3
        exact ⟨by omega, by simpa using h2, by simpa using h3⟩
theorem may_get {v x : Vv} {k : Nat} (hv : mayV v = true) (e : v.2.get? k = some x) : mayV x = true := by
  obtain ⟨h1, h2, h3⟩ := check_parts (of_decide_eq_true hv)
  rw [Bool.and_eq_true] at h2 h3
  have f := formL_get h2.2 e
  have g := fitsL_get h3.2 e
  have d := depV_all v.2 0 65 (Int.le_refl _) (by omega) k x e
  refine decide_eq_true ?_
  unfold checkV
  rw [if_neg (by omega), if_neg (by rw [f.1, f.2]; decide), if_neg (by rw [g.1, g.2]; decide)]
theorem may_all : ∀ {l : Vf}, (∀ k x, l.get? k = some x → mayV x = true) → mayA l
  | .nil, _ => trivial
  | .cons h L r, f => ⟨f 0 _ rfl, may_all fun k x e => f (k + 1) x e⟩
theorem may_A {v : Vv} (hv : mayV v = true) : mayA v.2 := may_all fun k x e => may_get hv e
theorem findB_app {l : List Bd} {s : List UInt8} {b : Bd} (m : List Bd) (h : findB l s = some b) : findB (l ++ m) s = some b := by
  unfold findB at *
  rw [List.find?_append, h]; rfl
theorem findB_new {l : List Bd} {s : List UInt8} {v : Vv} (m : List Bd) (h : findB l s = none) : findB (l ++ [(s, v)] ++ m) s = some (s, v) := by
  unfold findB at *
  rw [List.append_assoc, List.find?_append, h, List.singleton_append, List.find?_cons]
  rw [show (decide ((s, v).1 = s)) = true from decide_eq_true rfl]; rfl
def puH (ih : Vf → Bool) (h : EH) (n : Nat) (v : Vv) (l : List Bd) : Bool :=
  if h.k = 3 then true
  else if h.k = 1 then sameV (h.v, h.vl) v
  else if h.k = 2 then (match findB l h.nm with | some b => sameV b.2 v | none => false)
  else if (h.k = 4 ∧ v.1.k ≠ 5) ∨ (h.k = 5 ∧ (v.1.k ≠ 6 ∨ v.1.s ≠ h.nm)) ∨ n ≠ v.2.len then false else ih v.2
def puL (l : List Bd) : Ef → Vf → Bool
  | .nil, _ => true
  | .cons h L r, .cons v VL w => puH (puL l L) h L.len (v, VL) l && puL l r w
  | .cons _ _ _, .nil => false
def puE (h : EH) (L : Ef) (v : Vv) (l : List Bd) : Bool := puH (puL l L) h L.len v l
def LawL (L : Ef) : Prop := ∀ (w : Vf) (l a : List Bd), mayA w → mtL L w l = some a → (∃ e, a = l ++ e) ∧ ∀ m, mtL L w (a ++ m) = some (a ++ m) ∧ puL (a ++ m) L w = true
theorem mtE_law {h : EH} {L : Ef} (ih : LawL L) {v : Vv} {l a : List Bd} (hv : mayV v = true) (hm : mtE h L v l = some a) : (∃ e, a = l ++ e) ∧ ∀ m, mtE h L v (a ++ m) = some (a ++ m) ∧ puE h L v (a ++ m) = true := by
  unfold mtE mtH at hm
  unfold mtE mtH puE puH
  by_cases h3 : h.k = 3
  · rw [if_pos h3] at hm
    cases hm
    refine ⟨⟨[], (List.append_nil _).symm⟩, fun m => ?_⟩
    rw [if_pos h3, if_pos h3]
    exact ⟨rfl, rfl⟩
  · rw [if_neg h3] at hm
    simp only [if_neg h3]
    by_cases h1 : h.k = 1
    · rw [if_pos h1] at hm
      simp only [if_pos h1]
      split at hm
      · rename_i hc
        cases hm
        refine ⟨⟨[], (List.append_nil _).symm⟩, fun m => ?_⟩
        rw [if_pos hc, same_cmp hv, decide_eq_true hc]
        exact ⟨rfl, rfl⟩
      · cases hm
    · rw [if_neg h1] at hm
      simp only [if_neg h1]
      by_cases h2 : h.k = 2
      · rw [if_pos h2] at hm
        simp only [if_pos h2]
        cases hf : findB l h.nm with
        | some b =>
          rw [hf] at hm
          dsimp only at hm
          split at hm
          · rename_i hc
            cases hm
            refine ⟨⟨[], (List.append_nil _).symm⟩, fun m => ?_⟩
            rw [findB_app m hf]
            dsimp only
            rw [if_pos hc, same_cmp hv, decide_eq_true hc]
            exact ⟨rfl, rfl⟩
          · cases hm
        | none =>
          rw [hf] at hm
          cases hm
          refine ⟨⟨_, rfl⟩, fun m => ?_⟩
          rw [findB_new m hf]
          dsimp only
          rw [if_pos (cmpV_self v hv), same_cmp hv, decide_eq_true (cmpV_self v hv)]
          exact ⟨rfl, rfl⟩
      · rw [if_neg h2] at hm
        simp only [if_neg h2]
        split at hm
        · cases hm
        · rename_i hc
          obtain ⟨h4, h5⟩ := ih v.2 l a (may_A hv) hm
          refine ⟨h4, fun m => ?_⟩
          rw [if_neg hc, if_neg hc]
          exact h5 m
theorem mtL_law : ∀ L : Ef, LawL L
  | .nil => fun w l a _ hm => by
    cases hm
    exact ⟨⟨[], (List.append_nil _).symm⟩, fun m => ⟨rfl, rfl⟩⟩
  | .cons h L r => fun w l a hw hm => by
    cases w with
    | nil => cases hm
    | cons v VL w =>
      rw [mtL_cons] at hm
      cases h1 : mtE h L (v, VL) l with
      | none => rw [h1] at hm; cases hm
      | some b =>
        rw [h1] at hm
        have h2 : mtL r w b = some a := hm
        obtain ⟨⟨e1, rfl⟩, h3⟩ := mtE_law (mtL_law L) hw.1 h1
        obtain ⟨⟨e2, rfl⟩, h4⟩ := mtL_law r w _ a hw.2 h2
        refine ⟨⟨e1 ++ e2, by rw [List.append_assoc]⟩, fun m => ?_⟩
        have h5 := h3 (e2 ++ m)
        rw [← List.append_assoc] at h5
        have h6 := h4 m
        constructor
        · rw [mtL_cons, h5.1]; exact h6.1
        · show (puE h L (v, VL) _ && puL _ r w) = true
          rw [h5.2, h6.2]; rfl
theorem mtE_full {h : EH} {L : Ef} {v : Vv} {l a : List Bd} (hv : mayV v = true) (hm : mtE h L v l = some a) : (∃ e, a = l ++ e) ∧ mtE h L v a = some a ∧ puE h L v a = true := by
  obtain ⟨h1, h2⟩ := mtE_law (mtL_law L) hv hm
  have := h2 []
  rw [List.append_nil] at this
  exact ⟨h1, this⟩
end Go.Proofs.YthnafdbebniapaaGreatDoor
namespace Go.Wk
open Go Go.ChangeShapes Go.WideShapes
set_option linter.unusedSimpArgs false
set_option linter.unusedVariables false
theorem at_heapOf (w : World) : At w (heapOf w) [] := ⟨fun _ _ h => h, fun p h => by simp at h, by simp [keys]⟩
theorem below_of {W W' : World} {F' : Heap} {G' : List Grp} (h : Tr W (heapOf W) [] W' F' G') : Go.RowKit.Below W.heap.size W W' :=
  ⟨h.os, h.tape, h.output, h.size, fun k hk => h.old k hk (by simp)⟩
end Go.Wk
