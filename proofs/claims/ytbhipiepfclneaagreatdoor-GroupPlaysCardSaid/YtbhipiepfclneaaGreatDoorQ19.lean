/- Walks. -/
import Derived.Test.YtbhipiepfclneaaGreatDoorQ18
set_option maxHeartbeats 16000000
set_option maxRecDepth 20000
namespace Go.Proofs.YtbhipiepfclneaaGreatDoor
open Go Go.Wk Go.Un Go.De Go.Num
set_option linter.unusedSimpArgs false
set_option linter.unusedVariables false
attribute [local irreducible] Go.wpList Go.Code.wp Go.wpStill Go.Wk.q26 Go.bodyPost Go.Calls Go.Wk.Ct Go.Wk.q0u Go.Wk.wpG Go.Wk.wpM
theorem q5o : ∀ {a b c : List UInt8}, Op.bytesLess a b = true → Op.bytesLess b c = true → Op.bytesLess a c = true
 | _, [], _, h, _ => by rename_i a _; cases a <;> simp [Op.bytesLess] at h
 | [], b :: y, [], _, h => by simp [Op.bytesLess] at h
 | [], b :: y, c :: z, _, _ => by simp [Op.bytesLess]
 | a :: x, b :: y, [], _, h => by simp [Op.bytesLess] at h
 | a :: x, b :: y, c :: z, h1, h2 => by
  simp only [Op.bytesLess, Bool.or_eq_true, decide_eq_true_eq, Bool.and_eq_true, beq_iff_eq, UInt8.lt_iff_toNat_lt] at h1 h2 ⊢
  rcases h1 with h1 | ⟨rfl, h1⟩
  ·rcases h2 with h2 | ⟨rfl, h2⟩
   ·exact .inl (by omega)
   ·exact .inl h1
  ·rcases h2 with h2 | ⟨rfl, h2⟩
   ·exact .inl h2
   ·exact .inr ⟨rfl, q5o h1 h2⟩
theorem qch : ∀ (a b : List UInt8), Op.bytesLess a b = false → Op.bytesLess b a = false → a = b
 | [], [], _, _ => rfl
 | [], b :: y, h, _ => by simp [Op.bytesLess] at h
 | a :: x, [], _, h => by simp [Op.bytesLess] at h
 | a :: x, b :: y, h1, h2 => by
  simp only [Op.bytesLess, Bool.or_eq_false_iff, decide_eq_false_iff_not, UInt8.lt_iff_toNat_lt] at h1 h2
  have e : a = b := UInt8.toNat_inj.1 (by omega)
  subst e
  have h3 : Op.bytesLess x y = false := by simpa using h1.2
  have h4 : Op.bytesLess y x = false := by simpa using h2.2
  rw [qch x y h3 h4]
theorem q9d : ∀ (a : List UInt8), Op.bytesLess a a = false
 | [] => rfl
 | a :: x => by simp [Op.bytesLess, q9d x]
structure Tri (p q r : Int) : Prop where
  t : p ≤ 0 → q ≤ 0 → r ≤ 0
  s1 : p < 0 → q ≤ 0 → r < 0
  s2 : p ≤ 0 → q < 0 → r < 0
theorem Tri.or2 {p q r p' q' r' : Int} (h : Tri p q r) (h2 : p = 0 → q = 0 → Tri p' q' r') : Tri (or2 p p') (or2 q q') (or2 r r') := by
 obtain ⟨t, s1, s2⟩ := h
 by_cases hp : p = 0
 ·by_cases hq : q = 0
  ·obtain ⟨t', s1', s2'⟩ := h2 hp hq
   subst hp; subst hq
   have := t (by omega) (by omega)
   unfold Go.Proofs.YtbhipiepfclneaaGreatDoor.or2
   by_cases hr : r = 0
   ·subst hr; exact ⟨by simpa using t', by simpa using s1', by simpa using s2'⟩
   ·rw [if_pos hr]; exact ⟨fun _ _ => this, fun _ _ => by omega, fun _ _ => by omega⟩
  ·subst hp
   unfold Go.Proofs.YtbhipiepfclneaaGreatDoor.or2
   rw [if_neg (by omega), if_pos hq]
   have := fun h => s2 (by omega : (0 : Int) ≤ 0) h
   refine ⟨fun _ h => ?_, fun _ h => ?_, fun _ h => ?_⟩ <;> (have h9 := this (by omega); rw [if_pos (by omega)]; omega)
 ·unfold Go.Proofs.YtbhipiepfclneaaGreatDoor.or2
  rw [if_pos hp]
  have hq : ∀ {x : Int}, (if q ≠ 0 then q else q') ≤ 0 → q ≤ 0 := fun h => by split at h <;> omega
  refine ⟨fun h1 h => ?_, fun h1 h => ?_, fun h1 h => ?_⟩ <;> (have h9 := s1 (by omega) (by split at h <;> omega); rw [if_pos (by omega)]; omega)
theorem Tri.swap {p q r : Int} (h : Tri p q r) : Tri q p r := ⟨fun a b => h.t b a, fun a b => h.s2 b a, fun a b => h.s1 b a⟩
theorem qpm (a b c : Int) : Tri (cI a b) (cI b c) (cI a c) := by
 constructor <;> intro h1 h2 <;> unfold cI at * <;> (repeat' split at h1) <;> (repeat' split at h2) <;> (repeat' split) <;> omega
theorem qge (a b : Int) : cI a b = - cI b a := by unfold cI; (repeat' split) <;> omega
theorem q9w {a b : Int} (h : cI a b = 0) : a = b := by unfold cI at h; (repeat' split at h) <;> omega
theorem qwp {s t : List UInt8} : cS s t ≤ 0 ↔ s = t ∨ Op.bytesLess s t = true := by
 unfold cS
 by_cases h : Op.bytesLess s t = true
 ·rw [if_pos h]; simp [h]
 ·rw [if_neg h]
  by_cases h2 : s = t
  ·rw [if_pos h2]; simp [h2]
  ·rw [if_neg h2]; simp [h, h2]
theorem u3z {s t : List UInt8} : cS s t < 0 ↔ Op.bytesLess s t = true := by
 unfold cS
 by_cases h : Op.bytesLess s t = true
 ·rw [if_pos h]; simp [h]
 ·rw [if_neg h]
  by_cases h2 : s = t
  ·rw [if_pos h2]; simp [h]
  ·rw [if_neg h2]; simp [h]
theorem qmv (a b c : List UInt8) : Tri (cS a b) (cS b c) (cS a c) where
 t h1 h2 := by
  rw [qwp] at *
  rcases h1 with rfl | h1
  ·exact h2
  ·rcases h2 with rfl | h2
   ·exact .inr h1
   ·exact .inr (q5o h1 h2)
 s1 h1 h2 := by
  rw [qwp] at h2
  rw [u3z] at *
  rcases h2 with rfl | h2
  ·exact h1
  ·exact q5o h1 h2
 s2 h1 h2 := by
  rw [qwp] at h1
  rw [u3z] at *
  rcases h1 with rfl | h1
  ·exact h2
  ·exact q5o h1 h2
theorem qg2 (s t : List UInt8) : cS s t = - cS t s := by
 unfold cS
 by_cases h : Op.bytesLess s t = true
 ·have h2 : ¬ Op.bytesLess t s = true := fun h2 => by have := q5o h h2; rw [q9d] at this; cases this
  have h3 : ¬ t = s := fun e => by rw [e, q9d] at h; cases h
  rw [if_pos h, if_neg h2, if_neg h3]
 ·by_cases h2 : Op.bytesLess t s = true
  ·have h3 : ¬ s = t := fun e => by rw [e, q9d] at h2; cases h2
   rw [if_neg h, if_neg h3, if_pos h2]; rfl
  ·have e : s = t := qch s t (by simpa using h) (by simpa using h2)
   subst e
   rw [if_neg h, if_pos rfl]; rfl
theorem qg9 {s t : List UInt8} (h : cS s t = 0) : s = t := by
 unfold cS at h
 split at h
 ·cases h
 ·split at h
  ·assumption
  ·cases h
theorem q9y (a b : Int) : or2 (-a) (-b) = - or2 a b := by unfold or2; (repeat' split) <;> omega
theorem q7f {a b : Int} (h : or2 a b = 0) : a = 0 ∧ b = 0 := by unfold or2 at h; split at h <;> omega
theorem q77 {s : List UInt8} (h : s.take 1 = [45]) : (s.drop 1).length + 1 = s.length := by cases s with | nil => cases h | cons a r => rfl
theorem q55 : ∀ (n m : Nat) (s t : List UInt8), s.length + t.length < n → s.length + t.length < m → qap n s t = qap m s t
 | 0, _, s, t, h, _ => absurd h (Nat.not_lt_zero _)
 | _, 0, s, t, _, h => absurd h (Nat.not_lt_zero _)
 | n + 1, m + 1, s, t, h1, h2 => by
  unfold qap
  by_cases h : s.take 1 = [45] ∧ t.take 1 = [45]
  ·rw [if_pos h, if_pos h]
   have e1 := q77 h.1
   have e2 := q77 h.2
   exact q55 n m _ _ (by omega) (by omega)
  ·rw [if_neg h, if_neg h]
theorem qfm : ∀ (n : Nat) (s t : List UInt8), qap n s t = - qap n t s
 | 0, s, t => rfl
 | n + 1, s, t => by
  unfold qap
  by_cases h1 : s.take 1 = [45]
  ·by_cases h2 : t.take 1 = [45]
   ·rw [if_pos ⟨h1, h2⟩, if_pos ⟨h2, h1⟩]; exact qfm n _ _
   ·rw [if_neg fun h => h2 h.2, if_pos h1, if_neg fun h => h2 h.1, if_neg h2, if_pos h1]
  ·by_cases h2 : t.take 1 = [45]
   ·rw [if_neg fun h => h1 h.1, if_neg h1, if_pos h2, if_neg fun h => h1 h.2, if_pos h2]; rfl
   ·rw [if_neg fun h => h1 h.1, if_neg h1, if_neg h2, if_neg fun h => h2 h.1, if_neg h2, if_neg h1, qge, qg2, q9y]
theorem qjn : ∀ (n : Nat) (s t u : List UInt8), Tri (qap n s t) (qap n t u) (qap n s u)
 | 0, s, t, u => ⟨fun _ _ => Int.le_refl _, fun h => absurd h (by decide : ¬ (0 : Int) < 0), fun _ h => absurd h (by decide : ¬ (0 : Int) < 0)⟩
 | n + 1, s, t, u => by
  unfold qap
  by_cases h1 : s.take 1 = [45]
  ·by_cases h2 : t.take 1 = [45]
   ·by_cases h3 : u.take 1 = [45]
    ·rw [if_pos ⟨h1, h2⟩, if_pos ⟨h2, h3⟩, if_pos ⟨h1, h3⟩]
     exact (qjn n (u.drop 1) (t.drop 1) (s.drop 1)).swap
    ·rw [if_pos ⟨h1, h2⟩, if_neg fun h => h3 h.2, if_pos h2, if_neg fun h => h3 h.2, if_pos h1]
     constructor <;> intros <;> omega
   ·rw [if_neg fun h => h2 h.2, if_pos h1, if_neg fun h => h2 h.1, if_neg h2]
    by_cases h3 : u.take 1 = [45]
    ·rw [if_pos h3]; constructor <;> intros <;> omega
    ·rw [if_neg h3, if_neg fun h => h3 h.2, if_pos h1]; constructor <;> intros <;> omega
  ·by_cases h2 : t.take 1 = [45]
   ·rw [if_neg fun h => h1 h.1, if_neg h1, if_pos h2]; constructor <;> intros <;> omega
   ·by_cases h3 : u.take 1 = [45]
    ·rw [if_neg fun h => h1 h.1, if_neg h1, if_neg h2, if_neg fun h => h2 h.1, if_neg h2, if_pos h3]; constructor <;> intros <;> omega
    ·rw [if_neg fun h => h1 h.1, if_neg h1, if_neg h2, if_neg fun h => h2 h.1, if_neg h2, if_neg h3, if_neg fun h => h1 h.1, if_neg h1, if_neg h3]
     exact (qpm _ _ _).or2 fun _ _ => qmv _ _ _
theorem qdx : ∀ (n : Nat) (s t : List UInt8), s.length + t.length < n → qap n s t = 0 → s = t
 | 0, s, t, h, _ => absurd h (Nat.not_lt_zero _)
 | n + 1, s, t, hn, h => by
  unfold qap at h
  by_cases h1 : s.take 1 = [45] ∧ t.take 1 = [45]
  ·rw [if_pos h1] at h
   have e1 := q77 h1.1
   have e2 := q77 h1.2
   have h3 := qdx n _ _ (by omega) h
   rw [← List.take_append_drop 1 s, ← List.take_append_drop 1 t, h1.1, h1.2, h3]
  ·rw [if_neg h1] at h
   split at h
   ·cases h
   ·split at h
    ·cases h
    ·exact qg9 (q7f h).2
theorem qkt (s t : List UInt8) : qa0 s t = - qa0 t s := by
 unfold qa0
 rw [qfm, q55 (s.length + t.length + 1) (t.length + s.length + 1) t s (by omega) (by omega)]
theorem qol (s t u : List UInt8) : Tri (qa0 s t) (qa0 t u) (qa0 s u) := by
 unfold qa0
 rw [q55 (s.length + t.length + 1) (s.length + t.length + u.length + 1) s t (by omega) (by omega), q55 (t.length + u.length + 1) (s.length + t.length + u.length + 1) t u (by omega) (by omega), q55 (s.length + u.length + 1) (s.length + t.length + u.length + 1) s u (by omega) (by omega)]
 exact qjn _ s t u
theorem qjz {s t : List UInt8} (h : qa0 s t = 0) : s = t := qdx _ s t (by omega) h
def u42 (h : VH) (L : Vf) (h2 : VH) (L2 : Vf) : Int := if h.k = 3 then qa0 h.s h2.s else if h.k = 4 then cS h.s h2.s else or2 (cI h.n h2.n) (or2 (cS h.s h2.s) (cmpL L L2))
theorem qbl (h : VH) (L : Vf) (h2 : VH) (L2 : Vf) : qan h L h2 L2 = or2 (cI h.k h2.k) (if h.k = h2.k then u42 h L h2 L2 else 0) := by
 unfold qan u42
 by_cases hk : h.k = h2.k
 ·rw [if_neg (by omega), if_pos hk]
  have : cI (h.k : Int) (h2.k : Int) = 0 := by unfold cI; rw [if_neg (by omega), if_neg (by omega)]
  rw [this]
  unfold or2; rw [if_neg (by omega : ¬ (0 : Int) ≠ 0)]
 ·rw [if_pos hk, if_neg hk]
  have : cI (h.k : Int) (h2.k : Int) ≠ 0 := fun e => hk (by have := q9w e; omega)
  unfold or2; rw [if_pos this]
theorem q2g : ∀ l m : Vf, cmpL l m = - cmpL m l
 | .nil, .nil => rfl
 | .nil, .cons _ _ _ => rfl
 | .cons _ _ _, .nil => rfl
 | .cons h L r, .cons h2 L2 r2 => by
  rw [q3n, q3n, q2g r r2, ← q9y]
  congr 1
  rw [qbl, qbl, qge, ← q9y]
  congr 1
  by_cases hk : h.k = h2.k
  ·rw [if_pos hk, if_pos hk.symm]
   unfold u42
   rw [hk]
   split
   ·exact qkt _ _
   ·split
    ·exact qg2 _ _
    ·rw [qge, qg2, q2g L L2, q9y, q9y]
  ·rw [if_neg hk, if_neg (Ne.symm hk)]; rfl
theorem q7v : ∀ l m u : Vf, Tri (cmpL l m) (cmpL m u) (cmpL l u)
 | .nil, m, .cons _ _ _ => ⟨fun _ _ => (by decide : (-1 : Int) ≤ 0), fun _ _ => (by decide : (-1 : Int) < 0), fun _ _ => (by decide : (-1 : Int) < 0)⟩
 | .nil, .nil, .nil => ⟨fun _ _ => Int.le_refl _, fun h => absurd h (by decide : ¬ (0 : Int) < 0), fun _ h => absurd h (by decide : ¬ (0 : Int) < 0)⟩
 | .nil, .cons _ _ _, .nil => ⟨fun _ h => absurd h (by decide : ¬ (1 : Int) ≤ 0), fun _ h => absurd h (by decide : ¬ (1 : Int) ≤ 0), fun _ h => absurd h (by decide : ¬ (1 : Int) < 0)⟩
 | .cons _ _ _, .nil, u => ⟨fun h => absurd h (by decide : ¬ (1 : Int) ≤ 0), fun h => absurd h (by decide : ¬ (1 : Int) < 0), fun h => absurd h (by decide : ¬ (1 : Int) ≤ 0)⟩
 | .cons _ _ _, .cons _ _ _, .nil => ⟨fun _ h => absurd h (by decide : ¬ (1 : Int) ≤ 0), fun _ h => absurd h (by decide : ¬ (1 : Int) ≤ 0), fun _ h => absurd h (by decide : ¬ (1 : Int) < 0)⟩
 | .cons h L r, .cons h2 L2 r2, .cons h3 L3 r3 => by
  rw [q3n, q3n, q3n]
  refine Tri.or2 ?_ fun _ _ => q7v r r2 r3
  rw [qbl, qbl, qbl]
  refine (qpm _ _ _).or2 fun e1 e2 => ?_
  have k1 : h.k = h2.k := by have := q9w e1; omega
  have k2 : h2.k = h3.k := by have := q9w e2; omega
  rw [if_pos k1, if_pos k2, if_pos (k1.trans k2)]
  unfold u42
  rw [k1, k2]
  split
  ·exact qol _ _ _
  ·split
   ·exact qmv _ _ _
   ·exact (qpm _ _ _).or2 fun _ _ => (qmv _ _ _).or2 fun _ _ => q7v L L2 L3
theorem q4a : ∀ {l m : Vf}, q29 l = true → q29 m = true → cmpL l m = 0 → l = m
 | .nil, .nil, _, _, _ => rfl
 | .nil, .cons _ _ _, _, _, h => absurd h (by decide : ¬ (-1 : Int) = 0)
 | .cons _ _ _, .nil, _, _, h => absurd h (by decide : ¬ (1 : Int) = 0)
 | .cons h L r, .cons h2 L2 r2, f1, f2, e => by
  rw [q3n] at e
  obtain ⟨e1, e2⟩ := q7f e
  rw [q24, Bool.and_eq_true, Bool.and_eq_true] at f1 f2
  rw [q4a f1.2 f2.2 e2]
  rw [qbl] at e1
  obtain ⟨e3, e4⟩ := q7f e1
  have hk : h.k = h2.k := by have := q9w e3; omega
  rw [if_pos hk] at e4
  have g1 := f1.1.1
  have g2 := f2.1.1
  obtain ⟨k, n, s⟩ := h
  obtain ⟨k', n', s'⟩ := h2
  dsimp only at hk e4
  subst hk
  unfold u42 at e4
  unfold q16 at g1 g2
  dsimp only at e4 g1 g2
  have hnil : ∀ {L : Vf}, L.len = 0 → L = .nil := fun {L} h => by cases L with | nil => rfl | cons _ _ _ => exact absurd h (Nat.succ_ne_zero _)
  by_cases k3 : k = 3
  ·subst k3
   simp only [if_pos, Nat.reduceEqDiff, if_false, Bool.and_eq_true, decide_eq_true_eq] at e4 g1 g2
   rw [qjz e4, g1.2.1, g2.2.1, hnil g1.2.2, hnil g2.2.2]
  ·rw [if_neg k3] at e4
   by_cases k4 : k = 4
   ·subst k4
    simp only [if_pos, Nat.reduceEqDiff, if_false, decide_eq_true_eq] at e4 g1 g2
    rw [qg9 e4, g1.1, g2.1, hnil g1.2, hnil g2.2]
   ·rw [if_neg k4] at e4
    obtain ⟨e5, e6⟩ := q7f e4
    obtain ⟨e7, e8⟩ := q7f e6
    rw [q9w e5, qg9 e7, q4a f1.1.2 f2.1.2 e8]
theorem qhx {x : Vv} (h : q3q x = true) : q29 (.cons x.1 x.2 .nil) = true := by
 have := q38 (of_decide_eq_true h)
 rw [q24, this.1, this.2]; rfl
theorem qbi {x y : Vv} (hx : q3q x = true) (hy : q3q y = true) : q40 x y = cmpL (.cons x.1 x.2 .nil) (.cons y.1 y.2 .nil) := by
 unfold q40
 rw [if_pos ⟨hx, hy⟩, q3n]
 show _ = or2 _ 0
 unfold or2
 split
 ·rfl
 ·omega
theorem q2x {x y : Vv} (hx : q3q x = true) (hy : q3q y = true) : q40 x y = - q40 y x := by rw [qbi hx hy, qbi hy hx]; exact q2g _ _
theorem q8z {x y z : Vv} (hx : q3q x = true) (hy : q3q y = true) (hz : q3q z = true) : Tri (q40 x y) (q40 y z) (q40 x z) := by rw [qbi hx hy, qbi hy hz, qbi hx hz]; exact q7v _ _ _
theorem qpx {x y : Vv} (hx : q3q x = true) (hy : q3q y = true) (h : q40 x y = 0) : x = y := by
 rw [qbi hx hy] at h
 have := q4a (qhx hx) (qhx hy) h
 injection this with h1 h2
 exact Prod.ext h1 h2
def qih (sg : Int) (l : List Vv) (m : Vv) : Prop := m ∈ l ∧ ∀ x ∈ l, sg * q40 x m ≤ 0
theorem qfy {sg : Int} (hs : sg = 1 ∨ sg = -1) {l l' : List Vv} {m m' : Vv} (hm : ∀ x ∈ l, q3q x = true) (hp : ∀ x, x ∈ l ↔ x ∈ l') (h : qih sg l m) (h' : qih sg l' m') : m = m' := by
 have h1 := h.2 m' ((hp _).2 h'.1)
 have h2 := h'.2 m ((hp _).1 h.1)
 have a := hm m h.1
 have b := hm m' ((hp _).2 h'.1)
 have h3 := q2x a b
 refine qpx a b ?_
 rcases hs with rfl | rfl <;> omega
theorem qae {sg : Int} (hs : sg = 1 ∨ sg = -1) : ∀ (l : List Vv) (m : Vv), q3q m = true → (∀ x ∈ l, q3q x = true) → qih sg (m :: l) (q52 (sgF sg) m l)
 | [], m, hm, _ => ⟨List.mem_singleton.2 rfl, fun x hx => by
   rw [List.mem_singleton] at hx
   subst hx
   show sg * q40 x x ≤ 0
   have := q2x hm hm
   rcases hs with rfl | rfl <;> omega⟩
 | x :: r, m, hm, h => by
  have hx := h x (qaH ..)
  have hr : ∀ y ∈ r, q3q y = true := fun y hy => h y (List.mem_cons_of_mem _ hy)
  rw [q52]
  have a := q2x hx hm
  have b := q2x hx hx
  have c := q2x hm hm
  by_cases hc : 0 < sgF sg x m
  ·rw [if_pos hc]
   obtain ⟨h1, h2⟩ := qae hs r x hx hr
   have h3 := h2 x (qaH ..)
   have hb : q3q (q52 (sgF sg) x r) = true := by
    rcases List.mem_cons.1 h1 with e | e
    ·rw [e]; exact hx
    ·exact hr _ e
   refine ⟨List.mem_cons_of_mem _ h1, fun y hy => ?_⟩
   rcases List.mem_cons.1 hy with rfl | hy
   ·unfold sgF at hc
    have t1 := q8z hm hx hb
    have t2 := q8z hb hx hm
    have d1 := q2x hb hx
    have d2 := q2x hb hm
    rcases hs with rfl | rfl
    ·have := t1.t (by omega) (by omega); omega
    ·have := t2.t (by omega) (by omega); omega
   ·exact h2 y hy
  ·rw [if_neg hc]
   obtain ⟨h1, h2⟩ := qae hs r m hm hr
   have h3 := h2 m (qaH ..)
   have hb : q3q (q52 (sgF sg) m r) = true := by
    rcases List.mem_cons.1 h1 with e | e
    ·rw [e]; exact hm
    ·exact hr _ e
   refine ⟨(List.mem_cons.1 h1).elim (fun e => by rw [e]; exact qaH ..) fun e => List.mem_cons_of_mem _ (List.mem_cons_of_mem _ e), fun y hy => ?_⟩
   rcases List.mem_cons.1 hy with rfl | hy
   ·exact h3
   ·rcases List.mem_cons.1 hy with rfl | hy
    ·unfold sgF at hc
     have t1 := q8z hx hm hb
     have t2 := q8z hb hm hx
     have d1 := q2x hb hm
     have d2 := q2x hb hx
     rcases hs with rfl | rfl
     ·have := t1.t (by omega) (by omega); omega
     ·have := t2.t (by omega) (by omega); omega
    ·exact h2 y (List.mem_cons_of_mem _ hy)
def q82 (s : List UInt8) (l : List Vv) : Int × Vv :=
 if s = q47 then (0, qmf l.length) else if s = q5u then qg7 l else if s = qjw then (0, q52 (sgF (-1)) (l.headD zV) (l.drop 1)) else (0, q52 (sgF 1) (l.headD zV) (l.drop 1))
theorem qmx {sg : Int} (hs : sg = 1 ∨ sg = -1) {l : List Vv} (h0 : l ≠ []) (hm : ∀ x ∈ l, q3q x = true) : qih sg l (q52 (sgF sg) (l.headD zV) (l.drop 1)) := by
 cases l with
 | nil => exact absurd rfl h0
 | cons m r => exact qae hs r m (hm m (qaH ..)) fun x hx => hm x (List.mem_cons_of_mem _ hx)
theorem qf2 {sg : Int} (hs : sg = 1 ∨ sg = -1) {l l' : List Vv} (h0 : l ≠ []) (hp : l.Perm l') (hm : ∀ x ∈ l, q3q x = true) : q52 (sgF sg) (l.headD zV) (l.drop 1) = q52 (sgF sg) (l'.headD zV) (l'.drop 1) := by
 have h0' : l' ≠ [] := fun e => h0 (by rw [e] at hp; exact hp.eq_nil)
 exact qfy hs hm (fun x => hp.mem_iff) (qmx hs h0 hm) (qmx hs h0' fun x hx => hm x (hp.mem_iff.2 hx))
theorem qr8 {l l' : List Int} (h : l.Perm l') : l.sum = l'.sum := by
 induction h with
 | nil => rfl
 | cons x _ ih => rw [List.sum_cons, List.sum_cons, ih]
 | swap x y l => simp only [List.sum_cons]; omega
 | trans _ _ h1 h2 => exact h1.trans h2
theorem qlw {s : List UInt8} {l l' : List Vv} (h0 : l ≠ []) (hp : l.Perm l') (hm : ∀ x ∈ l, q3q x = true) (hk : s = q5u → ∀ x ∈ l, ∀ y ∈ l, x.1.k = y.1.k) : q82 s l = q82 s l' := by
 unfold q82
 split
 ·rw [hp.length_eq]
 ·split
  ·rename_i hs
   have h0' : l' ≠ [] := fun e => h0 (by rw [e] at hp; exact hp.eq_nil)
   have e : (l.headD zV).1.k = (l'.headD zV).1.k := by
    cases l with
    | nil => exact absurd rfl h0
    | cons a r =>
     cases l' with
     | nil => exact absurd rfl h0'
     | cons b r' => exact hk hs a (qaH ..) b (hp.mem_iff.2 (qaH ..))
   unfold qg7
   rw [e, qr8 (hp.map q6w)]
  ·split
   ·rw [qf2 (.inr rfl) h0 hp hm]
   ·rw [qf2 (.inl rfl) h0 hp hm]
def qaj (ws : List (List UInt8 × Vf)) (i : Nat) : List Vv := ws.map fun p => (p.2.get? i).getD zV
def q43 (aggs : List (List UInt8)) (ws : List (List UInt8 × Vf)) (i : Nat) : Int × Vv := q82 (aggs.getD i []) (qaj ws i)
theorem qgh : ∀ {l : Vf}, (q13 l).isSome = true → ∀ {k : Nat} {x : Vv}, l.get? k = some x → q3q x = true
 | .cons h L r, hs, k, x, hx => by
  unfold q13 at hs
  by_cases hc : q2e h L = 0
  ·rw [if_pos hc] at hs
   have hs2 : (q13 r).isSome = true := by cases hr : q13 r with | none => rw [hr] at hs; cases hs | some _ => rfl
   cases k with
   | zero => cases hx; exact decide_eq_true hc
   | succ k => exact qgh hs2 (k := k) hx
  ·rw [if_neg hc] at hs; cases hs
theorem WsR.split {F : q01} {p : List UInt8 × Value} {l2 : List (List UInt8 × Value)} : ∀ {l1 : List (List UInt8 × Value)} {x : List (List UInt8 × Vf)}, WsR F x (l1 ++ p :: l2) → ∃ m1 q m2, x = m1 ++ q :: m2 ∧ WsR F m1 l1 ∧ TrS F 4 VhR p.2 q.2 ∧ WsR F m2 l2
 | [], (t, l) :: r, ⟨h1, h2, h3⟩ => ⟨[], (t, l), r, rfl, trivial, h2, h3⟩
 | (a, v) :: l1, (t, l) :: r, ⟨h1, h2, h3⟩ => by
  obtain ⟨m1, q, m2, rfl, h4, h5, h6⟩ := WsR.split (l1 := l1) h3
  exact ⟨(t, l) :: m1, q, m2, rfl, ⟨h1, h2, h4⟩, h5, h6⟩
 | [], [], h => by cases h
 | _ :: _, [], h => by cases h
theorem WsR.app {F : q01} {l2 : List (List UInt8 × Value)} {m2 : List (List UInt8 × Vf)} (h2 : WsR F m2 l2) : ∀ {l1 : List (List UInt8 × Value)} {m1 : List (List UInt8 × Vf)}, WsR F m1 l1 → WsR F (m1 ++ m2) (l1 ++ l2)
 | [], [], _ => h2
 | (_, _) :: _, (_, _) :: _, ⟨a, b, c⟩ => ⟨a, b, WsR.app h2 c⟩
theorem qth (F : q01) (hT : q50 F) (hE : qf6 F) (c1 c2 : Nat) (h1 : Cel F c1 0 (.int .i64 (-1))) (h2 : Cel F c2 0 (.int .i64 1)) (s : List UInt8) (hs : q31 s = true) (v : Value) (l : List Vv) (hv : LiM F 4 (RoR 4 VhR) v l) (h0 : 0 < l.length) (hl : l.length ≤ 1000000000) (hn : s = q5u → ∀ x ∈ l, q8b x) :
  ∃ fid ca, (q4g (u40 c1 c2) s).getD .nilFunc = .func (.func fid) ⟨[]⟩ ⟨ca⟩ ∧ q0b Tryz.prog fid ∧ Ct Tryz.prog fid ([] ++ [v] ++ ca) F [] (fun _ _ u => u0o F (q82 s l) u) := by
 unfold q31 at hs
 rw [decide_eq_true_eq] at hs
 rcases hs with rfl | rfl | rfl | rfl
 ·refine ⟨52, [], rfl, inferInstance, ?_⟩
  rw [show q82 q47 l = (0, qmf l.length) from if_pos rfl]
  exact qzb F v l hv
 ·refine ⟨53, [], rfl, inferInstance, ?_⟩
  rw [show q82 q5u l = qg7 l from by unfold q82; rw [if_neg (by decide), if_pos rfl]]
  exact u5m F hT hE v l hv h0 (hn rfl) hl
 ·refine ⟨49, [.pointer (some ⟨c1, 0, none⟩)], rfl, inferInstance, ?_⟩
  rw [show q82 qjw l = (0, q52 (sgF (-1)) (l.headD zV) (l.drop 1)) from by unfold q82; rw [if_neg (by decide), if_neg (by decide), if_pos rfl]]
  exact qmj F c1 (-1) (.inr rfl) h1 v l hv h0
 ·refine ⟨49, [.pointer (some ⟨c2, 0, none⟩)], rfl, inferInstance, ?_⟩
  rw [show q82 qkp l = (0, q52 (sgF 1) (l.headD zV) (l.drop 1)) from by unfold q82; rw [if_neg (by decide), if_neg (by decide), if_neg (by decide)]]
  exact qmj F c2 1 (.inl rfl) h2 v l hv h0
def ThX (x : Vv) : Prop := x.2.len * 56 ≤ 140737488355328 ∧ ThV x.2
theorem qcs (h : VH) : ThX (h, .nil) := ⟨Nat.zero_le _, trivial⟩
theorem qjh {c : Vv → Vv → Int} : ∀ (l : List Vv) (m : Vv), q52 c m l = m ∨ q52 c m l ∈ l
 | [], m => .inl rfl
 | x :: r, m => by
  rw [q52]
  rcases qjh r (if 0 < c x m then x else m) with h | h
  ·rw [h]; split
   ·exact .inr (qaH ..)
   ·exact .inl rfl
  ·exact .inr (List.mem_cons_of_mem _ h)
theorem qww {s : List UInt8} {l : List Vv} (h0 : l ≠ []) (h : ∀ x ∈ l, ThX x) : ThX (q82 s l).2 := by
 have hm : ∀ c : Vv → Vv → Int, ThX (q52 c (l.headD zV) (l.drop 1)) := fun c => by
  cases l with
  | nil => exact absurd rfl h0
  | cons m r =>
   rcases qjh (c := c) r m with e | e
   ·rw [show q52 c ((m :: r).headD zV) ((m :: r).drop 1) = q52 c m r from rfl, e]; exact h m (qaH ..)
   ·exact h _ (List.mem_cons_of_mem _ e)
 unfold q82
 split
 ·exact qcs _
 ·split
  ·unfold qg7
   split <;> split <;> exact qcs _
  ·split
   ·exact hm _
   ·exact hm _
theorem qd4 : ∀ {l : List Vv}, (∀ x ∈ l, ThX x) → ThV (q1s l)
 | [], _ => trivial
 | x :: r, h => ⟨(h x (qaH ..)).1, (h x (qaH ..)).2, qd4 fun y hy => h y (List.mem_cons_of_mem _ hy)⟩
theorem qwv {l : Vf} (h : ThV l) {k : Nat} {x : Vv} (hx : l.get? k = some x) : ThX x := h.get hx
def u8t (aggs : List (List UInt8)) (ws : List (List UInt8 × Vf)) (gg : Grp) (G' : List Grp) (u : Value) : Prop :=
 (∃ i, i < aggs.length ∧ (q43 aggs ws i).1 ≠ 0 ∧ (∀ j, j < i → (q43 aggs ws j).1 = 0) ∧ u = .tuple ⟨[.slice none 0 0, .int .i64 (q43 aggs ws i).1]⟩ ∧ G' = [gg]) ∨
 ((∀ i, i < aggs.length → (q43 aggs ws i).1 = 0) ∧ ∃ v gO, u = .tuple ⟨[v, .int .i64 0]⟩ ∧ G' = [gg, gO] ∧ OwS gO v (q1s ((List.range aggs.length).map fun i => (q43 aggs ws i).2)))
theorem qtv {m1 m2 : List (List UInt8 × Vf)} {q : List UInt8 × Vf} {i : Nat} {x : Vv} {cu l : List Vv} (hx : q.2.get? i = some x) (h : (cu ++ qaj (m1 ++ q :: m2) i).Perm l) : ((cu ++ [x]) ++ qaj (m1 ++ m2) i).Perm l := by
 refine List.Perm.trans ?_ h
 unfold qaj
 rw [List.map_append, List.map_append, List.map_cons, hx, Option.getD_some, qaB]
 refine List.Perm.append_left _ ?_
 rw [List.singleton_append]
 exact List.perm_middle.symm
theorem qb8 {α : Type} (f : Nat → α) (n : Nat) : (List.range (n + 1)).map f = (List.range n).map f ++ [f n] := by rw [List.range_succ, List.map_append]; rfl
theorem qe6 {aggs : List (List UInt8)} {i : Nat} {s : List UInt8} (h : aggs.all q31 = true) (hx : aggs[i]? = some s) : q31 s = true := List.all_eq_true.1 h s (List.mem_of_getElem? hx)
theorem qb1 {aggs : List (List UInt8)} {k : List UInt8} {en : En} (hI : qvb aggs k en) {i : Nat} (hi : i < aggs.length) : ∀ x ∈ qaj en.ways i, ∃ w ∈ en.ways, w.2.get? i = some x := by
 intro x hx
 obtain ⟨w, hw, rfl⟩ := List.mem_map.1 hx
 obtain ⟨y, hy⟩ := q1d.get_lt (l := w.2) (k := i) (by rw [hI.len w hw]; exact hi)
 exact ⟨w, hw, by rw [hy]; rfl⟩
theorem ql8 {aggs : List (List UInt8)} {k : List UInt8} {en : En} (hI : qvb aggs k en) {i : Nat} (hi : i < aggs.length) : ∀ x ∈ qaj en.ways i, q3q x = true := fun x hx => by
 obtain ⟨w, hw, h⟩ := qb1 hI hi x hx
 exact qgh (hI.may w hw) h
theorem u09 {aggs : List (List UInt8)} {k : List UInt8} {en : En} (hI : qvb aggs k en) {i : Nat} (hi : i < aggs.length) : ∀ x ∈ qaj en.ways i, ThX x := fun x hx => by
 obtain ⟨w, hw, h⟩ := qb1 hI hi x hx
 exact qwv (hI.row w hw).th h
theorem qqh {aggs : List (List UInt8)} {k : List UInt8} {en : En} (hI : qvb aggs k en) {i : Nat} (hi : i < aggs.length) (hs : aggs.getD i [] = q5u) : ∀ x ∈ qaj en.ways i, q8b x := fun x hx => by
 obtain ⟨w, hw, h⟩ := qb1 hI hi x hx
 have h1 := hI.num w hw i hi hs
 rw [qa9 h] at h1
 have h2 := (((hI.row w hw).rg).get h).1
 have h3 := qgh (hI.may w hw) h
 rcases h1 with h1 | h1
 ·exact .inl ⟨h1, h2⟩
 ·refine .inr ⟨h1, ?_⟩
  unfold q3q at h3
  rw [decide_eq_true_eq] at h3
  have h4 := (q38 h3).1
  unfold q16 at h4
  rw [if_neg (by omega), if_neg (by omega), if_pos h1, Bool.and_eq_true] at h4
  refine qec h4.1 ?_
  unfold q2e at h3
  split at h3
  ·cases h3
  ·split at h3
   ·cases h3
   ·split at h3
    ·cases h3
    ·rename_i h5
     rw [Bool.not_eq_false, Bool.and_eq_true] at h5
     have h6 := h5.1
     unfold q53 at h6
     rw [if_pos h1, decide_eq_true_eq] at h6
     exact h6
theorem qjd {aggs : List (List UInt8)} {k : List UInt8} {en : En} (hI : qvb aggs k en) {i : Nat} (hi : i < aggs.length) (hs : aggs.getD i [] = q5u) : ∀ x ∈ qaj en.ways i, ∀ y ∈ qaj en.ways i, x.1.k = y.1.k := fun x hx y hy => by
 obtain ⟨w, hw, h⟩ := qb1 hI hi x hx
 obtain ⟨w', hw', h'⟩ := qb1 hI hi y hy
 have := hI.kind w hw w' hw' i hs
 rwa [qa9 h, qa9 h'] at this
theorem qof (ws : List (List UInt8 × Vf)) (i : Nat) : (qaj ws i).length = ws.length := List.length_map ..
theorem WsR.nil {F : q01} : ∀ {x : List (List UInt8 × Vf)}, WsR F x [] → x = []
 | [], _ => rfl
 | _ :: _, h => by cases h
theorem quc {aggs : List (List UInt8)} {k : List UInt8} {en : En} (hI : qvb aggs k en) (i : Nat) : qaj en.ways i ≠ [] := fun e => hI.ne (List.map_eq_nil_iff.1 e)
theorem u07 {p : Prop} (h : p := by (first | (refine .inr ⟨fun j hj => hall j hj, uG, gO, rfl, rfl, hOg⟩) | (refine .inl ⟨i, by omega, by (rw [hrr]; assumption), hall, by rw [hrr], rfl⟩))) : p := h
theorem qqv (F : q01) (hT : q50 F) (hE : qf6 F) (bg : Nat) (av : Value) (gv : Gv) (gg : Grp) (aggs : List (List UInt8)) (hG : GsS bg av gv gg) (hA : LiM F 1 StR av aggs) (h8 : aggs.length ≤ 8) (hkn : aggs.all q31 = true) (key : Vf) (v1 : Value) (h1 : TrS F 4 VhR v1 key) (r1 : q2r key)
  (k9 : List UInt8) (hk : q13 key = some k9) (e : Ev) (en : En) (hsome : alG gv k9 = some e) (hkv : TrS F 4 VhR e.kv en.key) (hW : WsR F en.ways e.ws) (hI : qvb aggs k9 en) (hcn : en.ways.length ≤ 1000000000) :
  Ct Tryz.prog 15 [.pointer (some ⟨bg, 0, none⟩), v1] F [gg] (fun _ G' u => u8t aggs en.ways gg G' u) := by
 have t1 := q2n F hT v1 key h1 r1.rg r1.wt
 rw [hk] at t1
 obtain ⟨bm, om, gw, rfl, hm, hw⟩ := hG
 obtain ⟨x1, x2, rfl, hx1, -, -⟩ := q23 hsome
 obtain ⟨g1, ow, g2, rfl, how, hwa, hwb⟩ := WaS.split hw
 have hmg : q4g (gvM (x1 ++ (k9, e) :: x2)) k9 = some (evV e) := by rw [q6f, hsome]; rfl
 obtain ⟨kv, eb, ews⟩ := e
 obtain ⟨akv, ckv, rfl, -⟩ := hkv
 obtain ⟨aa, ca, rfl, hca, hpa⟩ := hA
 obtain ⟨a1, c1, rfl, -⟩ := h1
 generalize en.key.len = kvn at hm hmg hsome ⊢
 refine Ct.enter Tryz.func15 rfl Tryz.ntmps15 rfl fun w0 a S => ?_
 revert a; refine go 6 ?_; intro Z hZ a S
 (refine wp_seq_k ?_; intro Z hZ)
 (replace S := u4a S)
 revert a; refine go 2 ?_; intro a S
 (refine wv S (q1b S rfl rfl rfl) ?_; clear S a; intro a S)
 revert a; revert Z; refine go 2 ?_; intro a S
 refine q03 S rfl ?_
 revert a; revert Z; refine go 4 ?_; intro Z hZ a S
 (refine wc0 S t1 ?_; clear S a; intro v9 a w hv S; subst hv; unfold tvV at S)
 revert a; revert Z; refine go 10 ?_; intro Z hZ Z hZ a S
 (refine wv S (q0j (c := false) (q09 S rfl) (by rfl)) ?_; clear S a; intro a S)
 revert a; revert Z; refine go 2 ?_; intro a S
 refine q03 S rfl ?_
 revert a; revert Z; refine go 8 ?_; intro Z hZ a S
 (refine wv S (q3h (enc := kS) (k := k9) S rfl rfl rfl hm) ?_; clear S a; intro a S; rw [hmg] at S; unfold evV at S)
 revert a; refine go 3 ?_; intro a S
 (refine q0a S rfl rfl rfl rfl ?_; clear S a; intro b8 a w S)
 (refine wso S rfl rfl ?_; clear S; intro w S)
 revert a; revert Z; refine go 6 ?_; intro Z hZ Z hZ a S
 (refine wv S (q0j (c := false) (q09 S rfl) (by rfl)) ?_; clear S a; intro a S)
 revert a; revert Z; refine go 2 ?_; intro a S
 refine q03 S rfl ?_
 revert a; revert Z; refine go 3 ?_; intro Z hZ a S
 (refine wcF S (qlf F) ?_; clear S a; intro u9 F9 a w hv hF9 S; obtain ⟨bk, rfl, hkm⟩ := hv)
 revert a; revert Z; refine go 18 ?_; intro Z hZ a S
 refine q04 (fun m a w' => ∃ (i : Nat) (F3 : q01) (vO : Value) (gO : Grp) (xO : List Value), m = aggs.length - i ∧ i ≤ aggs.length ∧ (∀ b o, F9 b = some o → F3 b = some o) ∧ (∀ j, j < i → (q43 aggs en.ways j).1 = 0) ∧ q0u 45 4 vO i xO gO ∧ LiC F3 4 (RoR 4 VhR) xO ((List.range i).map fun j => (q43 aggs en.ways j).2) ∧ St 82 [(8, ptr b8), (10, .map (some bk)), (11, vO), (43, .slice aa aggs.length ca), (44, .int .i64 aggs.length), (45, .int .i64 i)] w0 F (keys [(bg, .cells ⟨[.slice aa aggs.length ca, .map (some bm)]⟩ 75 (0, 0)) :: (bm, om) :: (g1 ++ (eb, ow) :: g2)]) F3 [gO, [(b8, .cells ⟨[.slice akv kvn ckv, .map (some eb)]⟩ 80 (0, 0))], [(bg, .cells ⟨[.slice aa aggs.length ca, .map (some bm)]⟩ 75 (0, 0))], [(bm, om)], g1, [(eb, ow)], g2] a w') ?_ ?_
 ·(refine ⟨aggs.length, 0, F9, .slice none 0 0, [], [], by omega, Nat.zero_le _, (fun _ _ h => h), (fun j h => absurd h (Nat.not_lt_zero _)), q0u.nil _ _, rfl, ?_⟩; replace S := S.nilg; refine S.keep ?_; exact zk)
 (clear S; rintro m a w ⟨i, F3, vO, gO, xO, rfl, hil, hF3, hall, hO, hLO, S⟩)
 revert a; refine go 5 ?_; intro Z hZ a S
 refine q00 S rfl ?_ ?_ <;> intro h
 ·revert a; revert Z; refine go 4 ?_; intro Z hZ a S
  (refine wp_seq_k ?_; intro Z hZ)
  (obtain ⟨bA, oA, haoA, s, cs1, hx, hcc, hR1⟩ := LiM.pos hpa (k := i) (by omega); rw [haoA] at S; obtain rfl : cs1 = _ := hR1; have hxd : aggs.getD i [] = s := (by rw [List.getD_eq_getElem?_getD, hx]; rfl); have hF03 : ∀ b o, F b = some o → F3 b = some o := (fun b o h => hF3 _ _ (hF9 _ _ h)); have hc1 : Cel F3 bA (oA + i * 1) (.string (bs s)) := Cel.mono hF03 (hcc 0 _ rfl))
  revert a; refine go 3 ?_; intro a S
  (refine wv S (q05 S rfl rfl hc1) ?_; clear S a; intro a S)
  revert a; revert Z; refine go 12 ?_; intro Z hZ Z hZ a S
  (refine q4d (enc := kS) S rfl rfl rfl rfl rfl (by exact S.has inferInstance) how ?_; clear S a; intro b52 oi a w hit S)
  revert a; revert Z; refine go 3 ?_; intro a S
  refine q04 (fun m a w' => ∃ (lv : List (List UInt8 × Value)) (lw : List (List UInt8 × Vf)) (cu : List Vv) (v : Value) (g : Grp) (xs : List Value) (cr : Option (List UInt8 × Value)) (oi : Obj), m = lv.length ∧ WsR F3 lw lv ∧ (cu ++ qaj lw i).Perm (qaj en.ways i) ∧ (∀ q ∈ lw, q ∈ en.ways) ∧ ItO kS ews eb ow lv cr oi ∧ q0u 45 4 v cu.length xs g ∧ LiC F3 4 (RoR 4 VhR) xs cu ∧ St 82 [(8, ptr b8), (10, .map (some bk)), (11, vO), (12, .int .i64 i), (13, .string (bs s)), (14, v), (43, .slice (some ⟨bA, oA, none⟩) aggs.length ca), (44, .int .i64 aggs.length), (45, .int .i64 i), (52, ptr b52)] w0 F (keys [(bg, .cells ⟨[.slice (some ⟨bA, oA, none⟩) aggs.length ca, .map (some bm)]⟩ 75 (0, 0)) :: (bm, om) :: (g1 ++ (eb, ow) :: g2)]) F3 [g, [(b52, oi)], gO, [(b8, .cells ⟨[.slice akv kvn ckv, .map (some eb)]⟩ 80 (0, 0))], [(bg, .cells ⟨[.slice (some ⟨bA, oA, none⟩) aggs.length ca, .map (some bm)]⟩ 75 (0, 0))], [(bm, om)], g1, [(eb, ow)], g2] a w') ?_ ?_
  ·(refine ⟨ews.length, ews, en.ways, [], .slice none 0 0, [], [], none, oi, rfl, hW.mono hF03, List.Perm.refl _, (fun _ h => h), hit, q0u.nil _ _, rfl, ?_⟩; replace S := S.nilg; refine S.keep ?_; exact zk)
  (clear S hit; rintro m a w ⟨lv, lw, cu, v, g, xs, cr, oi, rfl, hWl, hpm, hsub, hit, hown, hxs, S⟩; have hcu : cu.length + lw.length = en.ways.length := (by have h9 := hpm.length_eq; rw [qaA, qof, qof] at h9; exact h9))
  refine q1i fun Z hZ => ?_
  (refine q7j (enc := kS) S rfl rfl rfl rfl rfl (by exact S.has inferInstance) hit ?_; clear S a; intro y oi2 a w hnx S)
  revert a; revert Z; refine go 4 ?_; intro Z hZ a S
  refine q00 S rfl ?_ ?_ <;> intro h
  ·revert a; revert Z; refine go 3 ?_; intro a S
   (refine wp_seq_k ?_; intro Z hZ)
   (obtain ⟨⟨pt, pv⟩, l1, l2, rfl, hpl, hit2⟩ := qcm hnx (by assumption); subst hpl; obtain ⟨m1, q, m2, rfl, hW1, hTq, hW2⟩ := hWl.split; obtain ⟨aQ, cQ, hqe, hcQ, hpQ⟩ := hTq; (dsimp only at hqe); subst hqe; have hqm := hsub q (by simp); have hql := hI.len q hqm; obtain ⟨b6, o6, hao6, z, csz, vz, hz, hcz, hwz, hTz⟩ := TrM.pos hpQ (k := i) (by omega); subst hao6; have hwd := hwz.1; subst hwd; obtain ⟨aZ, cZ, rfl, -⟩ := id hTz; (simp only [List.cons_append, qaG] at hcz); have hRz : RoR 4 VhR F3 z (vcs z aZ cZ) := ⟨[.int .u8 (z.1.k : Int), .int .i64 z.1.n, .string (bs z.1.s)], _, rfl, rfl, hwz, hTz⟩; (simp only [qaA, qaC] at hcu))
   refine wp_region_lit ?_
   (refine wv S (q72 (enc := kS) S rfl rfl (by exact S.has inferInstance) hit2) ?_; clear S a; intro a S)
   revert a; revert Z; refine go 9 ?_; intro a S
   (refine wv S (q18 S rfl rfl hcz (by rfl)) ?_; clear S a; intro a S)
   (refine q0s S rfl rfl rfl rfl rfl rfl rfl rfl rfl rfl rfl (fun _ => rfl) hown (by rfl) (by simp [Value.cells, splice, splice]) (by simp [Value.cells, Value.oneCell', splice, splice]) rfl (by rfl) (by rfl) rfl (by omega) (by omega) ?_; clear hown S a; intro v u g a w hown S)
   revert a; refine go 2 ?_; intro a S
   change ∃ m', _ ∧ _
   (have hown2 : q0u 45 4 v (cu ++ [z]).length _ g := (by rw [qaA]; exact hown); refine ⟨(l1 ++ l2).length, by (simp only [qaA, qaC]; omega), l1 ++ l2, m1 ++ m2, cu ++ [z], _, _, _, _, _, rfl, WsR.app hW2 hW1, qtv hz hpm, (fun q9 h9 => hsub q9 (by rcases List.mem_append.1 h9 with h8 | h8; exact List.mem_append_left _ h8; exact List.mem_append_right _ (List.mem_cons_of_mem _ h8))), hit2, hown2, LiC.app hxs (LiC.one rfl hRz), ?_⟩; refine S.keep ?_; exact zk)
  (refine wp_exit ?_; conv => whnf)
  clear hZ Z
  (refine hZ _ _ ?_; clear hZ Z)
  (refine wp_seq_k ?_; intro Z hZ)
  (have hlv := qha hnx (by assumption); subst hlv; obtain rfl := hWl.nil; rw [show qaj [] i = [] from rfl, qaE] at hpm; have hle := q2h (G1 := []) S; replace S := St.freeze (G1 := []) S; (simp only [qaG] at S hle); have hLv := LiC.lim (F := F3) hown hxs rfl hle (by (simp only [qaD] at hcu); omega); obtain ⟨aV, cV, rfl, -, -⟩ := id hLv; generalize F3.add g = F4 at S hle hLv; replace S := S.drop1; have hF04 : ∀ b o, F b = some o → F4 b = some o := (fun b o h => hle _ _ (hF03 _ _ h)); obtain ⟨q1, q2, hmk, hcm1, hcm2⟩ := (hkm.mono hF3).mono hle; have hi9 : i < aggs.length := (by omega); have hcne := quc hI i; have hcun : cu ≠ [] := (fun h9 => hcne (by rw [h9] at hpm; exact hpm.symm.eq_nil)); have hra : q82 s cu = q43 aggs en.ways i := (by unfold q43; rw [hxd]; exact qlw hcun hpm (fun x hx => ql8 hI hi9 x (hpm.mem_iff.1 hx)) (fun hs x hx y hy => qjd hI hi9 (by rw [hxd]; exact hs) x (hpm.mem_iff.1 hx) y (hpm.mem_iff.1 hy))); obtain ⟨fid, cpt, hfe, hfi, hct⟩ := qth F4 (hT.mono hF04) (hE.mono hF04) q1 q2 hcm1 hcm2 s (qe6 hkn hx) _ cu hLv (List.length_pos_iff.2 hcun) (by (simp only [qaD] at hcu); omega) (fun hs x hx => qqh hI hi9 (by rw [hxd]; exact hs) x (hpm.mem_iff.1 hx)); rw [hra] at hct; generalize hrr : q43 aggs en.ways i = rr at hct)
  revert a; refine go 3 ?_; intro a S
  (refine wv S (qb9 (enc := kS) (k := s) S rfl rfl rfl hmk) ?_; clear S a; intro a S)
  revert a; refine go 1 ?_; intro a S
  (rw [hfe] at S; haveI := hfi; refine wc0 S hct ?_; clear S a; intro v9 a w hv S; obtain ⟨ay, cy, rfl, hRy⟩ := hv)
  revert a; refine go 3 ?_; intro a S
  (refine q0a S rfl rfl rfl rfl ?_; clear S a; intro b17 a w S)
  (refine wso S rfl rfl ?_; clear S; intro w S)
  revert a; revert Z; refine go 9 ?_; intro Z hZ a S
  refine q00 S rfl ?_ ?_ <;> intro h
  ·revert a; refine go 6 ?_; intro a S
   refine wp_ret ?_
   (first | (replace S : St _ _ _ _ _ _ [[_], [_], [_], g1, [_], g2, gO] _ _ := St.permI S 7 rfl [1, 2, 3, 4, 5, 6, 0] (by decide); replace S := q7x S.drop1) | (rw [← haoA] at S; replace S := q7x S.drop1.drop1.drop1))
   refine q08 S (q0v Tryz.results15 (RV.tmp S rfl) (RV.tmp S rfl)) ?_
   exact u07
  revert a; revert Z; refine go 5 ?_; intro a S
  (refine q0s S rfl rfl rfl rfl rfl rfl rfl rfl rfl rfl rfl (fun _ => rfl) hO (by rfl) (by simp [Value.cells, splice, splice]) (by simp [Value.cells, Value.oneCell', splice, splice]) rfl (by rfl) (by rfl) rfl (by omega) (by omega) ?_; clear hO S a; intro v u g a w hO S)
  revert a; revert Z; refine go 7 ?_; intro a S
  change ∃ m', _ ∧ _
  (rw [← haoA] at S; replace S := S.drop1; have hO2 : LiC F4 4 (RoR 4 VhR) _ ((List.range (i + 1)).map fun j => (q43 aggs en.ways j).2) := (by rw [qb8, hrr]; exact LiC.app (hLO.mono hle) (LiC.one rfl hRy)); refine ⟨aggs.length - (i + 1), by omega, i + 1, F4, _, _, _, rfl, by omega, (fun b o h => hle _ _ (hF3 _ _ h)), (fun j hj => by rcases Nat.lt_or_eq_of_le (Nat.le_of_lt_succ hj) with h9 | h9; exact hall j h9; rw [h9, hrr]; omega), hO, hO2, ?_⟩; refine S.keep ?_; exact zk)
 (refine wp_exit ?_; conv => whnf)
 clear hZ Z
 (refine hZ _ _ ?_; clear hZ Z)
 (refine wp_seq_k ?_; intro Z hZ)
 (obtain rfl : i = aggs.length := (by omega); have hle2 := q2h (G1 := []) S; replace S := St.freeze (G1 := []) S; (simp only [qaG] at S hle2); have hLo := LiC.lim (F := F3) hO hLO (by simp) hle2 (by omega); have hth : ∀ x ∈ (List.range aggs.length).map fun j => (q43 aggs en.ways j).2, ThX x := (fun x hx => by obtain ⟨j, hj, rfl⟩ := List.mem_map.1 hx; exact qww (quc hI j) (u09 hI (List.mem_range.1 hj))); have hTo := qcq (l := q1s ((List.range aggs.length).map fun j => (q43 aggs en.ways j).2)) (by rw [q6a]; exact hLo); have hgo := qn0 _ _ _ _ (Nat.le_refl _) (by rw [q2j, List.length_map, List.length_range]; omega) (qd4 hth) hTo)
 revert a; refine go 2 ?_; intro a S
 (refine q17 S rfl rfl rfl rfl rfl rfl hgo rfl ?_; clear S a; intro uG G9 a w hv S; obtain ⟨gO, rfl, hOg⟩ := hv; (simp only [List.singleton_append] at S))
 revert a; revert Z; refine go 4 ?_; intro a S
 refine wp_ret ?_
 (first | (replace S : St _ _ _ _ _ _ [[_], [_], [_], g1, [_], g2, gO] _ _ := St.permI S 7 rfl [1, 2, 3, 4, 5, 6, 0] (by decide); replace S := q7x S.drop1) | (rw [← haoA] at S; replace S := q7x S.drop1.drop1.drop1))
 refine q08 S (q0v Tryz.results15 (RV.tmp S rfl) (RV.tmp S rfl)) ?_
 exact u07
