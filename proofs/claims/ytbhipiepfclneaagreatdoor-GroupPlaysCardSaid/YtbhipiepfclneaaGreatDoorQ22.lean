/- Walks. -/
import Derived.Test.YtbhipiepfclneaaGreatDoorQ21
set_option linter.unusedVariables false
set_option linter.unusedSimpArgs false
namespace Go.Proofs.YtbhipiepfclneaaGreatDoor
open Go Go.Wk Go.Un Go.De Go.Num
attribute [local irreducible] Go.wpList Go.Code.wp Go.wpStill Go.Wk.q26 Go.bodyPost Go.Calls Go.Wk.Ct Go.Wk.q0u Go.Wk.wpG Go.Wk.wpM
structure OpD where
  k : Nat
  key : Vf
  way : Vf
  args : Vf
def OpR (F : q01) (x : OpD) (cs : List Value) : Prop := ∃ v1 v2 v3, cs = [.int .u8 (x.k : Int), v1, v2, v3] ∧ TrS F 4 VhR v1 x.key ∧ TrS F 4 VhR v2 x.way ∧ TrS F 4 VhR v3 x.args
theorem OpR.mono {F F' : q01} (hF : ∀ b o, F b = some o → F' b = some o) {x : OpD} {cs : List Value} (h : OpR F x cs) : OpR F' x cs := by
 obtain ⟨v1, v2, v3, h0, h1, h2, h3⟩ := h
 exact ⟨v1, v2, v3, h0, h1.mono hF, h2.mono hF, h3.mono hF⟩
theorem qoy : ∀ (l : Vf) (n m : Int), 0 ≤ n → qao l n m < m → dpR l ≤ qao l n m
 | .nil, n, m, hn, _ => hn
 | .cons h L r, n, m, hn, hd => by
  rw [q45] at hd ⊢
  by_cases hm : m ≤ n
  ·rw [if_pos hm] at hd; omega
  ·rw [if_neg hm] at hd ⊢
   have h1 := qoy r _ m (by omega) hd
   have h2 := (q67 r (max n (qao L 0 (m - 1) + 1)) m (by omega)).1
   have h3 := qoy L 0 (m - 1) (Int.le_refl _) (by omega)
   show max (dpR L + 1) (dpR r) ≤ _
   omega
theorem qny {s : List UInt8} (h : q30 s = true) : qj6 s = true := by
 unfold q30 at h
 simp only [Bool.not_eq_true', Bool.or_eq_false_iff, Bool.and_eq_false_iff, decide_eq_false_iff_not, ne_eq, Classical.not_not] at h
 obtain ⟨⟨h1, h2⟩, h3⟩ := h
 have h4 := qd5 h2
 rw [qcl] at h1 h3 h4
 unfold qj6
 by_cases hd : s.take 1 = [45]
 ·rw [if_pos hd] at h1 h3 h4
  have hl : 1 < s.length := by
   have : 0 < (s.drop 1).length := List.length_pos_iff.2 h1
   rw [qaJ] at this; omega
  have hz : ¬ ((s.drop 1).getD 0 0).toNat = 48 := by
   rcases h3 with h3 | h3
   ·exact h3
   ·rw [h3] at hl; exact absurd hl (by decide)
  rw [if_pos ⟨hl, qzn.2 hd⟩, if_neg hz]
  unfold qfs
  rw [h4, decide_eq_true ⟨h1, fun h9 => hz h9.2⟩]; rfl
 ·rw [if_neg hd] at h1 h3 h4
  rw [if_neg fun h9 => hd (qzn.1 h9.2)]
  unfold qfs
  rw [h4, decide_eq_true (p := s ≠ [] ∧ ¬ (1 < s.length ∧ (s.getD 0 0).toNat = 48)) ⟨h1, fun h9 => ?_⟩]; · rfl
  rcases h3 with h3 | h3
  ·exact h3 h9.2
  ·rw [h3] at h9; exact absurd h9.1 (by decide)
theorem qwk {s : List UInt8} : qj6 s = q30 s := by
 rw [Bool.eq_iff_iff]; exact ⟨fun h => (qct h).1, qny⟩
theorem qpu (s : List UInt8) : q58 s = (q3y (Go.De.cutA s) && ((cutC s && q3y (cutB s)) || (!cutC s && decide (s ≠ q2d ∧ s ≠ q1f)))) := by
 rw [Bool.eq_iff_iff]
 refine ⟨qeh, fun h => ?_⟩
 rw [Bool.and_eq_true] at h
 obtain ⟨h1, h2⟩ := h
 unfold q58
 by_cases hc : 0 ≤ q8w s
 ·have hcc : cutC s = true := decide_eq_true hc
  rw [hcc] at h2
  have h3 : q3y (cutB s) = true := by simpa using h2
  rw [if_neg, if_pos hc, h1, h3]; · rfl
  rintro (rfl | rfl) <;> exact absurd hc (by decide)
 ·have hcc : cutC s = false := decide_eq_false hc
  rw [hcc] at h2
  have h3 : s ≠ q2d ∧ s ≠ q1f := by simpa using h2
  rw [if_neg (by rintro (h | h); exact h3.1 h; exact h3.2 h), if_neg hc]
  unfold Go.De.cutA at h1
  rwa [if_neg hc] at h1
theorem qdt (h : VH) (n : Nat) : q1n h n = q16 h n := by
 unfold q1n q16
 rw [qwk, qpu, Bool.and_comm (q30 h.s)]
theorem qxw {s : List UInt8} (h : q30 s = true) : qke s = qeq s := (qct (qny h)).2
theorem qdv {h : VH} {n : Nat} (hf : q16 h n = true) : q2c h n = q53 h n := by
 unfold q2c q53
 by_cases k3 : h.k = 3
 ·rw [if_pos k3, if_pos k3]
  unfold q16 at hf
  rw [if_neg (by omega), if_neg (by omega), if_pos k3, Bool.and_eq_true] at hf
  rw [qxw hf.1]
 ·rw [if_neg k3, if_neg k3]
theorem q9x : ∀ l : Vf, q2f l = q29 l
 | .nil => rfl
 | .cons h L r => by
  show ((q1n h L.len && q2f L) && q2f r) = _
  rw [qdt, q9x L, q9x r, q24]
theorem qab : ∀ l : Vf, q29 l = true → q3d l = q60 l
 | .nil, _ => rfl
 | .cons h L r, hf => by
  rw [q24, Bool.and_eq_true, Bool.and_eq_true] at hf
  show ((q2c h L.len && q3d L) && q3d r) = _
  rw [qdv hf.1.1, qab L hf.1.2, qab r hf.2, q48]
theorem qmq {h : VH} {L : Vf} (hc : q2e h L = 0) : qao L 0 65 + 1 ≤ 64 ∧ (q16 h L.len && q29 L) = true ∧ (q53 h L.len && q60 L) = true := by
 unfold q2e at hc
 split at hc
 ·cases hc
 ·split at hc
  ·cases hc
  ·split at hc
   ·cases hc
   ·rename_i h1 h2 h3
    exact ⟨by omega, by simpa using h2, by simpa using h3⟩
theorem q83 {h : VH} {L : Vf} : q4h h L = 0 ↔ q2e h L = 0 := by
 refine ⟨qnb, fun hc => ?_⟩
 obtain ⟨h1, h2, h3⟩ := qmq hc
 have h4 := qoy L 0 65 (Int.le_refl _) (by omega)
 rw [Bool.and_eq_true] at h2
 unfold q4h
 rw [if_neg (by omega), qdt, q9x, qdv h2.1, qab L h2.2, h2.1, h2.2, h3, if_neg (by decide), if_neg (by decide)]
def q2m : Vf → Bool
 | .nil => true
 | .cons h L r => decide (q4h h L = 0) && q2m r
theorem q3p : ∀ l : Vf, q2m l = (q13 l).isSome
 | .nil => rfl
 | .cons h L r => by
  show (decide (q4h h L = 0) && q2m r) = (if q2e h L = 0 then _ else _ : Option _).isSome
  rw [q3p r, decide_eq_decide.2 q83]
  by_cases hc : q2e h L = 0
  ·rw [if_pos hc, decide_eq_true hc, Bool.true_and, Option.isSome_map]
  ·rw [if_neg hc, decide_eq_false hc]; rfl
theorem b45 {a b : Int} (h : (a == 45) = (b == 45)) : a = 45 ↔ b = 45 := decide_eq_decide.1 h
def BG (s : List UInt8) : Prop := ∃ d : List UInt8, d ≠ [] ∧ (∀ c ∈ d, c ≠ 45) ∧ (s = d ∨ s = 45 :: d)
theorem BG.ne {s : List UInt8} (h : BG s) : 0 < s.length := by
 obtain ⟨d, h1, -, rfl | rfl⟩ := h
 ·exact List.length_pos_iff.2 h1
 ·exact Nat.succ_pos _
theorem BG.neg {s : List UInt8} (h : BG s) (hn : s.take 1 = [45]) : BG (s.drop 1) ∧ s.length = (s.drop 1).length + 1 := by
 obtain ⟨d, h1, h2, rfl | rfl⟩ := h
 ·cases s with
  | nil => cases hn
  | cons c r => exact absurd (by simpa using hn) (h2 c (qaH ..))
 ·exact ⟨⟨d, h1, h2, .inl rfl⟩, by simp⟩
end Go.Proofs.YtbhipiepfclneaaGreatDoor
namespace Go.Wk
open Go
end Go.Wk
namespace Go.Proofs.YtbhipiepfclneaaGreatDoor
open Go Go.Wk Go.Un Go.De Go.Num
attribute [local irreducible] Go.wpList Go.Code.wp Go.wpStill Go.Wk.q26 Go.bodyPost Go.Calls Go.Wk.Ct Go.Wk.q0u Go.Wk.wpG Go.Wk.wpM
instance : Mon OpR := ⟨fun hF h => OpR.mono hF h⟩
instance : Mon u33 := ⟨fun _ h => h⟩
structure OrW (aggs : List (List UInt8)) (l : List OpD) (ps : List Int) (v1 v2 va vb : Value) (F : q01) : Prop where
  T : q50 F
  E : qf6 F
  L : LiM F 4 OpR v1 l
  P : LiM F 1 u33 v2 ps
  A : LiM F 1 StR va aggs
  B : LiM F 1 StR vb aggs
theorem OrW.mono {aggs : List (List UInt8)} {l : List OpD} {ps : List Int} {v1 v2 va vb : Value} {F F' : q01} (hF : ∀ b o, F b = some o → F' b = some o) (h : OrW aggs l ps v1 v2 va vb F) : OrW aggs l ps v1 v2 va vb F' := ⟨h.T.mono hF, h.E.mono hF, h.L.mono hF, h.P.mono hF, h.A.mono hF, h.B.mono hF⟩
structure WyD where
  key : Vf
  way : Vf
  args : Vf
def ofW (X : List WyD) (key : Vf) : List WyD := X.filter fun x => q15 x.key key
def kT (x : WyD) : List UInt8 := (q13 x.key).getD []
def wT (x : WyD) : List UInt8 := (q13 x.way).getD []
def tyR (aggs : List (List UInt8)) (args : Vf) (l : List WyD) (i : Nat) : Bool :=
 decide (aggs.getD i [] = q5u) && (decide (kAt args i ≠ 2 ∧ kAt args i ≠ 3) || (match l with | [] => false | w :: _ => decide (kAt w.args i ≠ kAt args i)))
def qak (key way : Vf) : List WyD → Option (List WyD)
 | [] => none
 | x :: r => if (q15 x.key key && q15 x.way way) = true then some r else (qak key way r).map (x :: ·)
def qgl (X : List WyD) (key way : Vf) : Int := if (q2m key && q2m way) = false then 4 else match qak key way X with | some _ => 0 | none => 5
structure Rl (aggs : List (List UInt8)) (A : GA) (X : List WyD) : Prop where
  inv : GInv aggs A
  ok : ∀ x ∈ X, (q13 x.key).isSome = true ∧ (q13 x.way).isSome = true ∧ q2r x.key ∧ q2r x.way ∧ q2r x.args
  ws : ∀ k, q1z A k = (X.filter fun x => decide (kT x = k)).map fun x => (wT x, x.args)
  ks : ∀ k e, alG A k = some e → ∃ x ∈ X, x.key = e.key ∧ kT x = k
theorem Rl.nil (aggs : List (List UInt8)) : Rl aggs [] [] := ⟨q9a aggs, (fun x h => by cases h), fun k => rfl, fun k e h => by cases h⟩
theorem qne {x : WyD} {key : Vf} {k : List UInt8} (hx : (q13 x.key).isSome = true) (bx : q2r x.key) (hk : q13 key = some k) (bk : q2r key) : q15 x.key key = decide (kT x = k) := by
 obtain ⟨t, ht⟩ := Option.isSome_iff_exists.1 hx
 have e : kT x = t := by unfold kT; rw [ht]; rfl
 rw [Bool.eq_iff_iff, q11, decide_eq_true_eq, e]
 constructor
 ·intro h; rw [h, hk] at ht; exact (Option.some.inj ht).symm
 ·intro h; subst h; exact qbx bx.rg bk.rg ht hk
theorem qck {x : WyD} {way : Vf} {k : List UInt8} (hx : (q13 x.way).isSome = true) (bx : q2r x.way) (hk : q13 way = some k) (bk : q2r way) : q15 x.way way = decide (wT x = k) := by
 obtain ⟨t, ht⟩ := Option.isSome_iff_exists.1 hx
 have e : wT x = t := by unfold wT; rw [ht]; rfl
 rw [Bool.eq_iff_iff, q11, decide_eq_true_eq, e]
 constructor
 ·intro h; rw [h, hk] at ht; exact (Option.some.inj ht).symm
 ·intro h; subst h; exact qbx bx.rg bk.rg ht hk
theorem qbh {α : Type} {p q : α → Bool} : ∀ {l : List α}, (∀ x ∈ l, p x = q x) → l.filter p = l.filter q
 | [], _ => rfl
 | x :: r, h => by rw [List.filter_cons, List.filter_cons, h x (qaH ..), qbh fun y hy => h y (List.mem_cons_of_mem _ hy)]
theorem Rl.of {aggs : List (List UInt8)} {A : GA} {X : List WyD} (h : Rl aggs A X) {key : Vf} {k : List UInt8} (hk : q13 key = some k) (bk : q2r key) : q1z A k = (ofW X key).map fun x => (wT x, x.args) := by
 rw [h.ws k]
 unfold ofW
 rw [qbh fun x hx => (qne (h.ok x hx).1 (h.ok x hx).2.2.1 hk bk).symm]
theorem qp6 : ∀ (l : List WyD) (w : List UInt8), (alG (l.map fun x => (wT x, x.args)) w).isSome = l.any fun x => decide (wT x = w)
 | [], w => rfl
 | x :: r, w => by
  show (if w = wT x then some x.args else alG (r.map fun x => (wT x, x.args)) w).isSome = (decide (wT x = w) || r.any _)
  by_cases h : w = wT x
  ·rw [if_pos h, decide_eq_true h.symm]; rfl
  ·rw [if_neg h, decide_eq_false (fun e => h e.symm), qp6 r w]; rfl
theorem q63 {X : List WyD} {key : Vf} {x : WyD} (h : x ∈ ofW X key) : x ∈ X := (List.mem_filter.1 h).1
theorem q94 {key way : Vf} : ∀ {X Y : List WyD}, qak key way X = some Y → ∃ X1 x X2, X = X1 ++ x :: X2 ∧ Y = X1 ++ X2 ∧ x.key = key ∧ x.way = way ∧ ∀ y ∈ X1, ¬ (y.key = key ∧ y.way = way)
 | [], Y, h => by cases h
 | x :: r, Y, h => by
  unfold qak at h
  by_cases hc : (q15 x.key key && q15 x.way way) = true
  ·rw [if_pos hc] at h
   cases h
   rw [Bool.and_eq_true, q11, q11] at hc
   exact ⟨[], x, r, rfl, rfl, hc.1, hc.2, fun y hy => by cases hy⟩
  ·rw [if_neg hc] at h
   obtain ⟨Z, hZ, rfl⟩ := Option.map_eq_some_iff.1 h
   obtain ⟨X1, y, X2, rfl, rfl, h3, h4, h5⟩ := q94 hZ
   refine ⟨x :: X1, y, X2, rfl, rfl, h3, h4, fun z hz => ?_⟩
   rcases List.mem_cons.1 hz with rfl | hz
   ·intro h9; exact hc (by rw [Bool.and_eq_true, q11, q11]; exact h9)
   ·exact h5 z hz
theorem qej {key way : Vf} : ∀ {X : List WyD}, qak key way X = none → ∀ x ∈ X, ¬ (x.key = key ∧ x.way = way)
 | [], _, x, hx => by cases hx
 | x :: r, h, y, hy => by
  unfold qak at h
  by_cases hc : (q15 x.key key && q15 x.way way) = true
  ·rw [if_pos hc] at h; cases h
  ·rw [if_neg hc] at h
   rcases List.mem_cons.1 hy with rfl | hy
   ·intro h9; exact hc (by rw [Bool.and_eq_true, q11, q11]; exact h9)
   ·exact qej (Option.map_eq_none_iff.1 h) y hy
theorem qdc {aggs : List (List UInt8)} {A : GA} {X : List WyD} (h : Rl aggs A X) {key way : Vf} (b1 : q2r key) (b2 : q2r way) : qgl X key way = qdo A key way := by
 unfold qgl qdo
 rw [q3p, q3p]
 cases h1 : q13 key with
 | none => rfl
 | some k =>
  cases h2 : q13 way with
  | none => rfl
  | some w =>
   dsimp only
   rw [h.of h1 b1, qp6, if_neg (by simp : ¬ (Option.isSome (some k) && Option.isSome (some w)) = false)]
   have e : ((ofW X key).any fun x => decide (wT x = w)) = (qak key way X).isSome := by
    rw [Bool.eq_iff_iff, List.any_eq_true]
    constructor
    ·rintro ⟨x, hx, hw⟩
     rw [← qck (h.ok x (q63 hx)).2.1 (h.ok x (q63 hx)).2.2.2.1 h2 b2, q11] at hw
     cases hd : qak key way X with
     | some _ => rfl
     | none => exact absurd ⟨q11.1 (List.mem_filter.1 hx).2, hw⟩ (qej hd x (q63 hx))
    ·intro hs
     obtain ⟨Y, hY⟩ := Option.isSome_iff_exists.1 hs
     obtain ⟨X1, x, X2, rfl, rfl, h3, h4, -⟩ := q94 hY
     have hm : x ∈ ofW (X1 ++ x :: X2) key := List.mem_filter.2 ⟨List.mem_append_right _ (qaH ..), q11.2 h3⟩
     refine ⟨x, hm, ?_⟩
     rw [← qck (h.ok x (q63 hm)).2.1 (h.ok x (q63 hm)).2.2.2.1 h2 b2, q11]; exact h4
   rw [e]
   cases qak key way X <;> rfl
theorem q2k {β : Type} {x2 : List (List UInt8 × β)} {k k' : List UInt8} {u : β} (hk : ¬ k = k') : ∀ x1 : List (List UInt8 × β), alG (x1 ++ (k, u) :: x2) k' = alG (x1 ++ x2) k'
 | [] => by show (if k' = k then some u else alG x2 k') = alG x2 k'; rw [if_neg (Ne.symm hk)]
 | (a, v) :: r => by
  show (if k' = a then some v else alG (r ++ (k, u) :: x2) k') = (if k' = a then some v else alG (r ++ x2) k')
  rw [q2k hk r]
theorem qpd {A : GA} {k w : List UInt8} {key args : Vf} (k' : List UInt8) : q1z (qrq A k w key args) k' = q1z A k' ++ (if k = k' then [(w, args)] else []) := by
 unfold qrq q1z
 cases hx : alG A k with
 | none =>
  dsimp only
  by_cases hk : k = k'
  ·subst hk
   rw [q88 hx, hx, if_pos rfl]
   unfold alG; rw [if_pos rfl]; rfl
  ·rw [if_neg hk, qaE]
   have := q2k (x2 := []) (u := (⟨key, [(w, args)]⟩ : En)) hk A
   rw [this, qaE]
 | some e =>
  dsimp only
  obtain ⟨x1, x2, rfl, h1, h2, -⟩ := q23 hx
  rw [h2]
  by_cases hk : k = k'
  ·subst hk
   rw [q9t h1, q9t h1, if_pos rfl]
  ·rw [if_neg hk, qaE, q2k hk, q2k hk]
theorem qxz {β : Type} {x1 x2 : List (List UInt8 × β)} {k : List UInt8} {e : β} (h : ((x1 ++ (k, e) :: x2).map (·.1)).Nodup) : alG (x1 ++ x2) k = none := by
 rw [q6k]
 intro p hp he
 rw [List.map_append, List.map_cons, List.nodup_append, List.nodup_cons] at h
 rcases List.mem_append.1 hp with hp | hp
 ·exact h.2.2 p.1 (List.mem_map_of_mem hp) k (qaH ..) he
 ·exact h.2.1.1 (by rw [← he]; exact List.mem_map_of_mem (f := (·.1)) hp)
theorem qlt {A : GA} (hnd : (A.map (·.1)).Nodup) {k w : List UInt8} {e : En} (he : alG A k = some e) (k' : List UInt8) : q1z (qvp A k w) k' = if k = k' then alD (q1z A k) w else q1z A k' := by
 have hws : q1z A k = e.ways := by unfold q1z; rw [he]
 unfold qvp
 rw [hws]
 obtain ⟨x1, x2, rfl, h1, h2, h3⟩ := q23 he
 split
 ·rename_i h0
  rw [h3]
  by_cases hk : k = k'
  ·subst hk
   rw [if_pos rfl, h0]
   unfold q1z
   rw [qxz hnd]
  ·rw [if_neg hk]
   unfold q1z
   rw [q2k hk]
 ·rw [h2]
  by_cases hk : k = k'
  ·subst hk
   rw [if_pos rfl]
   unfold q1z
   rw [q9t h1]
  ·rw [if_neg hk]
   unfold q1z
   rw [q2k hk, q2k hk]
theorem Rl.add {aggs : List (List UInt8)} {A : GA} {X : List WyD} (h : Rl aggs A X) {key way args : Vf} (b1 : q2r key) (b2 : q2r way) (b3 : q2r args) (h0 : qam aggs A key way args = 0) : Rl aggs (qds aggs A key way args) (X ++ [⟨key, way, args⟩]) := by
 have hI := qc0 (key := key) (way := way) (args := args) h.inv b1 b3
 obtain ⟨k, hk⟩ : ∃ k, q13 key = some k := by
  unfold qam at h0
  cases h1 : q13 key with
  | none => rw [h1] at h0; cases h0
  | some k => exact ⟨k, rfl⟩
 obtain ⟨w, hw⟩ : ∃ w, q13 way = some w := by
  unfold qam at h0
  rw [hk] at h0
  cases h1 : q13 way with
  | none => rw [h1] at h0; cases h0
  | some k => exact ⟨k, rfl⟩
 have ek : kT ⟨key, way, args⟩ = k := by unfold kT; rw [hk]; rfl
 have ew : wT ⟨key, way, args⟩ = w := by unfold wT; rw [hw]; rfl
 have hg : qds aggs A key way args = qrq A k w key args := by unfold qds; rw [if_pos h0, hk, hw]; rfl
 refine ⟨hI, fun x hx => ?_, fun k' => ?_, fun k' e he => ?_⟩
 ·rcases List.mem_append.1 hx with hx | hx
  ·exact h.ok x hx
  ·rw [List.mem_singleton.1 hx]
   exact ⟨by rw [hk]; rfl, by rw [hw]; rfl, b1, b2, b3⟩
 ·rw [hg, qpd, h.ws k', List.filter_append, List.map_append, List.filter_cons, List.filter_nil, ek]
  congr 1
  by_cases hkk : k = k'
  ·rw [if_pos hkk, decide_eq_true hkk, if_pos rfl, List.map_cons, ew]; rfl
  ·rw [if_neg hkk, decide_eq_false hkk, if_neg (by decide)]; rfl
 ·rw [hg] at he
  unfold qrq at he
  cases hx : alG A k with
  | none =>
   rw [hx] at he
   dsimp only at he
   by_cases hkk : k = k'
   ·subst hkk
    rw [q88 hx] at he
    unfold alG at he
    rw [if_pos rfl] at he
    cases he
    exact ⟨_, List.mem_append_right _ (List.mem_singleton.2 rfl), rfl, ek⟩
   ·rw [q2k hkk, qaE] at he
    obtain ⟨x, h1, h2⟩ := h.ks k' e he
    exact ⟨x, List.mem_append_left _ h1, h2⟩
  | some e0 =>
   rw [hx] at he
   dsimp only at he
   have hks := h.ks
   obtain ⟨x1, x2, rfl, h1, h2, -⟩ := q23 hx
   rw [h2] at he
   by_cases hkk : k = k'
   ·subst hkk
    rw [q9t h1] at he
    cases he
    obtain ⟨x, h3, h4⟩ := hks k e0 hx
    exact ⟨x, List.mem_append_left _ h3, h4⟩
   ·rw [q2k hkk, ← q2k (u := e0) hkk] at he
    obtain ⟨x, h3, h4⟩ := hks k' e he
    exact ⟨x, List.mem_append_left _ h3, h4⟩
theorem Rl.del {aggs : List (List UInt8)} {A : GA} {X : List WyD} (h : Rl aggs A X) {key way : Vf} (b1 : q2r key) (b2 : q2r way) (h0 : qdo A key way = 0) : ∃ Y, qak key way X = some Y ∧ Rl aggs (qfr A key way) Y := by
 have hI := qt0 (key := key) (way := way) h.inv
 have hd := qdc h b1 b2
 rw [h0] at hd
 obtain ⟨k, hk⟩ : ∃ k, q13 key = some k := by
  unfold qdo at h0
  cases h1 : q13 key with
  | none => rw [h1] at h0; cases h0
  | some k => exact ⟨k, rfl⟩
 obtain ⟨w, hw⟩ : ∃ w, q13 way = some w := by
  unfold qdo at h0
  rw [hk] at h0
  cases h1 : q13 way with
  | none => rw [h1] at h0; cases h0
  | some k => exact ⟨k, rfl⟩
 obtain ⟨Y, hY⟩ : ∃ Y, qak key way X = some Y := by
  unfold qgl at hd
  split at hd
  ·cases hd
  ·cases hx : qak key way X with
   | none => rw [hx] at hd; cases hd
   | some Y => exact ⟨Y, rfl⟩
 refine ⟨Y, hY, ?_⟩
 obtain ⟨X1, x, X2, rfl, rfl, h3, h4, h5⟩ := q94 hY
 have hsub : ∀ y ∈ X1 ++ X2, y ∈ X1 ++ x :: X2 := fun y hy => by
  rcases List.mem_append.1 hy with hy | hy
  ·exact List.mem_append_left _ hy
  ·exact List.mem_append_right _ (List.mem_cons_of_mem _ hy)
 have ek : kT x = k := by unfold kT; rw [h3, hk]; rfl
 have ew : wT x = w := by unfold wT; rw [h4, hw]; rfl
 have hg : qfr A key way = qvp A k w := by unfold qfr; rw [if_pos h0, hk, hw]; rfl
 have hsome : (alG (q1z A k) w).isSome = true := by
  unfold qdo at h0
  rw [hk, hw] at h0
  dsimp only at h0
  split at h0
  ·assumption
  ·cases h0
 obtain ⟨e, he⟩ : ∃ e, alG A k = some e := by
  unfold q1z at hsome
  cases hx : alG A k with
  | none => rw [hx] at hsome; cases hsome
  | some e => exact ⟨e, rfl⟩
 have hws : ∀ k', q1z (qfr A key way) k' = ((X1 ++ X2).filter fun x => decide (kT x = k')).map fun x => (wT x, x.args) := fun k' => by
  rw [hg, qlt h.inv.nd he]
  by_cases hkk : k = k'
  ·subst hkk
   rw [if_pos rfl, h.ws k, List.filter_append, List.filter_cons, if_pos (decide_eq_true ek), List.map_append, List.map_cons, ew, qwc, List.filter_append, List.map_append]
   intro p hp hpw
   obtain ⟨y, hy, rfl⟩ := List.mem_map.1 hp
   obtain ⟨hy1, hy2⟩ := List.mem_filter.1 hy
   have hok := h.ok y (List.mem_append_left _ hy1)
   refine h5 y hy1 ⟨?_, ?_⟩
   ·rw [← qne hok.1 hok.2.2.1 hk b1, q11] at hy2; exact hy2
   ·have := qck hok.2.1 hok.2.2.2.1 hw b2
    rw [decide_eq_true (show wT y = w from hpw), q11] at this; exact this
  ·rw [if_neg hkk, h.ws k', List.filter_append, List.filter_cons, if_neg (by rw [ek]; simpa using hkk), List.filter_append]
 refine ⟨hI, fun y hy => h.ok y (hsub y hy), hws, fun k' e' he' => ?_⟩
 rw [hg] at he'
 by_cases hkk : k = k'
 ·subst hkk
  have hE := hI.all (k, e') (by rw [hg]; exact q4k he')
  have h6 := hws k
  rw [hg] at h6
  unfold q1z at h6
  rw [he'] at h6
  dsimp only at h6
  obtain ⟨y, hy⟩ : ∃ y, y ∈ (X1 ++ X2).filter fun x => decide (kT x = k) := by
   cases hl : (X1 ++ X2).filter fun x => decide (kT x = k) with
   | nil => rw [hl] at h6; exact absurd h6 hE.ne
   | cons y r => exact ⟨y, qaH ..⟩
  obtain ⟨hy1, hy2⟩ := List.mem_filter.1 hy
  have hy3 := of_decide_eq_true hy2
  have hok := h.ok y (hsub y hy1)
  obtain ⟨t, ht⟩ := Option.isSome_iff_exists.1 hok.1
  have : t = k := by rw [← hy3]; unfold kT; rw [ht]; rfl
  subst this
  exact ⟨y, hy1, qbx hok.2.2.1.rg hE.krow.rg ht hE.key, hy3⟩
 ·have h7 : alG A k' = some e' := by
   unfold qvp at he'
   obtain ⟨x1, x2, rfl, g1, g2, g3⟩ := q23 he
   split at he'
   ·rw [g3] at he'; rw [q2k hkk]; exact he'
   ·rw [g2, q2k hkk] at he'; rw [q2k hkk]; exact he'
  obtain ⟨y, hy, h8, h9⟩ := h.ks k' e' h7
  refine ⟨y, ?_, h8, h9⟩
  rcases List.mem_append.1 hy with hy | hy
  ·exact List.mem_append_left _ hy
  ·rcases List.mem_cons.1 hy with rfl | hy
   ·exact absurd (ek.symm.trans h9) hkk
   ·exact List.mem_append_right _ hy
def WyR (F : q01) (x : WyD) (cs : List Value) : Prop := ∃ v1 v2 v3, cs = [v1, v2, v3] ∧ TrS F 4 VhR v1 x.key ∧ TrS F 4 VhR v2 x.way ∧ TrS F 4 VhR v3 x.args
theorem WyR.mono {F F' : q01} (hF : ∀ b o, F b = some o → F' b = some o) {x : WyD} {cs : List Value} (h : WyR F x cs) : WyR F' x cs := by
 obtain ⟨v1, v2, v3, h0, h1, h2, h3⟩ := h
 exact ⟨v1, v2, v3, h0, h1.mono hF, h2.mono hF, h3.mono hF⟩
instance : Mon WyR := ⟨fun hF h => WyR.mono hF h⟩
def WyQ (F : q01) (_ : q01) (x : WyD) (cs : List Value) : Prop := WyR F x cs
instance {F : q01} : Mon (WyQ F) := ⟨fun _ h => h⟩
def XO (F : q01) (bx : Nat) (av : Value) (X : List WyD) (gx : Grp) : Prop := ∃ v xs g, gx = (bx, .cells ⟨[av, v]⟩ 61 (0, 0)) :: g ∧ q0u 63 3 v X.length xs g ∧ LiC F 3 WyR xs X
theorem XO.mono {F F' : q01} {bx : Nat} {av : Value} {X : List WyD} {gx : Grp} (hF : ∀ b o, F b = some o → F' b = some o) (h : XO F bx av X gx) : XO F' bx av X gx := by
 obtain ⟨v, xs, g, h1, h2, h3⟩ := h
 exact ⟨v, xs, g, h1, h2, h3.mono hF⟩
structure XF (F F2 : q01) (bx : Nat) (av : Value) (X : List WyD) (v : Value) : Prop where
  c0 : Cel F2 bx 0 av
  c1 : Cel F2 bx 1 v
  le : ∀ b o, F b = some o → F2 b = some o
  li : LiM F2 3 (WyQ F) v X
theorem qo1 {F F2 : q01} : ∀ {X : List WyD} {xs : List Value}, LiC F 3 WyR xs X → LiC F2 3 (WyQ F) xs X
 | [], _, h => h
 | x :: l, xs, ⟨cs, r, h1, h2, h3, h4⟩ => ⟨cs, r, h1, h2, h3, qo1 h4⟩
theorem XO.frz {F : q01} {bx : Nat} {av : Value} {X : List WyD} {gx : Grp} (h : XO F bx av X gx) (hn : (gx.map (·.1)).Nodup) (hle : ∀ b o, F b = some o → F.add gx b = some o) (hl : X.length ≤ 1000000) : ∃ v, XF F (F.add gx) bx av X v := by
 obtain ⟨v, xs, g, rfl, h2, h3⟩ := h
 have hb : (F.add ((bx, .cells ⟨[av, v]⟩ 61 (0, 0)) :: g)) bx = some (.cells ⟨[av, v]⟩ 61 (0, 0)) := q01.add_new (p := (bx, _)) (qaH ..) hn
 refine ⟨v, ⟨_, _, _, hb, rfl⟩, ⟨_, _, _, hb, rfl⟩, hle, ?_⟩
 have hU := h2
 unfold q0u at hU
 rcases hU.2 with ⟨rfl, h5, rfl⟩ | ⟨b, cap, cur, rfl, rfl, h5, h6, h7, h8⟩
 ·rw [List.eq_nil_of_length_eq_zero h5]; exact LiM.nil _ _ _
 ·have hb2 : (F.add ((bx, .cells ⟨[av, .slice (some ⟨b, 0, none⟩) X.length cap]⟩ 61 (0, 0)) :: [(b, .cells cur 63 (0, 0))])) b = some (.cells cur 63 (0, 0)) := q01.add_new (p := (b, _)) (List.mem_cons_of_mem _ (List.mem_singleton.2 rfl)) hn
  refine ⟨_, cap, rfl, ⟨h5, by omega⟩, fun hp => ⟨b, 0, rfl, fun k x hx => ?_⟩⟩
  obtain ⟨cs, h9, h10, h11⟩ := (qo1 (F2 := F.add ((bx, .cells ⟨[av, .slice (some ⟨b, 0, none⟩) X.length cap]⟩ 61 (0, 0)) :: [(b, .cells cur 63 (0, 0))])) h3).get hx
  refine ⟨cs, fun j u hu => ⟨_, _, _, hb2, ?_⟩, h10, h11⟩
  have h12 := h9 j u hu
  rw [← h8] at h12
  have h13 := (List.getElem?_eq_some_iff.1 h12).1
  rw [qaI] at h13
  rw [List.getElem?_take_of_lt (by omega)] at h12
  rw [Array.getElem?_toList] at h12
  simpa using h12
structure Mg (A B : List Vf) (i k : Nat) (O : List Vf) : Prop where
  ile : i ≤ A.length
  kle : k ≤ B.length
  srt : O.Pairwise (fun x y => cmpL x y < 0)
  la : ∀ r ∈ O, ∀ s ∈ A.drop i, cmpL r s < 0
  lb : ∀ r ∈ O, ∀ s ∈ B.drop k, cmpL r s < 0
  mem : ∀ r, (r ∈ O ∨ r ∈ A.drop i ∨ r ∈ B.drop k) ↔ (r ∈ A ∨ r ∈ B)
  len : O.length ≤ i + k
theorem Mg.nil (A B : List Vf) : Mg A B 0 0 [] := ⟨Nat.zero_le _, Nat.zero_le _, List.Pairwise.nil, (fun r h => by cases h), (fun r h => by cases h), (fun r => by simp), Nat.le_refl _⟩
theorem q5y {A : List Vf} {i : Nat} {x : Vf} (h : A[i]? = some x) : A.drop i = x :: A.drop (i + 1) := by
 obtain ⟨h1, rfl⟩ := List.getElem?_eq_some_iff.1 h
 exact List.drop_eq_getElem_cons h1
theorem qno {O : List Vf} {x : Vf} (h : O.Pairwise (fun x y => cmpL x y < 0)) (hx : ∀ r ∈ O, cmpL r x < 0) : (O ++ [x]).Pairwise (fun x y => cmpL x y < 0) := by
 rw [List.pairwise_append]
 exact ⟨h, List.pairwise_singleton _ _, fun a ha b hb => by rw [List.mem_singleton.1 hb]; exact hx a ha⟩
theorem q6t {A : List Vf} (hA : A.Pairwise (fun x y => cmpL x y < 0)) {i : Nat} {x : Vf} (h : A[i]? = some x) : ∀ s ∈ A.drop (i + 1), cmpL x s < 0 := by
 have h1 : (A.drop i).Pairwise (fun x y => cmpL x y < 0) := hA.sublist (List.drop_sublist _ _)
 rw [q5y h, List.pairwise_cons] at h1
 exact h1.1
theorem Mg.stepA {A B : List Vf} (hA : A.Pairwise (fun x y => cmpL x y < 0)) {i k : Nat} {O : List Vf} (h : Mg A B i k O) {x : Vf} (hx : A[i]? = some x) (hb : ∀ s ∈ B.drop k, cmpL x s < 0) : Mg A B (i + 1) k (O ++ [x]) := by
 have hi := (List.getElem?_eq_some_iff.1 hx).1
 have hd := q5y hx
 have h9 := h.la
 have hm := h.mem
 rw [hd] at h9 hm
 refine ⟨hi, h.kle, qno h.srt fun r hr => h9 r hr x (qaH ..), fun r hr s hs => ?_, fun r hr s hs => ?_, fun r => ?_, ?_⟩
 ·rcases List.mem_append.1 hr with hr | hr
  ·exact h9 r hr s (List.mem_cons_of_mem _ hs)
  ·rw [List.mem_singleton.1 hr]; exact q6t hA hx s hs
 ·rcases List.mem_append.1 hr with hr | hr
  ·exact h.lb r hr s hs
  ·rw [List.mem_singleton.1 hr]; exact hb s hs
 ·rw [← hm r]; simp only [List.mem_append, List.mem_cons, List.mem_singleton, List.not_mem_nil, or_false]
  constructor
  ·rintro ((h1 | h1) | h1 | h1)
   ·exact .inl h1
   ·exact .inr (.inl (.inl h1))
   ·exact .inr (.inl (.inr h1))
   ·exact .inr (.inr h1)
  ·rintro (h1 | (h1 | h1) | h1)
   ·exact .inl (.inl h1)
   ·exact .inl (.inr h1)
   ·exact .inr (.inl h1)
   ·exact .inr (.inr h1)
 ·rw [qaA]; have := h.len; simp only [qaC, qaD]; omega
theorem Mg.swap {A B : List Vf} {i k : Nat} {O : List Vf} (h : Mg A B i k O) : Mg B A k i O := ⟨h.kle, h.ile, h.srt, h.lb, h.la, fun r => by
 have := h.mem r
 constructor
 ·rintro (h1 | h1 | h1)
  ·exact (this.1 (.inl h1)).symm
  ·exact (this.1 (.inr (.inr h1))).symm
  ·exact (this.1 (.inr (.inl h1))).symm
 ·intro h1
  rcases this.2 h1.symm with h2 | h2 | h2
  ·exact .inl h2
  ·exact .inr (.inr h2)
  ·exact .inr (.inl h2), by have := h.len; omega⟩
theorem Mg.done {A B : List Vf} {O : List Vf} (h : Mg A B A.length B.length O) : ∀ r, r ∈ O ↔ (r ∈ A ∨ r ∈ B) := fun r => by
 have := h.mem r
 rw [List.drop_length, List.drop_length] at this
 simpa using this
def D10 (F : q01) (p : Value) (N : Nat) : Prop := SlC F p (nd 10 N) (cel (nd 10 N) (dig 10 N))
theorem D10.mono {F F' : q01} {p N} (hF : ∀ b o, F b = some o → F' b = some o) (h : D10 F p N) : D10 F' p N := SlC.mono hF h
def qgw (F : q01) (u : Value) (z : Int) : Prop := ∃ p, u = .agg ⟨[.bool (decide (z < 0)), p]⟩ ∧ D10 F p z.natAbs
theorem qgw.mono {F F' : q01} {u z} (hF : ∀ b o, F b = some o → F' b = some o) (h : qgw F u z) : qgw F' u z := by
 obtain ⟨p, h1, h2⟩ := h; exact ⟨p, h1, h2.mono hF⟩
structure WyG (aggs : List (List UInt8)) (W : List WyD) : Prop where
  len : ∀ x ∈ W, x.args.len = aggs.length
  may : ∀ i, i < aggs.length → ∀ z ∈ qaj (W.map fun x => (wT x, x.args)) i, q3q z = true ∧ dpN z.2 ≤ 900000000
  num : ∀ i, i < aggs.length → aggs.getD i [] = q5u → ∀ z ∈ qaj (W.map fun x => (wT x, x.args)) i, q8b z
  kind : ∀ i, i < aggs.length → aggs.getD i [] = q5u → ∀ z ∈ qaj (W.map fun x => (wT x, x.args)) i, ∀ z' ∈ qaj (W.map fun x => (wT x, x.args)) i, z.1.k = z'.1.k
theorem Rl.en {aggs : List (List UInt8)} {A : GA} {X : List WyD} (h : Rl aggs A X) {x : WyD} (hx : x ∈ X) : ∃ k e, q13 x.key = some k ∧ alG A k = some e ∧ (wT x, x.args) ∈ e.ways := by
 obtain ⟨h1, h2, h3, h4, h5⟩ := h.ok x hx
 obtain ⟨k, hk⟩ := Option.isSome_iff_exists.1 h1
 have hof := h.of hk h3
 have hm : (wT x, x.args) ∈ q1z A k := by
  rw [hof]
  exact List.mem_map.2 ⟨x, List.mem_filter.2 ⟨hx, q11.2 rfl⟩, rfl⟩
 unfold q1z at hm
 cases he : alG A k with
 | none => rw [he] at hm; cases hm
 | some e => rw [he] at hm; exact ⟨k, e, hk, he, hm⟩
theorem Rl.len {aggs : List (List UInt8)} {A : GA} {X : List WyD} (h : Rl aggs A X) : ∀ x ∈ X, x.args.len = aggs.length := fun x hx => by
 obtain ⟨k, e, -, he, hm⟩ := h.en hx
 exact (h.inv.all (k, e) (q4k he)).len _ hm
theorem XF.mono {F F2 F3 : q01} (hF : ∀ b o, F2 b = some o → F3 b = some o) {bx : Nat} {av v : Value} {X : List WyD} (h : XF F F2 bx av X v) : XF F F3 bx av X v := ⟨h.c0.mono hF, h.c1.mono hF, fun b o e => hF b o (h.le b o e), h.li.mono hF⟩
structure PlW (aggs : List (List UInt8)) (l : List OpD) (v1 va vb : Value) (F : q01) : Prop where
  T : q50 F
  E : qf6 F
  L : LiM F 4 OpR v1 l
  A : LiM F 1 StR va aggs
  B : LiM F 1 StR vb aggs
theorem PlW.mono {aggs : List (List UInt8)} {l : List OpD} {v1 va vb : Value} {F F' : q01} (hF : ∀ b o, F b = some o → F' b = some o) (h : PlW aggs l v1 va vb F) : PlW aggs l v1 va vb F' := ⟨h.T.mono hF, h.E.mono hF, h.L.mono hF, h.A.mono hF, h.B.mono hF⟩
