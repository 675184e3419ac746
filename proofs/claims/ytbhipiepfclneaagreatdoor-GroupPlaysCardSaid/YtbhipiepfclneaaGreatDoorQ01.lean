/- Walks. -/
import Derived.Still
import Derived.IntWalk
import Derived.Laws.Strings
import Derived.Laws.Slices
import Derived.Laws.MakeOwn
namespace Go.Wk
open Go
set_option linter.unusedSimpArgs false
set_option linter.unusedVariables false
def look : List (Nat × Value) → Nat → Option Value
 | [], _ => none
 | (k, v) :: r, t => bif Nat.beq k t then some v else look r t
def ev (L : List (Nat × Value)) : Operand → Option Value
 | .tmp t => look L t
 | .const v => some v
 | .global g => some (.pointer (some ⟨g, 0, none⟩))
 | .func f => some (.func (.func f) #[] #[])
def evs (L : List (Nat × Value)) : List Operand → Option (List Value)
 | [] => some []
 | x :: r => match ev L x, evs L r with
  | some v, some vs => some (v :: vs)
  | _, _ => none
structure Sz where
  sz : Nat
  ds : List Deferred
instance (k : Nat) : OfNat Sz k := ⟨⟨k, []⟩⟩
structure Fr (n : Sz) (L : List (Nat × Value)) (a : Act) : Prop where
  size : a.tmps.size = n.sz
  df : a.defers = n.ds
  get : ∀ t v, look L t = some v → a.tmps[t]? = some v
theorem Fr.eval {n L a} (h : Fr n L a) {x : Operand} {v : Value} (e : ev L x = some v) : a.eval x = v := by
 cases x with
 | tmp t => simp only [Act.eval, Array.getD_eq_getD_getElem?, h.get t v e, Option.getD_some]
 | const c => simpa [ev, Act.eval] using e
 | global g => simpa [ev, Act.eval] using e
 | func f => simpa [ev, Act.eval] using e
theorem Fr.evals {n L a} (h : Fr n L a) : ∀ {xs : List Operand} {vs : List Value}, evs L xs = some vs → xs.map a.eval = vs
 | [], vs, e => by simp only [evs, Option.some.injEq] at e; simp [← e]
 | x :: r, vs, e => by
  simp only [evs] at e
  split at e
  ·rename_i v vs' hv hvs
   simp only [Option.some.injEq] at e
   rw [← e, List.map_cons, h.eval hv, Fr.evals h hvs]
  ·cases e
theorem q7r (d t : Nat) (v : Value) (L) : look ((d, v) :: L) t = if d = t then some v else look L t := by
 simp only [look]
 by_cases h : d = t
 ·simp [h]
 ·have : Nat.beq d t = false := by rw [← Bool.not_eq_true]; intro hb; exact h (Nat.eq_of_beq_eq_true hb)
  simp [h, this]
theorem Fr.put {n L a} (h : Fr n L a) {d : Nat} (v : Value) (hd : Nat.blt d n.sz = true) : Fr n ((d, v) :: L) (a.put (some d) v) := by
 have hd' : d < a.tmps.size := by rw [h.size]; simpa [Nat.blt_eq] using hd
 refine ⟨by simp [Act.put, h.size], by simp [Act.put, h.df], fun t u ht => ?_⟩
 rw [q7r] at ht
 simp only [Act.put, Array.getElem?_setIfInBounds]
 by_cases hdt : d = t
 ·subst hdt
  simp only [if_true, Option.some.injEq] at ht
  simp [hd', ht]
 ·simp only [hdt, if_false] at ht ⊢
  exact h.get t u ht
theorem Fr.sub {n L L' a} (h : Fr n L a) (hs : ∀ t v, look L' t = some v → look L t = some v) : Fr n L' a := ⟨h.size, h.df, fun t v e => h.get t v (hs t v e)⟩
def u45 (L : List (Nat × Value)) : List (Nat × Value) → Prop
 | [] => True
 | p :: r => look L p.1 = some p.2 ∧ u45 L r
theorem qjm : ∀ {L : List (Nat × Value)} {t v}, look L t = some v → (t, v) ∈ L
 | [], t, v, h => by cases h
 | (k, u) :: r, t, v, h => by
  rw [q7r] at h
  split at h
  ·rename_i hk; simp only [Option.some.injEq] at h; subst hk; subst h; simp
  ·exact List.mem_cons_of_mem _ (qjm h)
theorem qj5 {L} : ∀ {L' : List (Nat × Value)}, u45 L L' → ∀ p ∈ L', look L p.1 = some p.2
 | [], _, p, hp => by cases hp
 | q :: r, h, p, hp => by
  rcases List.mem_cons.1 hp with rfl | hp
  ·exact h.1
  ·exact qj5 h.2 p hp
theorem Fr.keep {n L L' a} (h : Fr n L a) (hs : u45 L L') : Fr n L' a :=
 h.sub fun t v e => qj5 hs (t, v) (qjm e)
def number : Nat → List Value → List (Nat × Value)
 | _, [] => []
 | k, v :: r => (k, v) :: number (k + 1) r
theorem q4t : ∀ (vs : List Value) (k t : Nat) (v : Value), look (number k vs) t = some v → k ≤ t ∧ vs[t - k]? = some v
 | [], k, t, v, h => by cases h
 | u :: r, k, t, v, h => by
  simp only [number, q7r] at h
  split at h
  ·rename_i hk; subst hk; simp only [Option.some.injEq] at h; subst h; simp
  ·rename_i hk
   obtain ⟨h1, h2⟩ := q4t r (k + 1) t v h
   refine ⟨by omega, ?_⟩
   rw [show t - k = (t - (k + 1)) + 1 from by omega]
   simpa using h2
abbrev q01 := Nat → Option Obj
abbrev Grp := List (Nat × Obj)
def keys (G : List Grp) : List Nat := G.flatten.map (·.1)
structure Tr (w0 : World) (F0 : q01) (K0 : List Nat) (w : World) (F : q01) (G : List Grp) : Prop where
  os : w.os = w0.os
  tape : w.tape = w0.tape
  output : w.output = w0.output
  size : w0.heap.size ≤ w.heap.size
  old : ∀ b, b < w0.heap.size → b ∉ K0 → w.heap[b]? = w0.heap[b]?
  frz : ∀ b o, F b = some o → w.heap[b]? = some o
  ext : ∀ b o, F0 b = some o → F b = some o
  fresh : ∀ b o, F b = some o → F0 b = some o ∨ w0.heap.size ≤ b ∨ b ∈ K0
  own : ∀ p ∈ G.flatten, w.heap[p.1]? = some p.2 ∧ F p.1 = none ∧ (w0.heap.size ≤ p.1 ∨ p.1 ∈ K0)
  nd : (keys G).Nodup
theorem q37 {w : World} {b : Nat} {o : Obj} (h : w.heap[b]? = some o) : b < w.heap.size := (Array.getElem?_eq_some_iff.1 h).1
structure At (w : World) (F : q01) (G : List Grp) : Prop where
  frz : ∀ b o, F b = some o → w.heap[b]? = some o
  own : ∀ p ∈ G.flatten, w.heap[p.1]? = some p.2 ∧ F p.1 = none
  nd : (keys G).Nodup
theorem q5x {G : List Grp} {p : Nat × Obj} (h : p ∈ G.flatten) : p.1 ∈ keys G := List.mem_map_of_mem h
theorem At.tr {w F G} (h : At w F G) : Tr w F (keys G) w F G :=
 ⟨rfl, rfl, rfl, Nat.le_refl _, fun _ _ _ => rfl, h.frz, fun _ _ h => h, fun _ _ h => .inl h, fun p hp => ⟨(h.own p hp).1, (h.own p hp).2, .inr (q5x hp)⟩, h.nd⟩
theorem Tr.at {w0 F0 K0 w F G} (h : Tr w0 F0 K0 w F G) : At w F G := ⟨h.frz, fun p hp => ⟨(h.own p hp).1, (h.own p hp).2.1⟩, h.nd⟩
theorem Tr.at_sub {w0 F0 K0 w F} {G Gs Gr : List Grp} (h : Tr w0 F0 K0 w F G) (hp : G.flatten.Perm (Gs.flatten ++ Gr.flatten)) : At w F Gs := by
 have hn : ((Gs.flatten ++ Gr.flatten).map (·.1)).Nodup := (hp.map _).nodup_iff.1 h.nd
 refine ⟨h.frz, fun p hq => ?_, ?_⟩
 ·have := h.own p (hp.mem_iff.2 (List.mem_append_left _ hq))
  exact ⟨this.1, this.2.1⟩
 ·rw [List.map_append] at hn
  exact (List.nodup_append.1 hn).1
theorem Tr.call {w0 F0 K0 w F} {G Gs Gr : List Grp} {w' F'} {G' : List Grp} (h : Tr w0 F0 K0 w F G) (hp : G.flatten.Perm (Gs.flatten ++ Gr.flatten)) (h2 : Tr w F (keys Gs) w' F' G') :
  Tr w0 F0 K0 w' F' (G' ++ Gr) := by
 have hn : ((Gs.flatten ++ Gr.flatten).map (·.1)).Nodup := (hp.map _).nodup_iff.1 h.nd
 rw [List.map_append] at hn
 obtain ⟨hn1, hn2, hdis⟩ := List.nodup_append.1 hn
 have hks : ∀ b ∈ keys Gs, w0.heap.size ≤ b ∨ b ∈ K0 := fun b hb => by
  obtain ⟨p, hp1, rfl⟩ := List.mem_map.1 hb
  exact (h.own p (hp.mem_iff.2 (List.mem_append_left _ hp1))).2.2
 have hgr : ∀ p ∈ Gr.flatten, w.heap[p.1]? = some p.2 ∧ F p.1 = none ∧ (w0.heap.size ≤ p.1 ∨ p.1 ∈ K0) ∧ p.1 ∉ keys Gs := fun p hq => by
  obtain ⟨a, b, c⟩ := h.own p (hp.mem_iff.2 (List.mem_append_right _ hq))
  refine ⟨a, b, c, fun hk => ?_⟩
  exact hdis _ hk _ (List.mem_map_of_mem hq) rfl
 refine ⟨h2.os.trans h.os, h2.tape.trans h.tape, h2.output.trans h.output, Nat.le_trans h.size h2.size, fun b hb hk => ?_, h2.frz, fun b o e => h2.ext b o (h.ext b o e), fun b o e => ?_, fun p hq => ?_, ?_⟩
 ·rw [h2.old b (Nat.lt_of_lt_of_le hb h.size) (fun hk' => ?_)]
  ·exact h.old b hb hk
  ·rcases hks b hk' with h' | h'
   ·omega
   ·exact hk h'
 ·rcases h2.fresh b o e with h' | h' | h'
  ·exact h.fresh b o h'
  ·exact .inr (.inl (Nat.le_trans h.size h'))
  ·exact .inr (hks b h')
 ·rw [List.flatten_append] at hq
  rcases List.mem_append.1 hq with hq | hq
  ·obtain ⟨a, b, c⟩ := h2.own p hq
   refine ⟨a, b, ?_⟩
   rcases c with c | c
   ·exact .inl (Nat.le_trans h.size c)
   ·exact hks _ c
  ·obtain ⟨a, b, c, d⟩ := hgr p hq
   refine ⟨?_, ?_, c⟩
   ·rw [h2.old p.1 (q37 a) d]; exact a
   ·cases hF : F' p.1 with
    | none => rfl
    | some o =>
     rcases h2.fresh _ _ hF with h' | h' | h'
     ·rw [b] at h'; cases h'
     ·have := q37 a; omega
     ·exact absurd h' d
 ·unfold keys
  rw [List.flatten_append, List.map_append]
  refine List.nodup_append.2 ⟨h2.nd, hn2, fun x hx y hy he => ?_⟩
  subst he
  obtain ⟨p, hp1, rfl⟩ := List.mem_map.1 hx
  obtain ⟨q, hq1, hq2⟩ := List.mem_map.1 hy
  obtain ⟨a, b, c, d⟩ := hgr q hq1
  rw [hq2] at a d
  rcases (h2.own p hp1).2.2 with h' | h'
  ·have := q37 a; omega
  ·exact d h'
theorem Tr.drew {w0 F0 K0 w F G} (h : Tr w0 F0 K0 w F G) : Tr w0 F0 K0 w.drew F G := ⟨h.os, h.tape, h.output, h.size, h.old, h.frz, h.ext, h.fresh, h.own, h.nd⟩
theorem heap_alloc (w : World) (o : Obj) (b : Nat) : (w.alloc o).heap[b]? = if b = w.heap.size then some o else w.heap[b]? := by
 show (w.heap.push o)[b]? = _
 rw [Array.getElem?_push]
theorem Tr.alloc {w0 F0 K0 w F G} (h : Tr w0 F0 K0 w F G) (o : Obj) : Tr w0 F0 K0 (w.alloc o) F ([(w.heap.size, o)] :: G) := by
 have hne : ∀ b (x : Obj), w.heap[b]? = some x → b ≠ w.heap.size := fun b x hx => by have := q37 hx; omega
 refine ⟨h.os, h.tape, h.output, by have := h.size; simp; omega, fun b hb hk => ?_, fun b x hx => ?_, h.ext, h.fresh, fun p hp => ?_, ?_⟩
 ·rw [heap_alloc, if_neg (by have := h.size; omega)]; exact h.old b hb hk
 ·rw [heap_alloc, if_neg (hne b x (h.frz b x hx))]; exact h.frz b x hx
 ·rw [List.flatten_cons] at hp
  rcases List.mem_append.1 hp with hp | hp
  ·simp only [List.mem_singleton] at hp
   subst hp
   refine ⟨by rw [heap_alloc, if_pos rfl], ?_, .inl h.size⟩
   cases hF : F w.heap.size with
   | none => rfl
   | some x => exact absurd rfl (hne _ _ (h.frz _ _ hF))
  ·obtain ⟨a, b, c⟩ := h.own p hp
   exact ⟨by rw [heap_alloc, if_neg (hne _ _ a)]; exact a, b, c⟩
 ·show (w.heap.size :: keys G).Nodup
  refine List.nodup_cons.2 ⟨fun hk => ?_, h.nd⟩
  obtain ⟨p, hp, hp2⟩ := List.mem_map.1 hk
  exact hne _ _ (h.own p hp).1 hp2
theorem Tr.perm {w0 F0 K0 w F G G'} (h : Tr w0 F0 K0 w F G) (hp : G.flatten.Perm G'.flatten) : Tr w0 F0 K0 w F G' :=
 ⟨h.os, h.tape, h.output, h.size, h.old, h.frz, h.ext, h.fresh, fun p hq => h.own p (hp.mem_iff.2 hq), (hp.map _).nodup_iff.1 h.nd⟩
theorem Tr.sub {w0 F0 K0 w F G G'} (h : Tr w0 F0 K0 w F G) (hp : G'.flatten.Sublist G.flatten) : Tr w0 F0 K0 w F G' :=
 ⟨h.os, h.tape, h.output, h.size, h.old, h.frz, h.ext, h.fresh, fun p hq => h.own p (hp.subset hq), (hp.map _).nodup h.nd⟩
theorem Tr.write {w0 F0 K0 w F G1 G2 w'} {b : Nat} {o o' : Obj} (h : Tr w0 F0 K0 w F (G1 ++ [(b, o)] :: G2)) (hos : w'.os = w.os) (ht : w'.tape = w.tape) (hout : w'.output = w.output)
  (hs : w'.heap.size = w.heap.size) (hb : w'.heap[b]? = some o') (hother : ∀ k, k ≠ b → w'.heap[k]? = w.heap[k]?) : Tr w0 F0 K0 w' F (G1 ++ [(b, o')] :: G2) := by
 have hk : ∀ o : Obj, keys (G1 ++ [(b, o)] :: G2) = keys G1 ++ b :: keys G2 := fun o => by simp [keys, List.flatten_append, List.flatten_cons]
 have hnd := h.nd
 rw [hk] at hnd
 obtain ⟨ob1, ob2, ob3⟩ := h.own (b, o) (by simp [List.flatten_append, List.flatten_cons])
 have hnb : b ∉ keys G1 ++ keys G2 := by
  have := hnd
  rw [List.nodup_append] at this
  obtain ⟨_, h2, h3⟩ := this
  rw [List.nodup_cons] at h2
  intro hm
  rcases List.mem_append.1 hm with hm | hm
  ·exact h3 _ hm _ (List.mem_cons_self ..) rfl
  ·exact h2.1 hm
 refine ⟨hos.trans h.os, ht.trans h.tape, hout.trans h.output, by rw [hs]; exact h.size, fun c hc hk' => ?_, fun c x hx => ?_, h.ext, h.fresh, fun p hp => ?_, by rw [hk]; exact hnd⟩
 ·rw [hother c (fun e => ?_)]
  ·exact h.old c hc hk'
  ·subst e
   rcases ob3 with h' | h'
   ·omega
   ·exact hk' h'
 ·rw [hother c (fun e => ?_)]
  ·exact h.frz c x hx
  ·subst e; rw [ob2] at hx; cases hx
 ·rw [List.flatten_append, List.flatten_cons] at hp
  rcases List.mem_append.1 hp with hp | hp
  ·obtain ⟨x, y, z⟩ := h.own p (by rw [List.flatten_append]; exact List.mem_append_left _ hp)
   have hne : p.1 ≠ b := fun e => hnb (by rw [← e]; exact List.mem_append_left _ (q5x hp))
   exact ⟨by rw [hother _ hne]; exact x, y, z⟩
  ·rcases List.mem_append.1 hp with hp | hp
   ·simp only [List.mem_singleton] at hp
    subst hp
    exact ⟨hb, ob2, ob3⟩
   ·obtain ⟨x, y, z⟩ := h.own p (by rw [List.flatten_append, List.flatten_cons]; exact List.mem_append_right _ (List.mem_append_right _ hp))
    have hne : p.1 ≠ b := fun e => hnb (by rw [← e]; exact List.mem_append_right _ (q5x hp))
    exact ⟨by rw [hother _ hne]; exact x, y, z⟩
def q01.add (F : q01) (g : Grp) : q01 := fun b => match g.find? (fun p => Nat.beq p.1 b) with | some p => some p.2 | none => F b
theorem q6g {g : Grp} {b : Nat} {p : Nat × Obj} (h : g.find? (fun p => Nat.beq p.1 b) = some p) : p.1 = b :=
 Nat.eq_of_beq_eq_true (List.find?_some (p := fun p : Nat × Obj => Nat.beq p.1 b) h)
theorem q01.add_some {F : q01} {g : Grp} {b : Nat} {o : Obj} (h : F.add g b = some o) : (b, o) ∈ g ∨ F b = some o := by
 unfold q01.add at h
 split at h
 ·rename_i p hp
  simp only [Option.some.injEq] at h
  subst h
  have h1 := List.mem_of_find?_eq_some hp
  have h2 := q6g hp
  subst h2
  exact .inl h1
 ·exact .inr h
theorem q01.add_none {F : q01} {g : Grp} {b : Nat} (h : b ∉ g.map (·.1)) : F.add g b = F b := by
 unfold q01.add
 split
 ·rename_i p hp
  have h1 := List.mem_of_find?_eq_some hp
  have h2 := q6g hp
  exact absurd (List.mem_map.2 ⟨p, h1, h2⟩) h
 ·rfl
theorem q01.add_new {F : q01} {g : Grp} {p : Nat × Obj} (hp : p ∈ g) (hn : (g.map (·.1)).Nodup) : F.add g p.1 = some p.2 := by
 unfold q01.add
 split
 ·rename_i q hq
  have h1 := List.mem_of_find?_eq_some hq
  have h2 := q6g hq
  have : q = p := by
   induction g with
   | nil => cases hp
   | cons x r ih =>
    rw [List.map_cons, List.nodup_cons] at hn
    rcases List.mem_cons.1 h1 with k1 | k1
    ·rcases List.mem_cons.1 hp with k2 | k2
     ·exact k1.trans k2.symm
     ·exact absurd (by rw [← k1, h2]; exact List.mem_map_of_mem k2) hn.1
    ·rcases List.mem_cons.1 hp with k2 | k2
     ·exact absurd (by rw [← k2, ← h2]; exact List.mem_map_of_mem k1) hn.1
     ·have hx : ¬ (Nat.beq x.1 p.1 = true) := fun hb => hn.1 (by rw [Nat.eq_of_beq_eq_true hb]; exact List.mem_map_of_mem k2)
      rw [List.find?_cons_of_neg (by simpa using hx)] at hq
      exact ih k2 hn.2 hq k1
  rw [this]
 ·rename_i hq
  have := List.find?_eq_none.1 hq p hp
  simp at this
theorem Tr.freeze {w0 F0 K0 w F G1 g G2} (h : Tr w0 F0 K0 w F (G1 ++ g :: G2)) : Tr w0 F0 K0 w (F.add g) (G1 ++ G2) := by
 have hk : keys (G1 ++ g :: G2) = keys G1 ++ (g.map (·.1) ++ keys G2) := by simp [keys, List.flatten_append, List.flatten_cons]
 have hnd := h.nd
 rw [hk] at hnd
 have hg : ∀ p ∈ g, p ∈ (G1 ++ g :: G2).flatten := fun p hp => by simp only [List.flatten_append, List.flatten_cons]; exact List.mem_append_right _ (List.mem_append_left _ hp)
 have hgn : (g.map (·.1)).Nodup := (List.nodup_append.1 (List.nodup_append.1 hnd).2.1).1
 refine ⟨h.os, h.tape, h.output, h.size, h.old, fun b o e => ?_, fun b o e => ?_, fun b o e => ?_, fun p hp => ?_, ?_⟩
 ·rcases q01.add_some e with h' | h'
  ·exact (h.own _ (hg _ h')).1
  ·exact h.frz b o h'
 ·have e' := h.ext b o e
  rw [q01.add_none (fun hm => ?_)]
  ·exact e'
  ·obtain ⟨p, hp, rfl⟩ := List.mem_map.1 hm
   have := (h.own p (hg p hp)).2.1
   rw [this] at e'; cases e'
 ·rcases q01.add_some e with h' | h'
  ·exact .inr (h.own _ (hg _ h')).2.2
  ·exact h.fresh b o h'
 ·have hp' : p ∈ (G1 ++ g :: G2).flatten := by
   simp only [List.flatten_append, List.flatten_cons] at hp ⊢
   rcases List.mem_append.1 hp with hp | hp
   ·exact List.mem_append_left _ hp
   ·exact List.mem_append_right _ (List.mem_append_right _ hp)
  obtain ⟨x, y, z⟩ := h.own p hp'
  refine ⟨x, ?_, z⟩
  rw [q01.add_none (fun hm => ?_)]
  ·exact y
  ·rw [List.flatten_append] at hp
   rcases List.mem_append.1 hp with hp | hp
   ·exact (List.nodup_append.1 hnd).2.2 _ (q5x hp) _ (List.mem_append_left _ hm) rfl
   ·exact (List.nodup_append.1 (List.nodup_append.1 hnd).2.1).2.2 _ hm _ (q5x hp) rfl
 ·have : (keys G1 ++ keys G2).Sublist (keys G1 ++ (g.map (·.1) ++ keys G2)) := List.Sublist.append_left (List.sublist_append_right _ _) _
  have hk2 : keys (G1 ++ G2) = keys G1 ++ keys G2 := by simp [keys, List.flatten_append]
  rw [hk2]
  exact this.nodup hnd
class Und (P : Program) (t : TypeId) (d : outParam TypeDesc) : Prop where h : P.underlying t = some d
class Inf (P : Program) (t : TypeId) (z : outParam Value) (size bytes : outParam Nat) : Prop where
  h : ∃ i, P.info? t = some i ∧ i.zero = some z ∧ i.size = size ∧ i.bytes = bytes
def qum (d : TypeDesc) : Bool := match d with | .struct _ | .array _ _ => false | _ => true
def quk (d : TypeDesc) : Bool := match d with | .struct _ | .array _ _ => true | _ => false
def qi3 (d : TypeDesc) : Bool := match d with | .interface _ => false | _ => true
class One (P : Program) (t : TypeId) : Prop where h : ∃ d, P.underlying t = some d ∧ qum d = true
class Ag (P : Program) (t : TypeId) : Prop where h : ∃ d, P.underlying t = some d ∧ quk d = true
class u9i (P : Program) (t : TypeId) : Prop where h : ∃ d, P.underlying t = some d ∧ qi3 d = true
class qkq (P : Program) (t : TypeId) (fs : outParam (List (Nat × TypeId))) : Prop where
  h : ∃ fields : Array Field, P.underlying t = some (.struct fields) ∧ fields.toList.map (fun f => (f.offset, f.type)) = fs
class Ifc (P : Program) (t : TypeId) : Prop where h : ∃ ms, P.underlying t = some (.interface ms)
theorem q6s {P : Program} {t : TypeId} {z : Value} {size bytes : Nat} (h : (P.info? t).map (fun i => (i.zero, i.size, i.bytes)) = some (some z, size, bytes)) :
  ∃ i, P.info? t = some i ∧ i.zero = some z ∧ i.size = size ∧ i.bytes = bytes := by
 obtain ⟨i, hi, hzz⟩ := Option.map_eq_some_iff.1 h
 simp only [Prod.mk.injEq] at hzz
 exact ⟨i, hi, hzz.1, hzz.2.1, hzz.2.2⟩
class q0b (P : Program) (f : FuncId) : Prop where
  h : ∃ fn c, P.funcs[f]? = some fn ∧ (fn.name == "runtime.NumGoroutine") = false ∧ fn.body = some c
def bs (l : List UInt8) : ByteArray := ⟨⟨l⟩⟩
theorem qdb (l : List UInt8) : (bs l).size = l.length := rfl
theorem qql (l : List UInt8) : (bs l).toList = l := ByteArray.toList_mk l
structure St (n : Sz) (L : List (Nat × Value)) (w0 : World) (F0 : q01) (K0 : List Nat) (F : q01) (G : List Grp) (a : Act) (w : World) : Prop where
  fr : Fr n L a
  tr : Tr w0 F0 K0 w F G
def SV (P : Program) (o : Oper) (a : Act) (w : World) (v : Value) : Prop := (execOp a.eval o).run P w = .ok (.value v) w
section
variable {P : Program} {n : Sz} {L : List (Nat × Value)} {w0 : World} {F0 : q01} {K0 : List Nat} {F : q01} {G : List Grp} {a : Act} {w : World}
variable {ops : Array Oper} {Q : Exit → Act → World → Prop} {rest : List Oper} {o : Oper}
theorem St.put (S : St n L w0 F0 K0 F G a w) {d : Nat} (hd : Nat.blt d n.sz = true) (v : Value) : St n ((d, v) :: L) w0 F0 K0 F G (a.put (some d) v) w := ⟨S.fr.put v hd, S.tr⟩
theorem St.keep {L'} (S : St n L w0 F0 K0 F G a w) (h : u45 L L') : St n L' w0 F0 K0 F G a w := ⟨S.fr.keep h, S.tr⟩
theorem q6b {d : Nat} {v : Value} (S : St n L w0 F0 K0 F G a w) (hg : o.guard = none) (hd : o.dst = some d) (hn : Nat.blt d n.sz = true) (h : SV P o a w v)
  (k : ∀ a', St n ((d, v) :: L) w0 F0 K0 F G a' w → wpList P ops Q rest a' w) : wpList P ops Q (o :: rest) a w := by
 refine wpList_plain hg fun K hK => ?_
 unfold Oper.wp
 rw [h, Oper.upon_value, hd]
 exact hK _ _ (k _ (S.put hn v))
theorem St.lit (S : St n L w0 F0 K0 F G a w) {d : Nat} {b c : Bool} (hb : look L d = some (.bool b)) (h : b = c) : St n ((d, .bool c) :: L) w0 F0 K0 F G a w := by
 subst h
 refine ⟨S.fr.sub fun t v e => ?_, S.tr⟩
 rw [q7r] at e
 split at e
 ·rename_i hd; subst hd; rw [hb]; exact e
 ·exact e
theorem q7h (S : St n L w0 F0 K0 F G a w) {j dj : Nat} {want b : Bool} (hg : o.guard = some (j, want)) (hj : (ops[j]?).bind (·.dst) = some dj) (hb : look L dj = some (.bool b)) : Region.wanted o (yielded ops a.tmps) = (b == want) := by
 have hyv : yielded ops a.tmps j = some b := by simp [yielded, hj, S.fr.get _ _ hb]
 simp [Region.wanted, hg, hyv]
theorem q1j {j dj : Nat} {want : Bool} (S : St n L w0 F0 K0 F G a w) (hg : o.guard = some (j, want)) (hj : (ops[j]?).bind (·.dst) = some dj) (hb : look L dj = some (.bool want))
  (hy : wpList P ops Q ({ o with guard := none } :: rest) a w) : wpList P ops Q (o :: rest) a w := by
 unfold wpList at hy ⊢
 rw [q7h S hg hj hb, if_pos (by simp)]
 rw [if_pos (by simp [Region.wanted])] at hy
 exact hy
theorem qj9 {j dj d : Nat} {want : Bool} (S : St n L w0 F0 K0 F G a w) (hg : o.guard = some (j, want)) (hj : (ops[j]?).bind (·.dst) = some dj) (hb : look L dj = some (.bool (!want))) (hd : o.dst = some d) (hn : Nat.blt d n.sz = true)
  (k : ∀ a', St n ((d, undef) :: L) w0 F0 K0 F G a' w → wpList P ops Q rest a' w) : wpList P ops Q (o :: rest) a w := by
 unfold wpList
 rw [q7h S hg hj hb, if_neg (by simp), hd]
 exact k _ (S.put hn undef)
theorem qn6 {j dj d : Nat} {want b : Bool} (S : St n L w0 F0 K0 F G a w) (hg : o.guard = some (j, want)) (hj : (ops[j]?).bind (·.dst) = some dj) (hb : look L dj = some (.bool b)) (hd : o.dst = some d) (hn : Nat.blt d n.sz = true)
  (hy : b = want → St n ((dj, .bool want) :: L) w0 F0 K0 F G a w → wpList P ops Q ({ o with guard := none } :: rest) a w)
  (hs : b = (!want) → ∀ a', St n ((d, undef) :: (dj, .bool (!want)) :: L) w0 F0 K0 F G a' w → wpList P ops Q rest a' w) : wpList P ops Q (o :: rest) a w := by
 by_cases h : b = want
 ·exact q1j S hg hj (by rw [hb, h]) (hy h (S.lit hb h))
 ·have h' : b = (!want) := by cases b <;> cases want <;> simp_all
  have S2 := S.lit hb h'
  exact qj9 S2 hg hj (by simp [look]) hd hn (hs h')
def u83 (op : BinOp) (a b : Int) : Option Value :=
 match op with
 | .eql => some (.bool (a == b)) | .neq => some (.bool (a != b))
 | .lss => some (.bool (decide (a < b))) | .leq => some (.bool (decide (a ≤ b)))
 | .gtr => some (.bool (decide (b < a))) | .geq => some (.bool (decide (b ≤ a)))
 | _ => none
def u6j (op : BinOp) (a b : List UInt8) : Option Value :=
 match op with
 | .eql => some (.bool (a == b)) | .neq => some (.bool (!(a == b)))
 | .lss => some (.bool (Op.bytesLess a b))
 | _ => none
def sameKind (a b : IntKind) : Bool := decide (a = b)
def qgc (L : List (Nat × Value)) : Op → Option Value
 | .move x => ev L x
 | .assign x => ev L x
 | .pick c x y => match ev L c with
  | some (.bool true) => ev L x
  | some (.bool false) => ev L y
  | _ => none
 | .binOp op _ x y _ => match ev L x, ev L y with
  | some (.int k a), some (.int k' b) => match sameKind k k' with | true => u83 op a b | false => none
  | some (.string ⟨⟨s⟩⟩), some (.string ⟨⟨t⟩⟩) => u6j op s t
  | _, _ => none
 | .unOp op _ x => match op, ev L x with
  | .not, some (.bool b) => some (.bool (!b))
  | _, _ => none
 | .extract x i => match ev L x with
  | some (.tuple vs) => vs.toList[i]?
  | _ => none
 | .makeFunc fn f c => match evs L f.toList, evs L c.toList with
  | some fs, some cs => some (.func fn ⟨fs⟩ ⟨cs⟩)
  | _, _ => none
 | _ => none
theorem q8s (P : Program) (w : World) (vs : Array Value) (i : Nat) (v : Value) (h : vs.toList[i]? = some v) : (Instr.extract (.tuple vs) i).run P w = .ok v w := by
 have : vs[i]? = some v := by simpa using h
 simp [Instr.extract, this]
theorem q09 {v : Value} (S : St n L w0 F0 K0 F G a w) (h : qgc L o.op = some v) : SV P o a w v := by
 have E : ∀ x u, ev L x = some u → a.eval x = u := fun x u e => S.fr.eval e
 unfold SV execOp
 cases ho : o.op <;> rw [ho] at h <;> simp only [qgc] at h <;> try cases h
 case move x => simp [E x v h]
 case assign x => simp [E x v h]
 case pick c x y =>
  split at h
  ·rename_i hc; simp [E c _ hc, E x _ h, asBool]
  ·rename_i hc; simp [E c _ hc, E y _ h, asBool]
  ·cases h
 case binOp op t x y yt =>
  split at h
  ·rename_i k p k' q hx hy
   split at h
   ·rename_i hk
    have hk' : k = k' := by simpa [sameKind] using hk
    subst hk'
    have h1 : (eqGuard op t x y (.int k p) (.int k q)).run P w = .ok () w := by unfold eqGuard; split <;> rfl
    have h2 : (binOp op t (.int k p) (.int k q)).run P w = .ok v w := by
     cases op <;> simp only [u83] at h <;> try cases h
     all_goals simp [binOp, Op.intCmp]
    simp [E x _ hx, E y _ hy, h1, h2]
   ·cases h
  ·rename_i s u hx hy
   have h1 : (eqGuard op t x y (.string ⟨⟨s⟩⟩) (.string ⟨⟨u⟩⟩)).run P w = .ok () w := by unfold eqGuard; split <;> rfl
   have h2 : (binOp op t (.string ⟨⟨s⟩⟩) (.string ⟨⟨u⟩⟩)).run P w = .ok v w := by
    cases op <;> simp only [u6j] at h <;> try cases h
    all_goals simp [binOp, Op.stringOp, ByteArray.toList_eq]
   simp [E x _ hx, E y _ hy, h1, h2]
  ·cases h
 case unOp op t x =>
  split at h
  ·rename_i b hx; cases h; simp [E x _ hx, Op.unary]
  ·cases h
 case makeFunc fn f c =>
  split at h
  ·rename_i fs cs hf hc
   cases h
   have e1 : f.map a.eval = ⟨fs⟩ := by
    have := S.fr.evals hf
    apply Array.ext'; simpa using this
   have e2 : c.map a.eval = ⟨cs⟩ := by
    have := S.fr.evals hc
    apply Array.ext'; simpa using this
   simp [Instr.makeFunc, e1, e2]
  ·cases h
 case extract x i =>
  split at h
  ·rename_i vs hx
   simp [E x _ hx, q8s P w vs i v h]
  ·cases h
theorem q3l {x y : Operand} {k : IntKind} {p q : Int} {op : BinOp} {t yt : TypeId} {v : Value} (S : St n L w0 F0 K0 F G a w) (ho : o.op = .binOp op t x y yt) (hx : ev L x = some (.int k p)) (hy : ev L y = some (.int k q))
  (h2 : (binOp op t (.int k p) (.int k q)).run P w = .ok v w) : SV P o a w v := by
 have h1 : (eqGuard op t x y (.int k p) (.int k q)).run P w = .ok () w := by unfold eqGuard; split <;> rfl
 unfold SV execOp
 rw [ho]
 simp [S.fr.eval hx, S.fr.eval hy, h1, h2]
theorem q20 {x y : Operand} {p q : Int} {t yt : TypeId} (S : St n L w0 F0 K0 F G a w) (ho : o.op = .binOp .add t x y yt) (hx : ev L x = some (.int .i64 p)) (hy : ev L y = some (.int .i64 q))
  (hb : -9223372036854775808 ≤ p + q ∧ p + q ≤ 9223372036854775807) : SV P o a w (.int .i64 (p + q)) :=
 q3l S ho hx hy (by simp [binOp, Op.intArith, IntWalk.i64_in _ hb])
theorem q1a {x y : Operand} {p q : Int} {t yt : TypeId} (S : St n L w0 F0 K0 F G a w) (ho : o.op = .binOp .sub t x y yt) (hx : ev L x = some (.int .i64 p)) (hy : ev L y = some (.int .i64 q))
  (hb : -9223372036854775808 ≤ p - q ∧ p - q ≤ 9223372036854775807) : SV P o a w (.int .i64 (p - q)) :=
 q3l S ho hx hy (by simp [binOp, Op.intArith, IntWalk.i64_in _ hb])
theorem q8r {x y : Operand} {p q : Int} {t yt : TypeId} (S : St n L w0 F0 K0 F G a w) (ho : o.op = .binOp .mul t x y yt) (hx : ev L x = some (.int .i64 p)) (hy : ev L y = some (.int .i64 q))
  (hb : -9223372036854775808 ≤ p * q ∧ p * q ≤ 9223372036854775807) : SV P o a w (.int .i64 (p * q)) :=
 q3l S ho hx hy (by simp [binOp, Op.intArith, IntWalk.i64_in _ hb])
theorem qh5 {x y : Operand} {p q : Int} {t yt : TypeId} (S : St n L w0 F0 K0 F G a w) (ho : o.op = .binOp .sub t x y yt) (hx : ev L x = some (.int .u8 p)) (hy : ev L y = some (.int .u8 q))
  (hb : 0 ≤ p - q ∧ p - q ≤ 255) : SV P o a w (.int .u8 (p - q)) :=
 q3l S ho hx hy (by simp [binOp, Op.intArith, IntWalk.u8_in _ hb])
theorem q5n {x y : Operand} {p q : Int} {t yt : TypeId} (S : St n L w0 F0 K0 F G a w) (ho : o.op = .binOp .quo t x y yt) (hx : ev L x = some (.int .i64 p)) (hy : ev L y = some (.int .i64 q))
  (hb : 0 ≤ p ∧ p ≤ 9223372036854775807 ∧ 1 ≤ q) : SV P o a w (.int .i64 (p / q)) :=
 q3l S ho hx hy (by simp [binOp, Op.intDiv, IntWalk.i64_quo _ _ hb, show q ≠ 0 by omega])
theorem q8j {x y : Operand} {p q : Int} {t yt : TypeId} (S : St n L w0 F0 K0 F G a w) (ho : o.op = .binOp .rem t x y yt) (hx : ev L x = some (.int .i64 p)) (hy : ev L y = some (.int .i64 q))
  (hb : 0 ≤ p ∧ 1 ≤ q) : SV P o a w (.int .i64 (p % q)) :=
 q3l S ho hx hy (by simp [binOp, Op.intDiv, Int.tmod_eq_emod_of_nonneg hb.1, show q ≠ 0 by omega])
theorem q4s {x : Operand} {k k' : IntKind} {p : Int} {s t : TypeId} {ks : IntKind} [hs : Und P s (.int ks)] [ht : Und P t (.int k)] (S : St n L w0 F0 K0 F G a w) (ho : o.op = .convert s t x) (hx : ev L x = some (.int k' p)) :
  SV P o a w (.int k (k.wrap p)) := by
 unfold SV execOp
 rw [ho]
 simp [S.fr.eval hx, convert, run_underlying hs.h, run_underlying ht.h, Conv.intToInt]
theorem q1l {x : Operand} {k' : IntKind} {p : Int} {s t : TypeId} {ks : IntKind} [hs : Und P s (.int ks)] [ht : Und P t (.int .i64)] (S : St n L w0 F0 K0 F G a w) (ho : o.op = .convert s t x) (hx : ev L x = some (.int k' p))
  (hb : -9223372036854775808 ≤ p ∧ p ≤ 9223372036854775807) : SV P o a w (.int .i64 p) := by
 have := q4s (P := P) (k := .i64) S ho hx
 rwa [IntWalk.i64_in _ hb] at this
theorem qqi {x : Operand} {s : List UInt8} {t : TypeId} [ht : Und P t .string] (S : St n L w0 F0 K0 F G a w) (ho : o.op = .call { callee := .builtin .len, args := #[x], argTypes := #[t] }) (hx : ev L x = some (.string (bs s))) :
  SV P o a w (.int .i64 (s.length : Nat)) := by
 unfold SV execOp
 rw [ho]
 simp [resolve, invoke, builtin, S.fr.eval hx, run_len_string w t o.type (bs s) ht.h, goInt, qdb]
theorem q7n {x : Operand} {b : Option Addr} {m c : Nat} {t e : TypeId} [ht : Und P t (.slice e)] (S : St n L w0 F0 K0 F G a w) (ho : o.op = .call { callee := .builtin .len, args := #[x], argTypes := #[t] }) (hx : ev L x = some (.slice b m c)) :
  SV P o a w (.int .i64 m) := by
 unfold SV execOp
 rw [ho]
 simp [resolve, invoke, builtin, S.fr.eval hx, Builtin.len_, run_underlying ht.h, goInt]
theorem q0t {x y : Operand} {s : List UInt8} {k : IntKind} {i : Int} {t : TypeId} [ht : Und P t .string] (S : St n L w0 F0 K0 F G a w) (ho : o.op = .index t x y) (hx : ev L x = some (.string (bs s))) (hy : ev L y = some (.int k i))
  (hb : 0 ≤ i ∧ i < s.length) : SV P o a w (.int .u8 ((s.getD i.toNat 0).toNat : Nat)) := by
 unfold SV execOp
 rw [ho]
 have hsz : (bs s).size = s.length := rfl
 have h1 := run_index_string (P := P) w t (bs s) k i ht.h
 rw [dif_pos (by rw [hsz]; exact hb)] at h1
 have hlt : i.toNat < s.length := by omega
 have h2 : (s.getD i.toNat 0) = (bs s)[i.toNat]'(by rw [hsz]; exact hlt) := by
  rw [List.getD_eq_getElem?_getD, List.getElem?_eq_getElem hlt]; rfl
 simp [S.fr.eval hx, S.fr.eval hy, h1, ← h2]
theorem q07 {x y : Operand} {s : List UInt8} {k : IntKind} {i : Nat} {t : TypeId} [ht : Und P t .string] (S : St n L w0 F0 K0 F G a w) (ho : o.op = .index t x y) (hx : ev L x = some (.string (bs s))) (hy : ev L y = some (.int k (Int.ofNat i)))
  (hb : i < s.length) : SV P o a w (.int .u8 ((s.getD i 0).toNat : Nat)) :=
 q0t (i := Int.ofNat i) S ho hx hy ⟨Int.natCast_nonneg i, by exact Int.ofNat_lt.2 hb⟩
theorem qjx (s : ByteArray) (i j : Nat) : s.extract i j = bs ((s.data.toList.take j).drop i) := by
 apply ByteArray.ext
 rw [ByteArray.data_extract]
 apply Array.ext'
 simp [bs, List.extract_eq_take_drop, List.drop_take]
theorem qaw {s : ByteArray} {t : TypeId} {lo hi : Option Value} {l h m : Nat} (ht : P.underlying t = some .string) (hb : (Instr.sliceBounds false s.size s.size lo hi none).run P w = .ok (l, h, m) w) :
  (Instr.sliceAt t (.string s) lo hi none).run P w = .ok (.string (bs ((s.data.toList.take h).drop l))) w := by
 simp [Instr.sliceAt, Instr.slice, run_underlying ht, hb, qjx]
theorem q1p {x y : Operand} {s : List UInt8} {k : IntKind} {i : Int} {t : TypeId} [ht : Und P t .string] (S : St n L w0 F0 K0 F G a w) (ho : o.op = .slice t x (some y) none none) (hx : ev L x = some (.string (bs s))) (hy : ev L y = some (.int k i))
  (hb : 0 ≤ i ∧ i ≤ s.length) : SV P o a w (.string (bs (s.drop i.toNat))) := by
 unfold SV execOp
 rw [ho]
 have hsz : (bs s).size = s.length := rfl
 have hr := qaw (P := P) (w := w) (s := bs s) (lo := some (.int k i)) (hi := none) (l := i.toNat) (h := (bs s).size) (m := (bs s).size) ht.h (by
  simp [Instr.sliceBounds, run_sliceBound, show 0 ≤ i by omega, show i ≤ ((bs s).size : Int) by rw [hsz]; omega])
 rw [show (bs s).data.toList.take (bs s).size = s from List.take_of_length_le (Nat.le_refl _)] at hr
 simp [S.fr.eval hx, S.fr.eval hy, hr]
theorem q5l {x z : Operand} {s : List UInt8} {k' : IntKind} {j : Int} {t : TypeId} [ht : Und P t .string] (S : St n L w0 F0 K0 F G a w) (ho : o.op = .slice t x none (some z) none) (hx : ev L x = some (.string (bs s))) (hz : ev L z = some (.int k' j))
  (hb : 0 ≤ j ∧ j ≤ s.length) : SV P o a w (.string (bs (s.take j.toNat))) := by
 unfold SV execOp
 rw [ho]
 have hsz : (bs s).size = s.length := rfl
 have hr := qaw (P := P) (w := w) (s := bs s) (lo := none) (hi := some (.int k' j)) (l := 0) (h := j.toNat) (m := (bs s).size) ht.h (by
  simp [Instr.sliceBounds, run_sliceBound, show 0 ≤ j by omega, show j ≤ ((bs s).size : Int) by rw [hsz]; omega])
 rw [List.drop_zero] at hr
 have e9 : (bs s).data.toList = s := rfl
 simp [S.fr.eval hx, S.fr.eval hz, hr, e9]
theorem qme (s t : ByteArray) : s ++ t = bs (s.data.toList ++ t.data.toList) := by
 apply ByteArray.ext
 rw [ByteArray.data_append]
 apply Array.ext'
 simp [bs]
theorem qbm {x y : Operand} {s u : List UInt8} {t yt : TypeId} (S : St n L w0 F0 K0 F G a w) (ho : o.op = .binOp .add t x y yt) (hx : ev L x = some (.string (bs s))) (hy : ev L y = some (.string (bs u)))
  (hb : s.length + u.length ≤ 9223372036854775807) : SV P o a w (.string (bs (s ++ u))) := by
 unfold SV execOp
 rw [ho]
 have h1 : (eqGuard .add t x y (.string (bs s)) (.string (bs u))).run P w = .ok () w := by unfold eqGuard; rfl
 have hs : (bs s).size = s.length := rfl
 have hu : (bs u).size = u.length := rfl
 have h2 : (binOp .add t (.string (bs s)) (.string (bs u))).run P w = .ok (.string (bs (s ++ u))) w := by
  have : ¬ ((((bs s).size + (bs u).size : Nat) : Int) > IntKind.i64.max) := by simp [IntKind.max, IntKind.bits, IntKind.signed]; rw [hs, hu]; omega
  simp only [binOp, Op.stringOp, if_neg this, qme]
  rfl
 simp [S.fr.eval hx, S.fr.eval hy, h1, h2]
theorem qe8 {x : Operand} {s : ByteArray} {t u : TypeId} [ht : Und P t .string] [hu : Und P u .string] (S : St n L w0 F0 K0 F G a w) (ho : o.op = .convert t u x) (hx : ev L x = some (.string s)) : SV P o a w (.string s) := by
 unfold SV execOp
 rw [ho]
 simp [S.fr.eval hx, convert, run_underlying ht.h, run_underlying hu.h]
theorem q2i {x : Operand} {p : Addr} (S : St n L w0 F0 K0 F G a w) (ho : o.op = .nilCheck x) (hx : ev L x = some (.pointer (some p))) : SV P o a w (.pointer (some p)) := by
 unfold SV execOp
 rw [ho]
 simp [S.fr.eval hx]
theorem qax {x : Operand} {v : Value} {t : TypeId} [ht : u9i P t] (S : St n L w0 F0 K0 F G a w) (ho : o.op = .makeInterface t x) (hx : ev L x = some v) : SV P o a w (.iface t v) := by
 unfold SV execOp
 rw [ho]
 obtain ⟨d, h1, hd⟩ := ht.h
 cases d <;> simp [qi3] at hd <;> simp [S.fr.eval hx, Instr.makeInterface, run_underlying h1]
theorem qhr {c x y : Operand} {p q r : Bool} (S : St n L w0 F0 K0 F G a w) (ho : o.op = .pick c x y) (hc : ev L c = some (.bool p)) (hx : ev L x = some (.bool q)) (hy : ev L y = some (.bool r)) : SV P o a w (.bool (bif p then q else r)) := by
 unfold SV execOp
 rw [ho]
 cases p <;> simp [S.fr.eval hc, S.fr.eval hx, S.fr.eval hy, asBool]
end
