/- Pairs in own memory; the plain laws behind the statements. -/
import Derived.Test.YtcjnmehpkcblfaaDoorUnI
namespace Go.Un
open Go Go.Wk Go.Proofs.YtcjnmehpkcblfaaDoor
set_option linter.unusedSimpArgs false
set_option linter.unusedVariables false

theorem ct_nil {P : Program} {F : Heap} {f : FuncId} {args : List Value} {G : List Grp} {Post : Heap → Value → Prop} (C : Ct P f args F G (fun F' _ v => Post F' v)) : Ct P f args F G (fun F' G' v => Post F' v ∧ G' = []) := fun w hw =>
  (C w hw).mono fun e w' ⟨v, F', G', he, ht, hp⟩ => ⟨v, F', [], he, ht.sub (List.nil_sublist _), hp, rfl⟩
/-- Cells that are a list of pairs. -/
def PrC (F : Heap) (xs : List Value) : List Pr → Prop
  | [] => xs = []
  | p :: l => ∃ va vb r, xs = .string (bs p.na) :: va :: .string (bs p.nb) :: vb :: .bool p.c :: r ∧ SlF F va p.aa ∧ SlF F vb p.ab ∧ PrC F r l
theorem PrC.mono {F F' : Heap} (hF : ∀ b o, F b = some o → F' b = some o) : ∀ {l : List Pr} {xs : List Value}, PrC F xs l → PrC F' xs l
  | [], xs, h => h
  | p :: l, xs, ⟨va, vb, r, e, h2, h4, h6⟩ => ⟨va, vb, r, e, h2.mono hF, h4.mono hF, PrC.mono hF h6⟩
theorem PrC.app {F : Heap} : ∀ {l m : List Pr} {xs ys : List Value}, PrC F xs l → PrC F ys m → PrC F (xs ++ ys) (l ++ m)
  | [], m, xs, ys, e, h => by rw [show xs = [] from e]; exact h
  | p :: l, m, xs, ys, ⟨va, vb, r, e, h2, h4, h6⟩, h => ⟨va, vb, r ++ ys, by rw [e]; rfl, h2, h4, PrC.app h6 h⟩
theorem PrC.one {F : Heap} {p : Pr} {va vb : Value} (h1 : SlF F va p.aa) (h2 : SlF F vb p.ab) : PrC F [.string (bs p.na), va, .string (bs p.nb), vb, .bool p.c] [p] := ⟨va, vb, [], rfl, h1, h2, rfl⟩
theorem PrC.at {F : Heap} : ∀ {l : List Pr} {xs : List Value} {k : Nat} {p : Pr}, PrC F xs l → l[k]? = some p → ∃ va vb, (∀ j u, [Value.string (bs p.na), va, .string (bs p.nb), vb, .bool p.c][j]? = some u → xs[k * 5 + j]? = some u) ∧ SlF F va p.aa ∧ SlF F vb p.ab
  | q :: l, xs, 0, p, ⟨va, vb, r, e, h2, h4, h6⟩, hk => by
    cases hk
    subst e
    refine ⟨va, vb, fun j u hj => ?_, h2, h4⟩
    rw [Nat.zero_mul, Nat.zero_add]
    have hl := (List.getElem?_eq_some_iff.1 hj).1
    show (([Value.string (bs q.na), va, .string (bs q.nb), vb, .bool q.c] ++ r)[j]?) = _
    rw [List.getElem?_append_left hl]; exact hj
  | q :: l, xs, k + 1, p, ⟨_, _, r, e, _, _, h6⟩, hk => by
    subst e
    obtain ⟨va', vb', h, h2, h4⟩ := PrC.at h6 (k := k) (by simpa using hk)
    refine ⟨va', vb', fun j u hj => ?_, h2, h4⟩
    rw [show (k + 1) * 5 + j = (k * 5 + j) + 1 + 1 + 1 + 1 + 1 by omega]
    simp only [List.getElem?_cons_succ]
    exact h j u hj
theorem PrC.atx {F : Heap} {l : List Pr} {xs ex : List Value} {k : Nat} {p : Pr} (h : PrC F xs l) (hk : l[k]? = some p) : ∃ aa ca ab cb, (∀ j u, [Value.string (bs p.na), .slice aa p.aa.len ca][j]? = some u → (xs ++ ex)[0 + k * 5 + 0 + j]? = some u) ∧ (∀ j u, [Value.string (bs p.nb), .slice ab p.ab.len cb][j]? = some u → (xs ++ ex)[0 + k * 5 + 2 + j]? = some u) ∧ SlF F (.slice aa p.aa.len ca) p.aa ∧ SlF F (.slice ab p.ab.len cb) p.ab ∧
    (∀ j u, [Value.string (bs p.na), .slice aa p.aa.len ca, .string (bs p.nb), .slice ab p.ab.len cb, .bool p.c][j]? = some u → (xs ++ ex)[0 + k * 5 + j]? = some u) := by
  obtain ⟨va, vb, h1, h2, h3⟩ := h.at hk
  have h20 := h2
  have h30 := h3
  obtain ⟨aa, ca, rfl, -⟩ := h2
  obtain ⟨ab, cb, rfl, -⟩ := h3
  have hx : ∀ {j : Nat} {u : Value}, xs[k * 5 + j]? = some u → (xs ++ ex)[0 + k * 5 + j]? = some u := fun {j u} h => by
    rw [Nat.zero_add, List.getElem?_append_left (List.getElem?_eq_some_iff.1 h).1]; exact h
  refine ⟨aa, ca, ab, cb, fun j u hj => ?_, fun j u hj => ?_, h20, h30, fun j u hj => hx (h1 j u hj)⟩
  · rcases j with - | j
    · exact hx (h1 0 u hj)
    rcases j with - | j
    · exact hx (h1 1 u hj)
    · simp at hj
  · rcases j with - | j
    · have := hx (h1 2 u hj); exact this
    rcases j with - | j
    · have := hx (h1 3 u hj); exact this
    · simp at hj
theorem Pr.a_def (p : Pr) : True := trivial
def Pr.A (p : Pr) : Ty := (p.na, p.aa)
def Pr.B (p : Pr) : Ty := (p.nb, p.ab)
/-- What was made alike. -/
def AlikeP (σ : List UInt8 → Ty) (l : List Pr) : Prop := ∀ p ∈ l, may p.na p.aa = true ∧ may p.nb p.ab = true ∧ subT σ p.A = subT σ p.B
theorem uni_keep {σ σ' : List UInt8 → Ty} {a b : Ty} {e : Int} (h : UniP σ a b e σ') {c d : Ty} (hcd : subT σ c = subT σ d) : subT σ' c = subT σ' d := by
  unfold UniP at h
  split at h
  · rcases h with ⟨_, hm⟩ | ⟨_, rfl, _⟩
    · rw [← subT_up hm.up c, ← subT_up hm.up d, hcd]
    · exact hcd
  · rw [h.2]; exact hcd
theorem uni_ok {σ σ' : List UInt8 → Ty} {a b : Ty} {e : Int} (h : UniP σ a b e σ') (he : e = 0) : may a.1 a.2 = true ∧ may b.1 b.2 = true ∧ Mgu σ σ' a b := by
  subst he
  unfold UniP at h
  split at h
  · rename_i hm
    rcases h with ⟨_, hg⟩ | ⟨h, _⟩
    · exact ⟨hm.1, hm.2, hg⟩
    · cases h
  · cases h.1
theorem AlikeP.keep {σ σ' : List UInt8 → Ty} {a b : Ty} {e : Int} (h : UniP σ a b e σ') {l : List Pr} (hl : AlikeP σ l) : AlikeP σ' l := fun p hp => ⟨(hl p hp).1, (hl p hp).2.1, uni_keep h (hl p hp).2.2⟩
theorem AlikeP.add {σ σ' : List UInt8 → Ty} {p : Pr} {e : Int} (h : UniP σ (p.na, p.aa) (p.nb, p.ab) e σ') (he : e = 0) {l : List Pr} (hl : AlikeP σ l) : AlikeP σ' (l ++ [p]) := fun q hq => by
  rcases List.mem_append.1 hq with hq | hq
  · exact hl.keep h q hq
  · rw [List.mem_singleton] at hq; subst hq
    obtain ⟨h1, h2, h3⟩ := uni_ok h he
    exact ⟨h1, h2, h3.eq⟩
theorem resv_eq {σ : List UInt8 → Ty} {a b : Ty} (ha : may a.1 a.2 = true) (hb : may b.1 b.2 = true) (h : subT σ a = subT σ b) : resv σ a = resv σ b := by
  unfold resv
  rw [if_pos ha, if_pos hb, h]
/-- What is alike, made alike again. -/
theorem uni_again {σ σ' : List UInt8 → Ty} {a b : Ty} {e : Int} (hg : Go.Un.Good σ) (hg' : Go.Un.Good σ') (ha : may a.1 a.2 = true) (hb : may b.1 b.2 = true) (hab : subT σ a = subT σ b) (h : UniP σ a b e σ') : e = 0 ∧ σ' = σ := by
  unfold UniP at h
  rw [if_pos ⟨ha, hb⟩] at h
  rcases h with ⟨h1, hm⟩ | ⟨_, _, hn⟩
  · exact ⟨h1, funext fun v => (good_eq hg hg' hm.up (hm.best σ hg.id hab) v).symm⟩
  · exact absurd hab (hn σ hg.id)
end Go.Un
