/- More rules; pairs in frozen memory; what orders of pairs come to. -/
import Derived.Test.YtcjnmehpkcblfaaUnW
namespace Go.Wk
open Go
set_option linter.unusedSimpArgs false
set_option linter.unusedVariables false
section
variable {P : Program} {n : Sz} {L : List (Nat × Value)} {w0 : World} {F0 : Heap} {K0 : List Nat} {F : Heap} {G : List Grp} {a : Act} {w : World} {o : Oper}
theorem sv_sliceSl_l {x y : Operand} {ao : Option Addr} {m c i : Nat} {k : IntKind} {t e : TypeId} {zv : Value} {sz by_ : Nat} [ht : Und P t (.slice e)] [hi : Inf P e zv sz by_] (S : St n L w0 F0 K0 F G a w) (ho : o.op = .slice t x (some y) none none)
    (hx : ev L x = some (.slice ao m c)) (hy : ev L y = some (.int k (i : Int))) (h1 : i ≤ m) (h2 : m ≤ c) : SV P o a w (.slice (if c = i then ao else ao.map fun a : Addr => a.add (i * sz)) (m - i) (c - i)) := by
  have hy' : ev L y = some (.int k (Int.ofNat i)) := hy
  have hb : (Instr.sliceBounds true m c (some (.int k (Int.ofNat i))) none none).run P w = .ok (i, m, c) w := by
    simp [Instr.sliceBounds, Instr.sliceBound, asIntOf, h1, h2, show i ≤ c by omega]
  unfold SV execOp
  rw [ho]
  simp only [Option.map_none, Option.map_some, S.fr.eval hx, S.fr.eval hy']
  simp only [Instr.sliceAt, Instr.slice, Sem.run_bind, run_underlying ht.h, Result.andThen_ok, hb, run_sizeOf hi]
  simp
  try (split <;> simp_all)
theorem sv_remU {x y : Operand} {p q : Int} {t yt : TypeId} (S : St n L w0 F0 K0 F G a w) (ho : o.op = .binOp .rem t x y yt) (hx : ev L x = some (.int .u64 p)) (hy : ev L y = some (.int .u64 q))
    (hb : 0 ≤ p ∧ 1 ≤ q) : SV P o a w (.int .u64 (p % q)) :=
  run_intOp S ho hx hy (by simp [binOp, Op.intDiv, Int.tmod_eq_emod_of_nonneg hb.1, show q ≠ 0 by omega])
end
end Go.Wk
namespace Go.Un
open Go Go.Wk Go.Proofs.Ytcjnmehpkcblfaa
set_option linter.unusedSimpArgs false
set_option linter.unusedVariables false

theorem u64_pos (p : Int) : 0 ≤ IntKind.u64.wrap p := by
  simp only [IntKind.wrap, IntKind.signed, IntKind.bits]; first | omega | (simp; omega) | (apply Int.emod_nonneg; decide)
theorem u64_same {n : Nat} (h : n ≤ 1000000) : IntKind.u64.wrap (n : Int) = (n : Int) := by
  simp only [IntKind.wrap, IntKind.signed, IntKind.bits]; first | omega | (simp; omega)
theorem PrC.len {F : Heap} : ∀ {l : List Pr} {xs : List Value}, PrC F xs l → xs.length = l.length * 5
  | [], xs, h => by rw [show xs = [] from h]; rfl
  | p :: l, xs, ⟨va, vb, r, e, _, _, h⟩ => by rw [e]; have := PrC.len h; simp; omega
theorem PrC.take {F : Heap} : ∀ {l : List Pr} {xs : List Value} (k : Nat), PrC F xs l → PrC F (xs.take (k * 5)) (l.take k)
  | l, xs, 0, _ => by rw [Nat.zero_mul, List.take_zero, List.take_zero]; rfl
  | [], xs, k + 1, h => by rw [show xs = [] from h]; simp [PrC]
  | p :: l, xs, k + 1, ⟨va, vb, r, e, h1, h2, h⟩ => by
    subst e
    rw [show (k + 1) * 5 = k * 5 + 1 + 1 + 1 + 1 + 1 by omega]
    exact ⟨va, vb, r.take (k * 5), rfl, h1, h2, PrC.take k h⟩
theorem PrC.drop {F : Heap} : ∀ {l : List Pr} {xs : List Value} (k : Nat), PrC F xs l → PrC F (xs.drop (k * 5)) (l.drop k)
  | l, xs, 0, h => by rw [Nat.zero_mul]; exact h
  | [], xs, k + 1, h => by rw [show xs = [] from h]; simp [PrC]
  | p :: l, xs, k + 1, ⟨va, vb, r, e, h1, h2, h⟩ => by
    subst e
    rw [show (k + 1) * 5 = k * 5 + 1 + 1 + 1 + 1 + 1 by omega]
    exact PrC.drop k h
theorem PrC.one' {F : Heap} : ∀ {l : List Pr} {xs : List Value}, PrC F xs l → ∀ u ∈ xs, u.oneCell' = true
  | [], xs, h, u, hu => by rw [show xs = [] from h] at hu; cases hu
  | p :: l, xs, ⟨va, vb, r, e, ⟨_, _, h1, _⟩, ⟨_, _, h2, _⟩, h⟩, u, hu => by
    subst e; subst h1; subst h2
    rcases List.mem_cons.1 hu with rfl | hu
    · rfl
    rcases List.mem_cons.1 hu with rfl | hu
    · rfl
    rcases List.mem_cons.1 hu with rfl | hu
    · rfl
    rcases List.mem_cons.1 hu with rfl | hu
    · rfl
    rcases List.mem_cons.1 hu with rfl | hu
    · rfl
    · exact PrC.one' h u hu
theorem cels_app {F : Heap} {b off : Nat} {xs ys : List Value} (h1 : Cels F b off xs) (h2 : Cels F b (off + xs.length) ys) : Cels F b off (xs ++ ys) := by
  intro j v hv
  by_cases hj : j < xs.length
  · rw [List.getElem?_append_left hj] at hv; exact h1 j v hv
  · rw [List.getElem?_append_right (by omega)] at hv
    have := h2 _ v hv
    rw [show off + xs.length + (j - xs.length) = off + j by omega] at this
    exact this
/-- The cells of pairs in memory. -/
theorem prc_of {F : Heap} {b : Nat} : ∀ {ps : List Pr} {o : Nat}, (∀ (k : Nat) (p : Pr), ps[k]? = some p → ∃ va vb, Cels F b (o + k * 5) [.string (bs p.na), va, .string (bs p.nb), vb, .bool p.c] ∧ SlF F va p.aa ∧ SlF F vb p.ab) → ∃ xs, PrC F xs ps ∧ Cels F b o xs
  | [], o, _ => ⟨[], rfl, fun j u h => by simp at h⟩
  | p :: ps, o, h => by
    obtain ⟨va, vb, h1, h2, h3⟩ := h 0 p rfl
    obtain ⟨xs, h4, h5⟩ := prc_of (ps := ps) (o := o + 5) fun k q hq => by
      have := h (k + 1) q (by simpa using hq)
      rwa [show o + (k + 1) * 5 = o + 5 + k * 5 by omega] at this
    rw [Nat.zero_mul, Nat.add_zero] at h1
    exact ⟨_, ⟨va, vb, xs, rfl, h2, h3, h4⟩, cels_app h1 h5⟩
theorem PsM.flat {F : Heap} {ao : Option Addr} {cap : Nat} {ps : List Pr} (h : PsM F (.slice ao ps.length cap) ps) : ∃ xs, PrC F xs ps ∧ ps.length ≤ cap ∧ (0 < ps.length → ∃ b o, ao = some ⟨b, o, none⟩ ∧ Cels F b o xs) := by
  obtain ⟨ao', cap', e, h1, h2⟩ := h
  simp only [Value.slice.injEq] at e
  obtain ⟨rfl, -, rfl⟩ := e
  by_cases h0 : 0 < ps.length
  · obtain ⟨b, o, h3, h4⟩ := h2 h0
    obtain ⟨xs, h5, h6⟩ := prc_of h4
    exact ⟨xs, h5, h1.1, fun _ => ⟨b, o, h3, h6⟩⟩
  · have : ps = [] := List.eq_nil_of_length_eq_zero (by omega)
    subst this
    exact ⟨[], rfl, h1.1, fun h => absurd h h0⟩
/-- An own slice of pairs, not written any more. -/
theorem PrC.psm {F : Heap} {e q : Nat} {v : Value} {xs : List Value} {g : Grp} {l : List Pr} (hown : OwnS e 5 v q xs g) (h : PrC F xs l) (hq : q = l.length) (hF : ∀ b o, F b = some o → F.add g b = some o) (hm : q ≤ 9223372036854775807) : PsM (F.add g) v l := by
  obtain ⟨ao, cap, rfl, h1, h2⟩ := hown.slC F
  subst hq
  refine ⟨ao, cap, rfl, ⟨h1, hm⟩, fun hp => ?_⟩
  obtain ⟨b, o, e, h3⟩ := h2 hp
  refine ⟨b, o, e, fun k p hk => ?_⟩
  obtain ⟨va, vb, h4, h5, h6⟩ := h.at hk
  refine ⟨va, vb, fun j u hj => ?_, h5.mono hF, h6.mono hF⟩
  rw [Nat.add_assoc]
  exact h3 _ _ (h4 j u hj)
/-- Some θ makes all pairs alike. -/
def Sol (L : List Pr) : Prop := (∀ p ∈ L, may p.na p.aa = true ∧ may p.nb p.ab = true) ∧ ∃ θ : List UInt8 → Ty, (∀ v, subT θ (vid v) = θ v) ∧ ∀ p ∈ L, subT θ p.A = subT θ p.B
structure MgL (L : List Pr) (σ : List UInt8 → Ty) : Prop where
  ok : ∀ p ∈ L, may p.na p.aa = true ∧ may p.nb p.ab = true
  eq : ∀ p ∈ L, subT σ p.A = subT σ p.B
  best : ∀ θ : List UInt8 → Ty, (∀ v, subT θ (vid v) = θ v) → (∀ p ∈ L, subT θ p.A = subT θ p.B) → ∀ v, subT θ (σ v) = θ v
def StP (L : List Pr) (ok : Bool) (σ : List UInt8 → Ty) : Prop := if ok = true then MgL L σ else ¬ Sol L
theorem stp_nil : StP [] true vid := by
  unfold StP
  rw [if_pos rfl]
  exact ⟨fun p hp => absurd hp List.not_mem_nil, fun p hp => absurd hp List.not_mem_nil, fun θ hθ _ => hθ⟩
theorem Sol.sub {L M : List Pr} (h : Sol M) (hs : ∀ p ∈ L, p ∈ M) : Sol L := by
  obtain ⟨h1, θ, h2, h3⟩ := h
  exact ⟨fun p hp => h1 p (hs p hp), θ, h2, fun p hp => h3 p (hs p hp)⟩
theorem good_fac {σ : List UInt8 → Ty} (h : Go.Un.Good σ) : ∀ v, subT σ (vid v) = σ v := fun v => by
  by_cases h9 : isV v = true
  · exact subT_var h9
  · have h8 : isV v = false := by simpa using h9
    rw [show vid v = (v, Fo.nil) from rfl, subT_con _ h8, h.con v h8]; rfl
theorem StP.no {L : List Pr} {σ : List UInt8 → Ty} {p : Pr} (h : StP L false σ) : StP (L ++ [p]) false σ := by
  unfold StP at h ⊢
  rw [if_neg (by simp)] at h ⊢
  exact fun hs => h (hs.sub fun q hq => List.mem_append_left _ hq)
theorem StP.step {L : List Pr} {σ σ' : List UInt8 → Ty} {p : Pr} {a b : Ty} {e : Int} (h : StP L true σ) (hab : (a = p.A ∧ b = p.B) ∨ (a = p.B ∧ b = p.A)) (hu : UniP σ a b e σ') : StP (L ++ [p]) (decide (e = 0)) σ' := by
  unfold StP at h
  rw [if_pos rfl] at h
  have hmem : ∀ {q}, q ∈ L ++ [p] → q ∈ L ∨ q = p := fun {q} hq => by
    rcases List.mem_append.1 hq with hq | hq
    · exact .inl hq
    · exact .inr (List.mem_singleton.1 hq)
  unfold StP
  by_cases he : e = 0
  · rw [if_pos (decide_eq_true he)]
    obtain ⟨h1, h2, hm⟩ := uni_ok hu he
    have hpm : may p.na p.aa = true ∧ may p.nb p.ab = true := by
      rcases hab with ⟨rfl, rfl⟩ | ⟨rfl, rfl⟩
      · exact ⟨h1, h2⟩
      · exact ⟨h2, h1⟩
    have hpe : subT σ' p.A = subT σ' p.B := by
      rcases hab with ⟨rfl, rfl⟩ | ⟨rfl, rfl⟩
      · exact hm.eq
      · exact hm.eq.symm
    refine ⟨fun q hq => ?_, fun q hq => ?_, fun θ hθ hs => ?_⟩
    · rcases hmem hq with hq | rfl
      · exact h.ok q hq
      · exact hpm
    · rcases hmem hq with hq | rfl
      · exact uni_keep hu (h.eq q hq)
      · exact hpe
    · have h3 := h.best θ hθ fun q hq => hs q (List.mem_append_left _ hq)
      have h4 := hs p (List.mem_append_right _ (List.mem_singleton.2 rfl))
      refine hm.best θ h3 ?_
      rcases hab with ⟨rfl, rfl⟩ | ⟨rfl, rfl⟩
      · exact h4
      · exact h4.symm
  · rw [if_neg (by simpa using he)]
    rintro ⟨h1, θ, h2, h3⟩
    have h4 := h1 p (List.mem_append_right _ (List.mem_singleton.2 rfl))
    have h5 := h3 p (List.mem_append_right _ (List.mem_singleton.2 rfl))
    have h6 := h.best θ h2 fun q hq => h3 q (List.mem_append_left _ hq)
    unfold UniP at hu
    have hmm : may a.1 a.2 = true ∧ may b.1 b.2 = true := by
      rcases hab with ⟨rfl, rfl⟩ | ⟨rfl, rfl⟩
      · exact h4
      · exact ⟨h4.2, h4.1⟩
    rw [if_pos hmm] at hu
    rcases hu with ⟨h7, _⟩ | ⟨_, _, h7⟩
    · exact he h7
    · refine h7 θ h6 ?_
      rcases hab with ⟨rfl, rfl⟩ | ⟨rfl, rfl⟩
      · exact h5
      · exact h5.symm
theorem StP.same {L M : List Pr} {x y : Bool} {σ τ : List UInt8 → Ty} (h1 : StP L x σ) (h2 : StP M y τ) (hg1 : Go.Un.Good σ) (hg2 : Go.Un.Good τ) (hp : ∀ p, p ∈ L ↔ p ∈ M) : x = y ∧ (x = true → σ = τ) := by
  have sol : ∀ {L σ}, Go.Un.Good σ → MgL L σ → Sol L := fun {L σ} hg h => ⟨h.ok, σ, good_fac hg, h.eq⟩
  unfold StP at h1 h2
  cases x <;> cases y
  · exact ⟨rfl, fun h => by cases h⟩
  · rw [if_neg (by simp)] at h1
    rw [if_pos rfl] at h2
    exact absurd ((sol hg2 h2).sub fun p h => (hp p).1 h) h1
  · rw [if_pos rfl] at h1
    rw [if_neg (by simp)] at h2
    exact absurd ((sol hg1 h1).sub fun p h => (hp p).2 h) h2
  · rw [if_pos rfl] at h1 h2
    exact ⟨rfl, fun _ => funext (good_eq hg1 hg2 (h1.best τ (good_fac hg2) fun p h => h2.eq p ((hp p).1 h)) (h2.best σ (good_fac hg1) fun p h => h1.eq p ((hp p).2 h)))⟩
end Go.Un
