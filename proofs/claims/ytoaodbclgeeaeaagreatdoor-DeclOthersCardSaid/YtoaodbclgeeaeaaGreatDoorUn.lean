/- Types as forests; how they lie in memory; which are variables, which may be. -/
import Derived.Test.YtoaodbclgeeaeaaGreatDoorWk14
import Derived.Test.YtoaodbclgeeaeaaGreatDoorWk11
namespace Go.Un
open Go Go.Wk
set_option linter.unusedSimpArgs false
set_option linter.unusedVariables false

/-- A list of types: the first one's name, its parts, the others. -/
inductive Fo where
  | nil
  | cons (nm : List UInt8) (ar r : Fo)
  deriving DecidableEq
namespace Fo
def len : Fo → Nat
  | nil => 0
  | cons _ _ r => r.len + 1
def get? : Fo → Nat → Option (List UInt8 × Fo)
  | nil, _ => none
  | cons nm ar r, 0 => some (nm, ar)
  | cons nm ar r, k + 1 => r.get? k
def size : Fo → Nat
  | nil => 0
  | cons _ ar r => ar.size + r.size + 1
def drop (l : Fo) : Nat → Fo
  | 0 => l
  | k + 1 => match l.drop k with | nil => nil | cons _ _ r => r
theorem get_lt : ∀ {l : Fo} {k : Nat}, k < l.len → ∃ x, l.get? k = some x
  | cons nm ar r, 0, _ => ⟨_, rfl⟩
  | cons nm ar r, k + 1, h => get_lt (l := r) (by simpa [len] using h)
theorem lt_get : ∀ {l : Fo} {k : Nat} {x}, l.get? k = some x → k < l.len
  | cons nm ar r, 0, x, h => by simp [len]
  | cons nm ar r, k + 1, x, h => by have := lt_get (l := r) h; simp [len]; omega
theorem drop_step (nm : List UInt8) (ar r : Fo) : ∀ k, (cons nm ar r).drop (k + 1) = r.drop k
  | 0 => rfl
  | k + 1 => by
    show (match (cons nm ar r).drop (k + 1) with | nil => nil | cons _ _ r => r) = _
    rw [drop_step nm ar r k]; rfl
theorem drop_nil : ∀ k, nil.drop k = nil
  | 0 => rfl
  | k + 1 => by show (match nil.drop k with | nil => nil | cons _ _ r => r) = nil; rw [drop_nil k]
theorem drop_get : ∀ {l : Fo} {k : Nat} {x}, l.get? k = some x → l.drop k = .cons x.1 x.2 (l.drop (k + 1))
  | cons nm ar r, 0, x, h => by cases h; rfl
  | cons nm ar r, k + 1, x, h => by rw [drop_step, drop_step]; exact drop_get (l := r) h
theorem drop_len : ∀ {l : Fo} {k : Nat}, l.len ≤ k → l.drop k = .nil
  | nil, k, _ => drop_nil k
  | cons nm ar r, 0, h => by simp [len] at h
  | cons nm ar r, k + 1, h => by rw [drop_step]; exact drop_len (l := r) (by simpa [len] using h)
theorem len_size : ∀ l : Fo, l.len ≤ l.size
  | nil => Nat.le_refl _
  | cons _ ar r => by have := len_size r; simp only [len, size]; omega
theorem size_get : ∀ {l : Fo} {k : Nat} {x}, l.get? k = some x → x.2.size < l.size
  | cons nm ar r, 0, x, h => by cases h; simp [size]; omega
  | cons nm ar r, k + 1, x, h => by have := size_get (l := r) h; simp [size]; omega
end Fo
abbrev ptr (b : Nat) : Value := .pointer (some ⟨b, 0, none⟩)
/-- A list of types lies at a place. -/
def FoM (F : Heap) : Fo → Nat → Nat → Prop
  | .nil, _, _ => True
  | .cons nm ar r, b, off => Cel F b off (.string (bs nm)) ∧
      (∃ ao cap, Cel F b (off + 1) (.slice ao ar.len cap) ∧ (ar.len ≤ cap ∧ ar.len ≤ 9223372036854775807) ∧ (0 < ar.len → ∃ b' o', ao = some ⟨b', o', none⟩ ∧ FoM F ar b' o')) ∧ FoM F r b (off + 2)
def SlF (F : Heap) (v : Value) (l : Fo) : Prop := ∃ ao cap, v = .slice ao l.len cap ∧ (l.len ≤ cap ∧ l.len ≤ 9223372036854775807) ∧ (0 < l.len → ∃ b o, ao = some ⟨b, o, none⟩ ∧ FoM F l b o)
/-- The cells of a type. -/
def TyC (F : Heap) (cs : List Value) (nm : List UInt8) (ar : Fo) : Prop := ∃ v, cs = [.string (bs nm), v] ∧ SlF F v ar
theorem FoM.mono {F F' : Heap} (hF : ∀ b o, F b = some o → F' b = some o) : ∀ {l : Fo} {b off : Nat}, FoM F l b off → FoM F' l b off
  | .nil, _, _, _ => trivial
  | .cons nm ar r, b, off, ⟨h1, ⟨ao, cap, h2, h3, h4⟩, h5⟩ => ⟨h1.mono hF, ⟨ao, cap, h2.mono hF, h3, fun h => by
      obtain ⟨b', o', e, h6⟩ := h4 h
      exact ⟨b', o', e, FoM.mono hF h6⟩⟩, FoM.mono hF h5⟩
theorem SlF.mono {F F' : Heap} (hF : ∀ b o, F b = some o → F' b = some o) {v : Value} {l : Fo} (h : SlF F v l) : SlF F' v l := by
  obtain ⟨ao, cap, h1, h2, h3⟩ := h
  exact ⟨ao, cap, h1, h2, fun h => by obtain ⟨b, o, e, h6⟩ := h3 h; exact ⟨b, o, e, h6.mono hF⟩⟩
theorem TyC.mono {F F' : Heap} (hF : ∀ b o, F b = some o → F' b = some o) {cs : List Value} {nm : List UInt8} {ar : Fo} (h : TyC F cs nm ar) : TyC F' cs nm ar := by
  obtain ⟨v, h1, h2⟩ := h; exact ⟨v, h1, h2.mono hF⟩
theorem SlF.nil (F : Heap) : SlF F (.slice none 0 0) .nil := ⟨none, 0, rfl, ⟨Nat.le_refl _, by decide⟩, fun h => absurd h (by decide)⟩
/-- Of the k-th of them: its cells. -/
theorem FoM.at {F : Heap} : ∀ {l : Fo} {b off k : Nat} {x}, FoM F l b off → l.get? k = some x → ∃ cs, Cels F b (off + k * 2) cs ∧ cs.length = 2 ∧ TyC F cs x.1 x.2
  | .cons nm ar r, b, off, 0, x, ⟨h1, ⟨ao, cap, h2, h3, h4⟩, h5⟩, h => by
    cases h
    refine ⟨[.string (bs nm), .slice ao ar.len cap], fun j v hj => ?_, rfl, _, rfl, ao, cap, rfl, h3, h4⟩
    rcases j with - | j
    · cases hj; simpa using h1
    rcases j with - | j
    · cases hj; simpa using h2
    · simp at hj
  | .cons nm ar r, b, off, k + 1, x, ⟨h1, h2, h5⟩, h => by
    obtain ⟨cs, h6, h7, h8⟩ := FoM.at (l := r) h5 h
    refine ⟨cs, ?_, h7, h8⟩
    rw [show off + (k + 1) * 2 = off + 2 + k * 2 by omega]
    exact h6

theorem ownS_len {e sz q : Nat} {v : Value} {xs : List Value} {g : Grp} (h : OwnS e sz v q xs g) : xs.length = q * sz := h.1
theorem ownS_mk1 {e q b cap : Nat} {xs ex : List Value} (h1 : xs.length = q) (h2 : q ≤ cap) (h3 : cap ≤ maxLen) (h4 : (xs ++ ex).length = cap) : OwnS e 1 (.slice (some ⟨b, 0, none⟩) q cap) q xs [(b, .cells ⟨xs ++ ex⟩ e (0, 0))] :=
  ⟨by omega, .inr ⟨b, cap, ⟨xs ++ ex⟩, rfl, rfl, h2, h3, by simp at h4 ⊢; omega, by simp [← h1]⟩⟩
theorem ownS_blk {e q : Nat} {v : Value} {xs : List Value} {g : Grp} (h : OwnS e 1 v q xs g) (hq : 0 < q) : ∃ b cap ex, v = .slice (some ⟨b, 0, none⟩) q cap ∧ g = [(b, .cells ⟨xs ++ ex⟩ e (0, 0))] ∧ q ≤ cap ∧ cap ≤ maxLen ∧ xs.length = q ∧ (xs ++ ex).length = cap := by
  rcases h.2 with ⟨_, h1, _⟩ | ⟨b, cap, cur, rfl, _, _⟩
  · omega
  · obtain ⟨ex, h1, h2, h3, h4, h5⟩ := h.block
    exact ⟨b, cap, ex, rfl, h1, h2, h3, h4, h5⟩
/-- Cells that are a list of types. -/
def FoC (F : Heap) : List Value → Fo → Prop
  | [], .nil => True
  | x :: v :: r, .cons nm ar l => x = .string (bs nm) ∧ SlF F v ar ∧ FoC F r l
  | _, _ => False
def Fo.app : Fo → Fo → Fo
  | .nil, m => m
  | .cons nm ar r, m => .cons nm ar (r.app m)
theorem Fo.len_app : ∀ (l m : Fo), (l.app m).len = l.len + m.len
  | .nil, m => by simp [Fo.app, Fo.len]
  | .cons nm ar r, m => by simp only [Fo.app, Fo.len, Fo.len_app r m]; omega
theorem FoC.app {F : Heap} : ∀ {xs ys : List Value} {l m : Fo}, FoC F xs l → FoC F ys m → FoC F (xs ++ ys) (l.app m)
  | [], ys, .nil, m, _, h => h
  | [], _, .cons _ _ _, _, h, _ => h.elim
  | [_], _, .nil, _, h, _ => h.elim
  | [_], _, .cons _ _ _, _, h, _ => h.elim
  | _ :: _ :: _, _, .nil, _, h, _ => h.elim
  | x :: v :: r, ys, .cons nm ar l, m, ⟨h1, h2, h3⟩, h => ⟨h1, h2, FoC.app h3 h⟩
theorem FoC.mono {F F' : Heap} (hF : ∀ b o, F b = some o → F' b = some o) : ∀ {xs : List Value} {l : Fo}, FoC F xs l → FoC F' xs l
  | [], .nil, _ => trivial
  | [], .cons _ _ _, h => h.elim
  | [_], .nil, h => h.elim
  | [_], .cons _ _ _, h => h.elim
  | _ :: _ :: _, .nil, h => h.elim
  | x :: v :: r, .cons nm ar l, ⟨h1, h2, h3⟩ => ⟨h1, h2.mono hF, FoC.mono hF h3⟩
theorem FoC.fom {F : Heap} : ∀ {xs : List Value} {l : Fo} {b off : Nat}, FoC F xs l → Cels F b off xs → FoM F l b off
  | [], .nil, _, _, _, _ => trivial
  | [], .cons _ _ _, _, _, h, _ => h.elim
  | [_], .nil, _, _, h, _ => h.elim
  | [_], .cons _ _ _, _, _, h, _ => h.elim
  | _ :: _ :: _, .nil, _, _, h, _ => h.elim
  | x :: v :: r, .cons nm ar l, b, off, ⟨h1, ⟨ao, cap, h2, h4, h5⟩, h3⟩, hc => by
    subst h1; subst h2
    refine ⟨hc 0 _ rfl, ⟨ao, cap, hc 1 _ rfl, h4, h5⟩, FoC.fom h3 fun j u hu => ?_⟩
    have := hc (j + 2) u hu
    rw [show off + (j + 2) = off + 2 + j by omega] at this
    exact this
theorem FoC.one {F : Heap} {nm : List UInt8} {v : Value} {ar : Fo} (h : SlF F v ar) : FoC F [.string (bs nm), v] (.cons nm ar .nil) := ⟨rfl, h, trivial⟩
/-- An own slice of types, not written any more. -/
theorem FoC.slf {F : Heap} {e q : Nat} {v : Value} {xs : List Value} {g : Grp} {l : Fo} (hown : OwnS e 2 v q xs g) (h : FoC F xs l) (hq : q = l.len) (hF : ∀ b o, F b = some o → F.add g b = some o) (hm : q ≤ 9223372036854775807) : SlF (F.add g) v l := by
  obtain ⟨ao, cap, rfl, h1, h2⟩ := hown.slC F
  subst hq
  exact ⟨ao, cap, rfl, ⟨h1, hm⟩, fun hp => by obtain ⟨b, o, e, h3⟩ := h2 hp; exact ⟨b, o, e, (h.mono hF).fom h3⟩⟩
structure Pr where
  na : List UInt8
  aa : Fo
  nb : List UInt8
  ab : Fo
  c : Bool
def PrM (F : Heap) (cs : List Value) (p : Pr) : Prop := ∃ va vb, cs = [.string (bs p.na), va, .string (bs p.nb), vb, .bool p.c] ∧ SlF F va p.aa ∧ SlF F vb p.ab
def PsM (F : Heap) (v : Value) (ps : List Pr) : Prop := ∃ ao cap, v = .slice ao ps.length cap ∧ (ps.length ≤ cap ∧ ps.length ≤ 9223372036854775807) ∧ (0 < ps.length → ∃ b o, ao = some ⟨b, o, none⟩ ∧ ∀ (k : Nat) (p : Pr), ps[k]? = some p → ∃ va vb, Cels F b (o + k * 5) [.string (bs p.na), va, .string (bs p.nb), vb, .bool p.c] ∧ SlF F va p.aa ∧ SlF F vb p.ab)
theorem PsM.mono {F F' : Heap} (hF : ∀ b o, F b = some o → F' b = some o) {v : Value} {ps : List Pr} (h : PsM F v ps) : PsM F' v ps := by
  obtain ⟨ao, cap, h1, h2, h3⟩ := h
  exact ⟨ao, cap, h1, h2, fun h => by
    obtain ⟨b, o, e, h6⟩ := h3 h
    exact ⟨b, o, e, fun k p hp => by obtain ⟨va, vb, h7, h8, h9⟩ := h6 k p hp; exact ⟨va, vb, Cels.mono hF h7, h8.mono hF, h9.mono hF⟩⟩⟩

def varT (nm : List UInt8) (ar : Fo) : Bool := decide (1 < nm.length) && decide ((nm.getD 0 0).toNat = 39) && decide (ar.len = 0)
/-- May the types be, and how many parts are left? -/
def sizedL : Fo → Int → Int → Bool × Int
  | .nil, _, n => (true, n)
  | .cons nm ar r, d, n =>
    let x := if n - 1 < 0 ∨ 64 < d ∨ nm = [] then (false, n - 1) else if (nm.getD 0 0).toNat = 39 then (varT nm ar, n - 1) else sizedL ar (d + 1) (n - 1)
    if x.1 = true then sizedL r d x.2 else (false, x.2)
def sizedT (nm : List UInt8) (ar : Fo) (d n : Int) : Bool × Int :=
  if n - 1 < 0 ∨ 64 < d ∨ nm = [] then (false, n - 1) else if (nm.getD 0 0).toNat = 39 then (varT nm ar, n - 1) else sizedL ar (d + 1) (n - 1)
def may (nm : List UInt8) (ar : Fo) : Bool := (sizedT nm ar 1 2048).1
theorem sizedL_cons (nm : List UInt8) (ar r : Fo) (d n : Int) : sizedL (.cons nm ar r) d n = if (sizedT nm ar d n).1 = true then sizedL r d (sizedT nm ar d n).2 else (false, (sizedT nm ar d n).2) := by
  conv => lhs; unfold sizedL
  rfl
theorem sizedL_le : ∀ (l : Fo) (d n : Int), (sizedL l d n).2 ≤ n
  | .nil, _, n => Int.le_refl _
  | .cons nm ar r, d, n => by
    have h1 : (sizedT nm ar d n).2 ≤ n := by
      have := sizedL_le ar (d + 1) (n - 1)
      unfold sizedT
      split
      · show n - 1 ≤ n; omega
      · split
        · show n - 1 ≤ n; omega
        · omega
    rw [sizedL_cons]
    split
    · have := sizedL_le r d (sizedT nm ar d n).2; omega
    · exact h1
theorem sizedT_le (nm : List UInt8) (ar : Fo) (d n : Int) : (sizedT nm ar d n).2 ≤ n - 1 := by
  have := sizedL_le ar (d + 1) (n - 1)
  unfold sizedT
  split
  · exact Int.le_refl _
  · split
    · exact Int.le_refl _
    · exact this
theorem ct_lendG {P : Program} {F : Heap} {f : FuncId} {args : List Value} {g : Grp} {Post : List Grp → Value → Prop} (C : Ct P f args (F.add g) [] (fun _ G' v => Post G' v)) : Ct P f args F [g] (fun _ G'' v => ∃ G', G'' = [g] ++ G' ∧ Post G' v) := by
  intro w hw
  have hT : Tr w F (keys [g]) w (F.add g) ([] ++ []) := Tr.freeze (G1 := []) (G2 := []) hw.tr
  have hA : At w (F.add g) [] := hT.at
  refine (C w hA).mono fun e w' ⟨v, F', G', he, ht, hp⟩ => ⟨v, F, [g] ++ G', he, ?_, G', rfl, hp⟩
  have hkey : ∀ b ∈ keys [g], b < w.heap.size := fun b hb => by
    obtain ⟨p, hp1, rfl⟩ := List.mem_map.1 hb
    exact heap_lt (hw.own p hp1).1
  have hG : ∀ p ∈ G'.flatten, w'.heap[p.1]? = some p.2 ∧ F p.1 = none ∧ w.heap.size ≤ p.1 := fun p hp1 => by
    obtain ⟨h1, h2, h3⟩ := ht.own p hp1
    refine ⟨h1, ?_, by rcases h3 with h3 | h3; exact h3; simp [keys] at h3⟩
    cases hF : F p.1 with
    | none => rfl
    | some o =>
      have h4 : (F.add g) p.1 = some o := by
        rw [Heap.add_none (fun hm => ?_)]
        · exact hF
        · have h5 := hw.own
          obtain ⟨q, hq, hq2⟩ := List.mem_map.1 hm
          have := (h5 q (by simpa using hq)).2
          rw [hq2, hF] at this; cases this
      rw [ht.ext _ _ h4] at h2; cases h2
  refine ⟨ht.os, ht.tape, ht.output, ht.size, fun b hb _ => ht.old b hb (by simp [keys]), fun b o hb => ?_, fun _ _ h => h, fun _ _ h => .inl h, fun p hq => ?_, ?_⟩
  · have h1 := hw.frz b o hb
    rw [ht.old b (heap_lt h1) (by simp [keys])]; exact h1
  · rw [List.flatten_append] at hq
    rcases List.mem_append.1 hq with hq | hq
    · have h1 := hw.own p hq
      refine ⟨?_, h1.2, .inr (mem_keys hq)⟩
      rw [ht.old p.1 (heap_lt h1.1) (by simp [keys])]; exact h1.1
    · obtain ⟨h1, h2, h3⟩ := hG p hq
      exact ⟨h1, h2, .inl h3⟩
  · have hk : keys ([g] ++ G') = keys [g] ++ keys G' := by simp [keys, List.flatten_append]
    rw [hk]
    refine List.nodup_append.2 ⟨hw.nd, ht.nd, fun x hx y hy e => ?_⟩
    subst e
    obtain ⟨p, hp1, rfl⟩ := List.mem_map.1 hy
    have := (hG p hp1).2.2
    have := hkey _ hx
    omega
theorem St.permI {n : Sz} {L : List (Nat × Value)} {w0 : World} {F0 : Heap} {K0 : List Nat} {F : Heap} {G : List Grp} {a : Act} {w : World} (S : St n L w0 F0 K0 F G a w) (m : Nat) (hm : G.length = m) (ix : List Nat) (h : (List.range m).Perm ix) : St n L w0 F0 K0 F (ix.map fun i => G.getD i []) a w := by
  refine ⟨S.fr, S.tr.perm ?_⟩
  have e : G = (List.range m).map fun i => G.getD i [] := by
    refine List.ext_getElem (by simp [hm]) fun i h1 h2 => ?_
    simp [List.getElem?_eq_getElem h1]
  conv => lhs; rw [e]
  exact (h.map _).flatten
theorem ownS_blkN {e sz q : Nat} {v : Value} {xs : List Value} {g : Grp} (h : OwnS e sz v q xs g) (hq : 0 < q) : ∃ b cap ex, v = .slice (some ⟨b, 0, none⟩) q cap ∧ g = [(b, .cells ⟨xs ++ ex⟩ e (0, 0))] ∧ q ≤ cap ∧ cap ≤ maxLen ∧ xs.length = q * sz ∧ (xs ++ ex).length = cap * sz := by
  have h0 := h.1
  rcases h.2 with ⟨_, h1, _⟩ | ⟨b, cap, cur, rfl, rfl, h1, h2, h3, h4⟩
  · omega
  · have e : xs ++ cur.toList.drop (q * sz) = cur.toList := by rw [← h4, List.take_append_drop]
    exact ⟨b, cap, cur.toList.drop (q * sz), rfl, by rw [e], h1, h2, h0, by rw [e]; simpa using h3⟩
theorem ownS_mkN {e sz q b cap : Nat} {xs ex : List Value} (h1 : xs.length = q * sz) (h2 : q ≤ cap) (h3 : cap ≤ maxLen) (h4 : (xs ++ ex).length = cap * sz) : OwnS e sz (.slice (some ⟨b, 0, none⟩) q cap) q xs [(b, .cells ⟨xs ++ ex⟩ e (0, 0))] :=
  ⟨h1, .inr ⟨b, cap, ⟨xs ++ ex⟩, rfl, rfl, h2, h3, by simpa using h4, by simp [← h1]⟩⟩
theorem ownS_cut {e sz q q' b cap : Nat} {xs : List Value} {g : Grp} (h : OwnS e sz (.slice (some ⟨b, 0, none⟩) q cap) q xs g) (hq : q' ≤ q) : OwnS e sz (.slice (some ⟨b, 0, none⟩) q' cap) q' (xs.take (q' * sz)) g := by
  have h0 := h.1
  have hm : q' * sz ≤ q * sz := Nat.mul_le_mul_right _ hq
  rcases h.2 with ⟨h1, _⟩ | ⟨b', cap', cur, h1, rfl, h2, h3, h4, h5⟩
  · cases h1
  · simp only [Value.slice.injEq, Option.some.injEq, Addr.mk.injEq] at h1
    obtain ⟨⟨rfl, _⟩, _, rfl⟩ := h1
    refine ⟨by rw [List.length_take, h0]; omega, .inr ⟨_, _, _, rfl, rfl, by omega, h3, h4, ?_⟩⟩
    rw [← h5, List.take_take, Nat.min_eq_left hm]
end Go.Un
