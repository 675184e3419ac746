/- Walks. -/
import Derived.Test.YtgefmjghdijbfaaGreatDoorQ03
import Derived.Test.YtgefmjghdijbfaaGreatDoorQ02
import Derived.Test.YtgefmjghdijbfaaGreatDoorQ01
import Derived.Below
import Derived.Test.YtgefmjghdijbfaaGreatDoorQ04
import Derived.Test.YtgefmjghdijbfaaGreatDoorQ05
namespace Go.Wk
open Go
set_option linter.unusedSimpArgs false
set_option linter.unusedVariables false
section
variable {P : Program} {n : Sz} {L : List (Nat × Value)} {w0 : World} {F0 : Heap} {K0 : List Nat} {F : Heap} {G : List Grp} {a : Act} {w : World}
variable {ops : Array Oper} {Q : Exit → Act → World → Prop} {rest : List Oper} {o : Oper}
theorem flat_at {α : Type} (f : α → List Value) (sz : Nat) : ∀ (l : List α), (∀ x ∈ l, (f x).length = sz) → ∀ (k : Nat) (x : α), l[k]? = some x → ((l.flatMap f).drop (k * sz)).take sz = f x
 | [], _, k, x, h => by cases h
 | y :: r, hl, k, x, h => by
  have hy := hl y (by simp)
  cases k with
  | zero =>
   simp only [List.getElem?_cons_zero, Option.some.injEq] at h
   subst h
   simp only [List.flatMap_cons, Nat.zero_mul, List.drop_zero]
   rw [← hy]; exact List.take_left
  | succ k =>
   simp only [List.getElem?_cons_succ] at h
   have := flat_at f sz r (fun z hz => hl z (by simp [hz])) k x h
   rw [List.flatMap_cons, Nat.add_mul, Nat.one_mul, Nat.add_comm, ← List.drop_drop, ← hy]
   rw [List.drop_left]
   rw [hy]; exact this
theorem Cels.elem {α : Type} {f : α → List Value} {sz : Nat} {l : List α} (hl : ∀ x ∈ l, (f x).length = sz) {b off k : Nat} {x : α} (h : Cels F b off (l.flatMap f)) (hk : l[k]? = some x) : Cels F b (off + k * sz) (f x) := by
 have := (h.drop (k * sz)).take sz
 rwa [flat_at f sz l hl k x hk] at this
end
section
variable {P : Program} {ops : Array Oper} {Q : Exit → Act → World → Prop} {Kw : World → Prop}
variable {n : Sz} {L : List (Nat × Value)} {w0 : World} {F0 : Heap} {K0 : List Nat} {F : Heap} {G : List Grp} {a : Act} {w : World} {T : Act → Prop} {rest : List Oper} {o : Oper} {Kl : List (Nat × Obj)} {pf late brk : List Nat} {r : Od} {live : Bool} {Fk : Heap}
theorem OwnS.heapCels {e size k : Nat} {v : Value} {xs : List Value} {g : Grp} (h : OwnS e size v k xs g) : ∀ F : Heap, ∃ ao cap, v = .slice ao k cap ∧ (0 < k → ∃ b off, ao = some ⟨b, off, none⟩ ∧ Cels (F.add g) b off xs) := fun F => by
 rcases h.2 with ⟨rfl, rfl, rfl⟩ | ⟨b, cap, cur, rfl, rfl, h1, h2, h3, h4⟩
 ·exact ⟨none, 0, rfl, fun h => absurd h (Nat.lt_irrefl _)⟩
 ·refine ⟨some ⟨b, 0, none⟩, cap, rfl, fun _ => ⟨b, 0, rfl, fun j u hu => ?_⟩⟩
  refine ⟨cur, e, (0, 0), ?_, ?_⟩
  ·unfold Heap.add; simp
  ·rw [← h4] at hu
   have hj : j < k * size := by
    have := (List.getElem?_eq_some_iff.1 hu).1
    rw [List.length_take] at this; omega
   rw [List.getElem?_take_of_lt hj] at hu
   simpa using hu
theorem wpl_appendOwn {d : Nat} {t e : TypeId} {s x : Operand} {z : Value} {sz by_ : Nat} {v u : Value} {q m : Nat} {cs news : List Value} {g g2 : Grp} {R R2} [ht : Und P t (.slice e)] [hi : Inf P e z sz by_] (S : St n L w0 F0 K0 F G a w)
  (hg : o.guard = none) (hd : o.dst = some d) (hn : Nat.blt d n.sz = true) (ho : o.op = .call { callee := .builtin .append, args := #[s, x], argTypes := #[t, t] }) (hs : ev L s = some v) (hx : ev L x = some u) (hown : OwnS e sz v q cs g) (hown2 : OwnS e sz u m news g2) [hN2 : NthDel G g2 R2] [hN : Nth R2 g R]
  (hz : z.cells.toList.length = sz) (h1 : ∀ u ∈ news, u.oneCell' = true)
  (hlen : (q + m) * by_ ≤ 140737488355328) (h63 : q + m ≤ 9223372036854775807)
  (k : ∀ v' g' a' w', OwnS e sz v' (q + m) (cs ++ news) g' → St n ((d, v') :: L) w0 F0 K0 F (R g') a' w' → wpList P ops Q rest a' w') : wpList P ops Q (o :: rest) a w := by
 obtain ⟨G1, G2, e1, e2⟩ := hN2.h
 subst e1; subst e2
 obtain ⟨ao, c, rfl, hpos⟩ := hown2.heapCels F
 refine wpl_appendSl S.freeze hg hd hn ho hs hx hown hz hown2.1 hpos h1 hlen h63 fun v' g' a' w' ho' S' => k v' g' a' w' ho' (S'.shrink (add_le S) (S.tr.ext))
end
end Go.Wk
