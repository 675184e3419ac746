/- Walks. -/
import Derived.Test.YtgefmjghdijbfaaGreatDoorQ02
import Derived.Test.YtgefmjghdijbfaaGreatDoorQ01
import Derived.Lib.ConvBytes
import Derived.Laws.BytesString
import Derived.StillTail
import Derived.Test.YtgefmjghdijbfaaGreatDoorQ03
import Derived.Test.YtgefmjghdijbfaaGreatDoorQ04
import Derived.Below
import Derived.Laws.MakeOwn
import Derived.Laws.Slices
import Derived.Laws.Cover3
import Derived.Test.YtgefmjghdijbfaaGreatDoorQ05
import Derived.Test.YtgefmjghdijbfaaGreatDoorQ06
import Derived.Test.YtgefmjghdijbfaaGreatDoorQ07
import Derived.WideLaws
namespace Go.Wk
open Go
set_option linter.unusedSimpArgs false
set_option linter.unusedVariables false
section
variable {P : Program} {n : Sz} {L : List (Nat × Value)} {w0 : World} {F0 : Heap} {K0 : List Nat} {F : Heap} {G : List Grp} {a : Act} {w : World}
variable {ops : Array Oper} {Q : Exit → Act → World → Prop} {rest : List Oper} {o o1 o2 : Oper}
theorem foldl_push : ∀ (l acc : List UInt8), (l.map fun b => (b.toNat : Int)).foldl (fun (r : ByteArray) (n : Int) => r.push (UInt8.ofNat n.toNat)) (bs acc) = bs (acc ++ l)
 | [], acc => by simp
 | b :: r, acc => by
  have e : (bs acc).push (UInt8.ofNat ((b.toNat : Int)).toNat) = bs (acc ++ [b]) := by
   apply ByteArray.ext
   apply Array.ext'
   simp [bs, ByteArray.push]
  rw [List.map_cons, List.foldl_cons, e, foldl_push r (acc ++ [b])]
  simp
theorem sv_toStr {x : Operand} {v : Value} {q : Nat} {l : List UInt8} {g : Grp} {R} {t u e : TypeId} [ht : Und P t (.slice e)] [hu : Und P u .string] [he : Und P e (.int .u8)] (S : St n L w0 F0 K0 F G a w) (ho : o.op = .convert t u x) (hx : ev L x = some v)
  (hown : OwnS e 1 v q (l.map fun b => Value.int .u8 b.toNat) g) [hN : Nth G g R] : SV P o a w (.string (bs l)) := by
 unfold SV execOp
 rw [ho]
 have hr : (Conv.bytesToString v).run P w = .ok (.string (bs l)) w := by
  have hl := hown.1
  simp only [List.length_map, Nat.mul_one] at hl
  rcases hown.2 with ⟨rfl, rfl, _⟩ | ⟨b, cap, cur, rfl, rfl, hkc, hcm, hcs, htk⟩
  ·have : l = [] := List.eq_nil_of_length_eq_zero hl
   subst this
   rfl
  ·obtain ⟨G1, G2, e1, hR⟩ := hN.h
   have hhb : w.heap[b]? = some (.cells cur e (0, 0)) := (S.tr.own (b, _) (by rw [e1]; simp [List.flatten_append, List.flatten_cons])).1
   have hld := run_loadCells_list (P := P) w ⟨b, 0, none⟩ (l.map fun b => Value.int .u8 b.toNat) (fun j u hu => by
    rw [addr_add, Nat.zero_add]
    refine cell_of_heap hhb ?_
    rw [← htk, List.getElem?_take] at hu
    split at hu
    ·simpa using hu
    ·cases hu)
   rw [List.length_map, hl] at hld
   rw [run_bytesToString (P := P) w ⟨b, 0, none⟩ q cap (l.map fun b => (b.toNat : Int)) (by rw [hld]; simp [List.map_map])]
   have := foldl_push l []
   simp only [bs, List.nil_append] at this
   congr 2
 cases v <;> first | (rcases hown.2 with ⟨h, _⟩ | ⟨_, _, _, h, _⟩ <;> cases h; done) | skip
 all_goals simp [S.fr.eval hx, convert, run_underlying ht.h, run_underlying hu.h, run_underlying he.h, hr]
end
section
variable {P : Program} {n : Sz} {L : List (Nat × Value)} {w0 : World} {F0 : Heap} {K0 : List Nat} {F : Heap} {G : List Grp} {a : Act} {w : World}
variable {ops : Array Oper} {Q : Exit → Act → World → Prop} {rest : List Oper} {o : Oper}
theorem flat_at {α : Type} (f : α → List Value) (sz : Nat) : ∀ (l : List α), (∀ x ∈ l, (f x).length = sz) → ∀ (k : Nat) (x : α), l[k]? = some x → ((l.flatMap f).drop (k * sz)).take sz = f x
 | [], _, k, x, h => by cases h
 | y :: r, hl, k, x, h => by
  have hy := hl y (by simp)
  cases k with
  | zero =>
   simp only [List.getElem?_cons_zero, Option.some.injEq] at h
   subst h
   simp only [List.flatMap_cons, Nat.zero_mul, List.drop_zero]
   rw [← hy]; exact List.take_left
  | succ k =>
   simp only [List.getElem?_cons_succ] at h
   have := flat_at f sz r (fun z hz => hl z (by simp [hz])) k x h
   rw [List.flatMap_cons, Nat.add_mul, Nat.one_mul, Nat.add_comm, ← List.drop_drop, ← hy]
   rw [List.drop_left]
   rw [hy]; exact this
theorem Cels.elem {α : Type} {f : α → List Value} {sz : Nat} {l : List α} (hl : ∀ x ∈ l, (f x).length = sz) {b off k : Nat} {x : α} (h : Cels F b off (l.flatMap f)) (hk : l[k]? = some x) : Cels F b (off + k * sz) (f x) := by
 have := (h.drop (k * sz)).take sz
 rwa [flat_at f sz l hl k x hk] at this
end
section
variable {P : Program} {n : Sz} {L : List (Nat × Value)} {w0 : World} {F0 : Heap} {K0 : List Nat} {F : Heap} {G : List Grp} {a : Act} {w : World} {o o2 : Oper} {ops : Array Oper} {rest : List Oper} {Q : Exit → Act → World → Prop}
theorem sv_sliceSl_h {x y : Operand} {ao : Option Addr} {m c i : Nat} {k : IntKind} {t e : TypeId} {zv : Value} {sz by_ : Nat} [ht : Und P t (.slice e)] [hi : Inf P e zv sz by_] (S : St n L w0 F0 K0 F G a w) (ho : o.op = .slice t x none (some y) none)
  (hx : ev L x = some (.slice ao m c)) (hy : ev L y = some (.int k (Int.ofNat i))) (h1 : i ≤ c) : SV P o a w (.slice ao i c) := by
 have hb : (Instr.sliceBounds true m c none (some (.int k (Int.ofNat i))) none).run P w = .ok (0, i, c) w := by
  simp [Instr.sliceBounds, Instr.sliceBound, asIntOf, h1]
 have ha : ao.map (fun a : Addr => a.add (0 * sz)) = ao := by cases ao <;> simp [Addr.add]
 unfold SV execOp
 rw [ho]
 simp only [Option.map_none, Option.map_some, S.fr.eval hx, S.fr.eval hy]
 simp only [Instr.sliceAt, Instr.slice, Sem.run_bind, run_underlying ht.h, Result.andThen_ok, hb, run_sizeOf hi, ha]
 simp
end
section
variable {P : Program} {ops : Array Oper} {Q : Exit → Act → World → Prop} {Kw : World → Prop}
variable {n : Sz} {L : List (Nat × Value)} {w0 : World} {F0 : Heap} {K0 : List Nat} {F : Heap} {G : List Grp} {a : Act} {w : World} {T : Act → Prop} {rest : List Oper} {o : Oper} {Kl : List (Nat × Obj)} {pf late brk : List Nat} {r : Od} {live : Bool} {Fk : Heap}
theorem OwnS.heapCels {e size k : Nat} {v : Value} {xs : List Value} {g : Grp} (h : OwnS e size v k xs g) : ∀ F : Heap, ∃ ao cap, v = .slice ao k cap ∧ (0 < k → ∃ b off, ao = some ⟨b, off, none⟩ ∧ Cels (F.add g) b off xs) := fun F => by
 rcases h.2 with ⟨rfl, rfl, rfl⟩ | ⟨b, cap, cur, rfl, rfl, h1, h2, h3, h4⟩
 ·exact ⟨none, 0, rfl, fun h => absurd h (Nat.lt_irrefl _)⟩
 ·refine ⟨some ⟨b, 0, none⟩, cap, rfl, fun _ => ⟨b, 0, rfl, fun j u hu => ?_⟩⟩
  refine ⟨cur, e, (0, 0), ?_, ?_⟩
  ·unfold Heap.add; simp
  ·rw [← h4] at hu
   have hj : j < k * size := by
    have := (List.getElem?_eq_some_iff.1 hu).1
    rw [List.length_take] at this; omega
   rw [List.getElem?_take_of_lt hj] at hu
   simpa using hu
theorem wpl_appendOwn {d : Nat} {t e : TypeId} {s x : Operand} {z : Value} {sz by_ : Nat} {v u : Value} {q m : Nat} {cs news : List Value} {g g2 : Grp} {R R2} [ht : Und P t (.slice e)] [hi : Inf P e z sz by_] (S : St n L w0 F0 K0 F G a w)
  (hg : o.guard = none) (hd : o.dst = some d) (hn : Nat.blt d n.sz = true) (ho : o.op = .call { callee := .builtin .append, args := #[s, x], argTypes := #[t, t] }) (hs : ev L s = some v) (hx : ev L x = some u) (hown : OwnS e sz v q cs g) (hown2 : OwnS e sz u m news g2) [hN2 : NthDel G g2 R2] [hN : Nth R2 g R]
  (hz : z.cells.toList.length = sz) (h1 : ∀ u ∈ news, u.oneCell' = true)
  (hlen : (q + m) * by_ ≤ 140737488355328) (h63 : q + m ≤ 9223372036854775807)
  (k : ∀ v' g' a' w', OwnS e sz v' (q + m) (cs ++ news) g' → St n ((d, v') :: L) w0 F0 K0 F (R g') a' w' → wpList P ops Q rest a' w') : wpList P ops Q (o :: rest) a w := by
 obtain ⟨G1, G2, e1, e2⟩ := hN2.h
 subst e1; subst e2
 obtain ⟨ao, c, rfl, hpos⟩ := hown2.heapCels F
 refine wpl_appendSl S.freeze hg hd hn ho hs hx hown hz hown2.1 hpos h1 hlen h63 fun v' g' a' w' ho' S' => k v' g' a' w' ho' (S'.shrink (add_le S) (S.tr.ext))
end
section
variable {P : Program} {n : Sz} {L : List (Nat × Value)} {w0 : World} {F0 : Heap} {K0 : List Nat} {F : Heap} {G : List Grp} {a : Act} {w : World} {ops : Array Oper} {Q : Exit → Act → World → Prop} {rest : List Oper} {o : Oper} {Kl : List (Nat × Obj)} {pf late brk : List Nat} {r : Od} {live : Bool} {Fk : Heap}
theorem wpl_p {d : Nat} {v : Value} (S : St n L w0 F0 K0 F G a w) (hg : o.guard = none) (hd : o.dst = some d) (hn : Nat.blt d n.sz = true) (k : ∀ a', St n ((d, v) :: L) w0 F0 K0 F G a' w → wpList P ops Q rest a' w)
  (h : St n L w0 F0 K0 F G a w → SV P o a w v := by
   intro S
   first
   | exact sv_pure S rfl
   | exact sv_pickB S rfl rfl rfl rfl) : wpList P ops Q (o :: rest) a w :=
 wpl_v S hg hd hn (h S) k
theorem wpl_l {d : Nat} {v : Value} (S : St n L w0 F0 K0 F G a w) (hg : o.guard = none) (hd : o.dst = some d) (hn : Nat.blt d n.sz = true) (k : ∀ a', St n ((d, v) :: L) w0 F0 K0 F G a' w → wpList P ops Q rest a' w)
  (h : St n L w0 F0 K0 F G a w → SV P o a w v := by
   intro S
   first
   | exact sv_loadO S rfl rfl (by rfl)
   | exact sv_loadF S rfl rfl (by assumption)
   | exact sv_loadAO S rfl rfl (by rfl)
   | exact sv_loadAF S rfl rfl (by assumption) (by rfl)) : wpList P ops Q (o :: rest) a w :=
 wpl_v S hg hd hn (h S) k
theorem wpm_p {k d : Nat} {v : Value} (S : St n L w0 F0 K0 F G a w) (ho : ops[k]? = some o) (hpf : pf.contains k = true) (hlt : late.contains k = false) (hw : Region.wanted o (yielded ops a.tmps) = true) (hd : o.dst = some d) (hn : Nat.blt d n.sz = true)
  (kk : ∀ a', St n ((d, v) :: L) w0 F0 K0 F G a' w → wpM P ops Q (KwF Fk Kl) pf late brk live r a' w)
  (h : ∀ w', St n L w' noHeap [] noHeap [] a w' → SV P o a w' v := by
   intro w' S
   first
   | exact sv_pure S rfl
   | exact sv_pickB S rfl rfl rfl rfl) : wpM P ops Q (KwF Fk Kl) pf late brk live (.one k r) a w :=
 wpm_v S ho hpf hlt hw hd hn h kk
end
end Go.Wk
