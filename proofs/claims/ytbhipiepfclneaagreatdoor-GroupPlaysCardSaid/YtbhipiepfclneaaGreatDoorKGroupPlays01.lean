/- Walks. -/
import Derived.Test.YtbhipiepfclneaaGreatDoorQ05
namespace Go.Wk
open Go
set_option linter.unusedSimpArgs false
set_option linter.unusedVariables false
section
variable {P : Program} {n : Sz} {L : List (Nat × Value)} {w0 : World} {F0 : q01} {K0 : List Nat} {F : q01} {G : List Grp} {a : Act} {w : World}
variable {ops : Array Oper} {Q : Exit → Act → World → Prop} {rest : List Oper} {o : Oper}
theorem q3k {x : Operand} {k' : IntKind} {p : Int} {s t : TypeId} {ks : IntKind} [hs : Und P s (.int ks)] [ht : Und P t (.int .u8)] (S : St n L w0 F0 K0 F G a w) (ho : o.op = .convert s t x) (hx : ev L x = some (.int k' p))
  (hb : 0 ≤ p ∧ p ≤ 255) : SV P o a w (.int .u8 p) := by
 have := q4s (P := P) (k := .u8) S ho hx
 rwa [IntWalk.u8_in _ hb] at this
end
section
variable {P : Program} {n : Sz} {L : List (Nat × Value)} {w0 : World} {F0 : q01} {K0 : List Nat} {F : q01} {G : List Grp} {a : Act} {w : World}
variable {ops : Array Oper} {Q : Exit → Act → World → Prop} {rest : List Oper} {o o1 o2 : Oper}
theorem qbe : ∀ (l acc : List UInt8), (l.map fun b => (b.toNat : Int)).foldl (fun (r : ByteArray) (n : Int) => r.push (UInt8.ofNat n.toNat)) (bs acc) = bs (acc ++ l)
 | [], acc => by simp
 | b :: r, acc => by
  have e : (bs acc).push (UInt8.ofNat ((b.toNat : Int)).toNat) = bs (acc ++ [b]) := by
   apply ByteArray.ext
   apply Array.ext'
   simp [bs, ByteArray.push]
  rw [List.map_cons, List.foldl_cons, e, qbe r (acc ++ [b])]
  simp
theorem qce {x : Operand} {v : Value} {q : Nat} {l : List UInt8} {g : Grp} {R} {t u e : TypeId} [ht : Und P t (.slice e)] [hu : Und P u .string] [he : Und P e (.int .u8)] (S : St n L w0 F0 K0 F G a w) (ho : o.op = .convert t u x) (hx : ev L x = some v)
  (hown : q0u e 1 v q (l.map fun b => Value.int .u8 b.toNat) g) [hN : Nth G g R] : SV P o a w (.string (bs l)) := by
 unfold SV execOp
 rw [ho]
 have hr : (Conv.bytesToString v).run P w = .ok (.string (bs l)) w := by
  have hl := hown.1
  simp only [List.length_map, Nat.mul_one] at hl
  rcases hown.2 with ⟨rfl, rfl, _⟩ | ⟨b, cap, cur, rfl, rfl, hkc, hcm, hcs, htk⟩
  ·have : l = [] := List.eq_nil_of_length_eq_zero hl
   subst this
   rfl
  ·obtain ⟨G1, G2, e1, hR⟩ := hN.h
   have hhb : w.heap[b]? = some (.cells cur e (0, 0)) := (S.tr.own (b, _) (by rw [e1]; simp [List.flatten_append, qaF])).1
   have hld := run_loadCells_list (P := P) w ⟨b, 0, none⟩ (l.map fun b => Value.int .u8 b.toNat) (fun j u hu => by
    rw [addr_add, Nat.zero_add]
    refine cell_of_heap hhb ?_
    rw [← htk, List.getElem?_take] at hu
    split at hu
    ·simpa using hu
    ·cases hu)
   rw [List.length_map, hl] at hld
   rw [run_bytesToString (P := P) w ⟨b, 0, none⟩ q cap (l.map fun b => (b.toNat : Int)) (by rw [hld]; simp [List.map_map])]
   have := qbe l []
   simp only [bs, qaG] at this
   congr 2
 cases v <;> first | (rcases hown.2 with ⟨h, _⟩ | ⟨_, _, _, h, _⟩ <;> cases h; done) | skip
 all_goals simp [S.fr.eval hx, convert, run_underlying ht.h, run_underlying hu.h, run_underlying he.h, hr]
end
section
variable {P : Program} {n : Sz} {L : List (Nat × Value)} {w0 : World} {F0 : q01} {K0 : List Nat} {F : q01} {G : List Grp} {a : Act} {w : World}
variable {ops : Array Oper} {Q : Exit → Act → World → Prop} {rest : List Oper} {o : Oper}
theorem St.drops (S : St n L w0 F0 K0 F G a w) : St n L w0 F0 K0 F [] a w := ⟨S.fr, S.tr.sub (List.nil_sublist _)⟩
end
section
variable {P : Program} {n : Sz} {L : List (Nat × Value)} {w0 : World} {F0 : q01} {K0 : List Nat} {F : q01} {G : List Grp} {a : Act} {w : World} {o o2 : Oper} {ops : Array Oper} {rest : List Oper} {Q : Exit → Act → World → Prop}
theorem q5b {x y : Operand} {ao : Option Addr} {m c i : Nat} {k : IntKind} {t e : TypeId} {zv : Value} {sz by_ : Nat} [ht : Und P t (.slice e)] [hi : Inf P e zv sz by_] (S : St n L w0 F0 K0 F G a w) (ho : o.op = .slice t x none (some y) none)
  (hx : ev L x = some (.slice ao m c)) (hy : ev L y = some (.int k (Int.ofNat i))) (h1 : i ≤ c) : SV P o a w (.slice ao i c) := by
 have hb : (Instr.sliceBounds true m c none (some (.int k (Int.ofNat i))) none).run P w = .ok (0, i, c) w := by
  simp [Instr.sliceBounds, Instr.sliceBound, asIntOf, h1]
 have ha : ao.map (fun a : Addr => a.add (0 * sz)) = ao := by cases ao <;> simp [Addr.add]
 unfold SV execOp
 rw [ho]
 simp only [Option.map_none, Option.map_some, S.fr.eval hx, S.fr.eval hy]
 simp only [Instr.sliceAt, Instr.slice, Sem.run_bind, run_underlying ht.h, Result.andThen_ok, hb, run_sizeOf hi, ha]
 simp
end
section
variable {P : Program} {ops : Array Oper} {Q : Exit → Act → World → Prop} {Kw : World → Prop}
variable {n : Sz} {L : List (Nat × Value)} {w0 : World} {F0 : q01} {K0 : List Nat} {F : q01} {G : List Grp} {a : Act} {w : World} {T : Act → Prop} {rest : List Oper} {o : Oper} {Kl : List (Nat × Obj)} {pf late brk : List Nat} {r : Od} {live : Bool} {Fk : q01}
theorem q0u.heapCels {e size k : Nat} {v : Value} {xs : List Value} {g : Grp} (h : q0u e size v k xs g) : ∀ F : q01, ∃ ao cap, v = .slice ao k cap ∧ (0 < k → ∃ b off, ao = some ⟨b, off, none⟩ ∧ q2v (F.add g) b off xs) := fun F => by
 rcases h.2 with ⟨rfl, rfl, rfl⟩ | ⟨b, cap, cur, rfl, rfl, h1, h2, h3, h4⟩
 ·exact ⟨none, 0, rfl, fun h => absurd h (Nat.lt_irrefl _)⟩
 ·refine ⟨some ⟨b, 0, none⟩, cap, rfl, fun _ => ⟨b, 0, rfl, fun j u hu => ?_⟩⟩
  refine ⟨cur, e, (0, 0), ?_, ?_⟩
  ·unfold q01.add; simp
  ·rw [← h4] at hu
   have hj : j < k * size := by
    have := (List.getElem?_eq_some_iff.1 hu).1
    rw [qaI] at this; omega
   rw [List.getElem?_take_of_lt hj] at hu
   simpa using hu
theorem q4o {d : Nat} {t e : TypeId} {s x : Operand} {z : Value} {sz by_ : Nat} {v u : Value} {q m : Nat} {cs news : List Value} {g g2 : Grp} {R R2} [ht : Und P t (.slice e)] [hi : Inf P e z sz by_] (S : St n L w0 F0 K0 F G a w)
  (hg : o.guard = none) (hd : o.dst = some d) (hn : Nat.blt d n.sz = true) (ho : o.op = .call { callee := .builtin .append, args := #[s, x], argTypes := #[t, t] }) (hs : ev L s = some v) (hx : ev L x = some u) (hown : q0u e sz v q cs g) (hown2 : q0u e sz u m news g2) [hN2 : qbc G g2 R2] [hN : Nth R2 g R]
  (hz : z.cells.toList.length = sz) (h1 : ∀ u ∈ news, u.oneCell' = true)
  (hlen : (q + m) * by_ ≤ 140737488355328) (h63 : q + m ≤ 9223372036854775807)
  (k : ∀ v' g' a' w', q0u e sz v' (q + m) (cs ++ news) g' → St n ((d, v') :: L) w0 F0 K0 F (R g') a' w' → wpList P ops Q rest a' w') : wpList P ops Q (o :: rest) a w := by
 obtain ⟨G1, G2, e1, e2⟩ := hN2.h
 subst e1; subst e2
 obtain ⟨ao, c, rfl, hpos⟩ := hown2.heapCels F
 refine q1u S.freeze hg hd hn ho hs hx hown hz hown2.1 hpos h1 hlen h63 fun v' g' a' w' ho' S' => k v' g' a' w' ho' (S'.shrink (q2h S) (S.tr.ext))
end
section
variable {P : Program} {n : Sz} {L : List (Nat × Value)} {w0 : World} {F0 : q01} {K0 : List Nat} {F : q01} {G : List Grp} {a : Act} {w : World} {o : Oper}
theorem qwg {x : Operand} {p : Int} {t : TypeId} (S : St n L w0 F0 K0 F G a w) (ho : o.op = .unOp .neg t x) (hx : ev L x = some (.int .i64 p))
  (hb : -9223372036854775807 ≤ p ∧ p ≤ 9223372036854775807) : SV P o a w (.int .i64 (-p)) := by
 unfold SV execOp
 rw [ho]
 have e : IntKind.i64.wrap (0 - p) = -p := by rw [IntWalk.i64_in (0 - p) (by omega), Int.zero_sub]
 simp [S.fr.eval hx, Op.unary, Op.intArith]
 simpa using e
end
section
variable {P : Program} {n : Sz} {L : List (Nat × Value)} {w0 : World} {F0 : q01} {K0 : List Nat} {F : q01} {G : List Grp} {a : Act} {w : World} {Q : Exit → Act → World → Prop}
variable {ops : Array Oper} {rest : List Oper} {o : Oper} {Kl : List (Nat × Obj)} {pf late brk : List Nat} {r : Od} {live : Bool} {Fk : q01} {d : Nat} {v : Value}
theorem wlF {k : Nat} (S : St n L w0 F0 K0 F G a w) (ho : ops[k]? = some o) (h : ∀ w', St n L w' Fk [] Fk [] a w' → SV P o a w' v) (kk : ∀ a', St n ((d, v) :: L) w0 F0 K0 F G a' w → wpM P ops Q (KwF Fk Kl) pf late brk live r a' w)
  (hw : Region.wanted o (yielded ops a.tmps) = true := by first | exact q06 _ rfl | exact q1k S rfl rfl rfl) (hpf : pf.contains k = true := by rfl) (hlt : late.contains k = true := by rfl) (hd : o.dst = some d := by rfl) (hn : Nat.blt d n.sz = true := by rfl) : wpM P ops Q (KwF Fk Kl) pf late brk live (.one k r) a w := qdu S ho hpf hlt hw hd hn h kk
end
