/- Walks. -/
import Derived.Test.YtbhipiepfclneaaGreatDoorQ20
import Derived.Laws.IdiomRangeMap
import Derived.WalkSpells
import Derived.Test.YtbhipiepfclneaaGreatDoorQ16
set_option maxHeartbeats 4000000
namespace Go.Wk
open Go
set_option linter.unusedVariables false
set_option linter.unusedSimpArgs false
set_option linter.unusedSectionVars false
section
variable {α : Type} [DecidableEq α]
def bEnt (enc : α → Value) : List (α × Value) → List Nat → List MapEntry
 | p :: r, n :: ns => { key := enc p.1, val := p.2, born := n } :: bEnt enc r ns
 | _, _ => []
def MpO (enc : α → Value) (es : List (α × Value)) (o : Obj) : Prop := ∃ ns c, ns.length = es.length ∧ ns.Nodup ∧ (∀ n ∈ ns, n < c) ∧ o = .map ⟨bEnt enc es ns⟩ c
theorem MpO.nil (enc : α → Value) : MpO enc [] (mObj enc []) := ⟨[], 0, rfl, List.nodup_nil, (fun n h => by cases h), rfl⟩
def mDel : List (α × Value) → α → List (α × Value)
 | [], _ => []
 | (a, u) :: r, k => if k = a then r else (a, u) :: mDel r k
theorem findNow_b {d : TypeDesc} {enc : α → Value} [hk : KeyK d enc] (k : α) : ∀ (es : List (α × Value)) (ns : List Nat) (i : Nat), ns.length = es.length →
  Instr.findNow d (enc k) (bEnt enc es ns) i = some ((es.findIdx? fun p => decide (k = p.1)).map fun j => (i + j, ((es[j]?).map (·.2)).getD undef))
 | [], _, _, _ => rfl
 | (a, u) :: r, [], _, h => by cases h
 | (a, u) :: r, n :: ns, i, hl => by
  rw [bEnt, Instr.findNow, hk.same]
  by_cases h : k = a
  ·subst h; simp [List.findIdx?_cons]
  ·have := findNow_b (d := d) (enc := enc) k r ns (i + 1) (Nat.succ.inj hl)
   simp only [h, decide_false]
   rw [this]
   simp only [List.findIdx?_cons, h, decide_false, Bool.false_eq_true, if_false, Option.map_map]
   congr 1
   cases hf : List.findIdx? (fun p => decide (k = p.1)) r with
   | none => rfl
   | some j => simp [Nat.add_assoc, Nat.add_comm 1 j]
theorem bEnt_len (enc : α → Value) : ∀ (es : List (α × Value)) (ns : List Nat), ns.length = es.length → (bEnt enc es ns).length = es.length
 | [], _, _ => rfl
 | _ :: _, [], h => by cases h
 | _ :: r, _ :: ns, h => by simp [bEnt, bEnt_len enc r ns (Nat.succ.inj h)]
theorem bEnt_append (enc : α → Value) (k : α) (v : Value) (m : Nat) : ∀ (es : List (α × Value)) (ns : List Nat), ns.length = es.length → bEnt enc (es ++ [(k, v)]) (ns ++ [m]) = bEnt enc es ns ++ [{ key := enc k, val := v, born := m }]
 | [], [], _ => rfl
 | _ :: _, [], h => by cases h
 | _ :: r, _ :: ns, h => by simp [bEnt, bEnt_append enc k v m r ns (Nat.succ.inj h)]
theorem bEnt_modify (enc : α → Value) (k : α) (v : Value) : ∀ (es : List (α × Value)) (ns : List Nat) (j : Nat), ns.length = es.length → (es.findIdx? fun p => decide (k = p.1)) = some j →
  (bEnt enc es ns).modify j (fun e => { e with key := enc k, val := v }) = bEnt enc (mSet es k v) ns ∧ ((bEnt enc es ns)[j]?).map (·.key) = some (enc k) ∧ (mSet es k v).length = es.length
 | [], _, j, _, h => by cases h
 | (a, u) :: r, [], j, hl, h => by cases hl
 | (a, u) :: r, n :: ns, j, hl, h => by
  rw [List.findIdx?_cons] at h
  by_cases hk : k = a
  ·subst hk
   simp at h
   subst h
   simp [bEnt, mSet]
  ·simp only [hk, decide_false, Bool.false_eq_true, if_false] at h
   cases hf : List.findIdx? (fun p => decide (k = p.1)) r with
   | none => rw [hf] at h; cases h
   | some i =>
    rw [hf] at h
    simp at h
    subst h
    obtain ⟨h1, h2, h3⟩ := bEnt_modify enc k v r ns i (Nat.succ.inj hl) hf
    unfold mSet
    rw [if_neg hk]
    simp [bEnt, h1, h2, h3]
theorem bEnt_erase (enc : α → Value) : ∀ (es : List (α × Value)) (ns : List Nat) (j : Nat), (bEnt enc es ns).eraseIdx j = bEnt enc (es.eraseIdx j) (ns.eraseIdx j)
 | [], ns, j => by simp [bEnt]
 | _ :: _, [], j => by
  cases j <;> simp [bEnt]
 | p :: r, n :: ns, 0 => by simp [bEnt]
 | p :: r, n :: ns, j + 1 => by simp [bEnt, bEnt_erase enc r ns j]
theorem mDel_some (k : α) : ∀ (es : List (α × Value)) (j : Nat), (es.findIdx? fun p => decide (k = p.1)) = some j → mDel es k = es.eraseIdx j
 | [], j, h => by cases h
 | (a, u) :: r, j, h => by
  rw [List.findIdx?_cons] at h
  by_cases hk : k = a
  ·subst hk
   simp at h
   subst h
   simp [mDel]
  ·simp only [hk, decide_false, Bool.false_eq_true, if_false] at h
   cases hf : List.findIdx? (fun p => decide (k = p.1)) r with
   | none => rw [hf] at h; cases h
   | some i =>
    rw [hf] at h
    simp at h
    subst h
    rw [mDel, if_neg hk, mDel_some k r i hf, List.eraseIdx_cons_succ]
theorem mDel_none (k : α) : ∀ (es : List (α × Value)), (es.findIdx? fun p => decide (k = p.1)) = none → mDel es k = es
 | [], h => rfl
 | (a, u) :: r, h => by
  rw [List.findIdx?_cons] at h
  by_cases hk : k = a
  ·subst hk; simp at h
  ·simp only [hk, decide_false, Bool.false_eq_true, if_false, Option.map_eq_none_iff] at h
   rw [mDel, if_neg hk, mDel_none k r h]
def lft : List (α × Value) → List Nat → Array Nat → List (α × Value)
 | p :: r, n :: ns, sn => if sn.contains n = true then lft r ns sn else p :: lft r ns sn
 | _, _, _ => []
def ItO (enc : α → Value) (es : List (α × Value)) (b : Nat) (o : Obj) (left : List (α × Value)) (cur : Option (α × Value)) (oi : Obj) : Prop :=
 ∃ ns c sn sc, ns.length = es.length ∧ ns.Nodup ∧ (∀ n ∈ ns, n < c) ∧ o = .map ⟨bEnt enc es ns⟩ c ∧ oi = .mapIter (some b) c sn c ∧ left = lft es ns sn ∧ sc = sn.back? ∧ ∀ p, cur = some p → ∃ n, sc = some n ∧ ({ key := enc p.1, val := p.2, born := n } : MapEntry) ∈ bEnt enc es ns
theorem lft_empty : ∀ (es : List (α × Value)) (ns : List Nat), ns.length = es.length → lft es ns #[] = es
 | [], _, _ => rfl
 | _ :: _, [], h => by cases h
 | p :: r, n :: ns, h => by
  rw [lft, if_neg (by simp), lft_empty r ns (Nat.succ.inj h)]
theorem bEnt_born (enc : α → Value) : ∀ (es : List (α × Value)) (ns : List Nat), ns.length = es.length → (bEnt enc es ns).map (·.born) = ns
 | [], [], _ => rfl
 | _ :: _, [], h => by cases h
 | p :: r, n :: ns, h => by simp [bEnt, bEnt_born enc r ns (Nat.succ.inj h)]
theorem lft_same (m : Nat) (sn : Array Nat) : ∀ (es : List (α × Value)) (ns : List Nat), m ∉ ns → lft es ns (sn.push m) = lft es ns sn
 | [], _, _ => rfl
 | _ :: _, [], h => rfl
 | p :: r, n :: ns, h => by
  simp only [List.mem_cons, not_or] at h
  unfold lft
  rw [lft_same m sn r ns h.2]
  have : (sn.push m).contains n = sn.contains n := by
   rw [Bool.eq_iff_iff, Array.contains_iff_mem, Array.contains_iff_mem, Array.mem_push]
   exact ⟨fun h9 => h9.resolve_right (Ne.symm h.1), .inl⟩
  rw [this]
theorem lft_push (enc : α → Value) (sn : Array Nat) : ∀ (es : List (α × Value)) (ns : List Nat) (e : MapEntry), ns.length = es.length → ns.Nodup → e ∈ bEnt enc es ns → sn.contains e.born = false →
  ∃ p l1 l2, e = { key := enc p.1, val := p.2, born := e.born } ∧ lft es ns sn = l1 ++ p :: l2 ∧ lft es ns (sn.push e.born) = l1 ++ l2
 | [], _, e, _, _, he, _ => by cases he
 | _ :: _, [], e, h, _, _, _ => by cases h
 | p :: r, n :: ns, e, hl, hn, he, hs => by
  obtain ⟨h1, h2⟩ := List.nodup_cons.1 hn
  unfold lft
  rcases List.mem_cons.1 he with rfl | he
  ·refine ⟨p, [], lft r ns sn, rfl, ?_, ?_⟩
   ·rw [if_neg (by rw [show sn.contains n = false from hs]; simp)]; rfl
   ·rw [if_pos (by simp [Array.contains_iff_mem])]
    exact lft_same n sn r ns h1
  ·obtain ⟨q, l1, l2, h3, h4, h5⟩ := lft_push enc sn r ns e (Nat.succ.inj hl) h2 he hs
   have hb : e.born ∈ ns := by rw [← bEnt_born enc r ns (Nat.succ.inj hl)]; exact List.mem_map.2 ⟨e, he, rfl⟩
   have hne : n ≠ e.born := fun h => h1 (h ▸ hb)
   have : (sn.push e.born).contains n = sn.contains n := by
    rw [Bool.eq_iff_iff, Array.contains_iff_mem, Array.contains_iff_mem, Array.mem_push]
    exact ⟨fun h9 => h9.resolve_right hne, .inl⟩
   rw [this]
   by_cases hc : sn.contains n = true
   ·rw [if_pos hc, if_pos hc]; exact ⟨q, l1, l2, h3, h4, h5⟩
   ·rw [if_neg hc, if_neg hc]; exact ⟨q, p :: l1, l2, h3, by rw [h4]; rfl, by rw [h5]; rfl⟩
theorem lft_nil (enc : α → Value) (sn : Array Nat) : ∀ (es : List (α × Value)) (ns : List Nat), ns.length = es.length → (∀ e ∈ bEnt enc es ns, sn.contains e.born = true) → lft es ns sn = []
 | [], _, _, _ => rfl
 | _ :: _, [], h, _ => by cases h
 | p :: r, n :: ns, h, ha => by
  unfold lft
  rw [if_pos (ha _ (List.mem_cons_self ..)), lft_nil enc sn r ns (Nat.succ.inj h) fun e he => ha e (List.mem_cons_of_mem _ he)]
end
section
variable {P : Program} {α : Type} [DecidableEq α]
theorem run_findB {d : TypeDesc} {enc : α → Value} [hk : KeyK d enc] {kt : TypeId} (h : P.underlying kt = some d) (w : World) (es : List (α × Value)) (ns : List Nat) (hl : ns.length = es.length) (k : α) :
  (Instr.findKey kt (enc k) (bEnt enc es ns)).run P w = .ok ((es.findIdx? fun p => decide (k = p.1)).map fun j => (j, ((es[j]?).map (·.2)).getD undef)) w := by
 unfold Instr.findKey
 simp only [Sem.run_bind, run_underlying h, Result.andThen_ok, findNow_b (d := d) k es ns 0 hl, Nat.zero_add]
 rfl
theorem run_lookupP {d : TypeDesc} {enc : α → Value} [hk : KeyK d enc] {t kt e : TypeId} {z : Value} {sz by_ : Nat} {b : Nat} (ht : Und P t (.map kt e)) (hd : P.underlying kt = some d) (hi : Inf P e z sz by_) {w : World} {es : List (α × Value)} {ob : Obj} (hb : w.heap[b]? = some ob) (hm : MpO enc es ob) (k : α) (ok : Bool) :
  (Instr.lookup t (.map (some b)) (enc k) ok).run P w = .ok (if ok then .tuple #[(mGet es k).getD z, .bool (mGet es k).isSome] else (mGet es k).getD z) w := by
 obtain ⟨ns, c, hl, hn, hc, rfl⟩ := hm
 unfold Instr.lookup
 have hg := run_getMap (P := P) hb
 have hc := hk.chk P w kt (bEnt enc es ns).toArray.isEmpty k hd
 simp only [Sem.run_bind, run_underlying ht.h, Result.andThen_ok, hg, Sem.run_pure, hc, run_findB (d := d) hd w es ns hl k]
 rw [mGet_idx]
 cases hf : List.findIdx? (fun p => decide (k = p.1)) es with
 | none => simp [run_zero hi]
 | some j =>
  have hj : j < es.length := (List.findIdx?_eq_some_iff_findIdx_eq.1 hf).1
  simp [List.getElem?_eq_getElem hj]
theorem run_lookupNil {d : TypeDesc} {enc : α → Value} [hk : KeyK d enc] {t kt e : TypeId} {z : Value} {sz by_ : Nat} (ht : Und P t (.map kt e)) (hd : P.underlying kt = some d) (hi : Inf P e z sz by_) {w : World} (k : α) (ok : Bool) :
  (Instr.lookup t (.map none) (enc k) ok).run P w = .ok (if ok then .tuple #[z, .bool false] else z) w := by
 unfold Instr.lookup
 have hc := hk.chk P w kt (#[] : Array MapEntry).isEmpty k hd
 have hf : (Instr.findKey kt (enc k) (#[] : Array MapEntry).toList).run P w = .ok none w := by
  unfold Instr.findKey
  simp only [Sem.run_bind, run_underlying hd, Result.andThen_ok]
  rfl
 simp only [Sem.run_bind, run_underlying ht.h, Result.andThen_ok, Sem.run_pure, hc, hf]
 simp [run_zero hi]
theorem run_setP {d : TypeDesc} {enc : α → Value} [hk : KeyK d enc] {t kt e : TypeId} {b : Nat} (ht : Und P t (.map kt e)) (hd : P.underlying kt = some d) {w : World} {es : List (α × Value)} {ob : Obj} (hb : w.heap[b]? = some ob) (hm : MpO enc es ob) (k : α) (v : Value) :
  ∃ o', MpO enc (mSet es k v) o' ∧ (Instr.mapUpdate t (.map (some b)) (enc k) v).run P w = .ok () (w.putObj b o') := by
 obtain ⟨ns, c, hl, hn, hc, rfl⟩ := hm
 unfold Instr.mapUpdate
 have hg := run_getMap (P := P) hb
 have hck := hk.chk P w kt false k hd
 simp only [Sem.run_bind, run_underlying ht.h, Result.andThen_ok, hg, Sem.run_pure, hck, run_findB (d := d) hd w es ns hl k]
 cases hf : List.findIdx? (fun p => decide (k = p.1)) es with
 | none =>
  have hno : mGet es k = none := by rw [mGet_idx, hf]; rfl
  refine ⟨.map ⟨bEnt enc (es ++ [(k, v)]) (ns ++ [c])⟩ (c + 1), ⟨ns ++ [c], c + 1, by rw [mSet_new hno]; simp [hl], ?_, fun n h => ?_, by rw [mSet_new hno]⟩, ?_⟩
  ·rw [List.nodup_append]
   exact ⟨hn, by simp, fun a ha b hb => by rw [List.mem_singleton] at hb; subst hb; have := hc a ha; omega⟩
  ·rw [List.mem_append, List.mem_singleton] at h
   rcases h with h | h
   ·have := hc n h; omega
   ·omega
  ·simp only [Option.map_none, bEnt_append enc k v c es ns hl]
   simp [setObj, Sem.run, hb, World.putObj, Array.set!]
 | some j =>
  obtain ⟨h1, h2, h3⟩ := bEnt_modify enc k v es ns j hl hf
  refine ⟨.map ⟨bEnt enc (mSet es k v) ns⟩ c, ⟨ns, c, by rw [h3, hl], hn, hc, rfl⟩, ?_⟩
  simp only [Option.map_some, Sem.run_bind, List.getElem?_toArray, h2, Option.getD_some]
  unfold Instr.keyThatStays
  rw [if_pos (hk.bits k)]
  simp only [Sem.run_pure, Result.andThen_ok, List.modify_toArray, h1, h3]
  simp [setObj, Sem.run, hb, World.putObj, Array.set!]
theorem run_delP {d : TypeDesc} {enc : α → Value} [hk : KeyK d enc] {t kt e ty : TypeId} {ts : Array TypeId} {b : Nat} (ht : Und P t (.map kt e)) (hts : ts[0]? = some t) (hd : P.underlying kt = some d) {w : World} {es : List (α × Value)} {ob : Obj} (hb : w.heap[b]? = some ob) (hm : MpO enc es ob) (k : α) :
  ∃ o', MpO enc (mDel es k) o' ∧ (Builtin.delete_ ts ty #[.map (some b), enc k]).run P w = .ok (.tuple #[]) (w.putObj b o') := by
 obtain ⟨ns, c, hl, hn, hc, rfl⟩ := hm
 unfold Builtin.delete_
 have hg := run_getMap (P := P) hb
 have hck := hk.chk P w kt (bEnt enc es ns).toArray.isEmpty k hd
 simp only [hts, List.getElem?_toArray, List.getElem?_cons_zero, List.getElem?_cons_succ, Sem.run_bind, run_underlying ht.h, Result.andThen_ok, hg, Sem.run_pure, hck, run_findB (d := d) hd w es ns hl k]
 cases hf : List.findIdx? (fun p => decide (k = p.1)) es with
 | none =>
  refine ⟨.map ⟨bEnt enc es ns⟩ c, ⟨ns, c, by rw [mDel_none k es hf]; exact hl, hn, hc, by rw [mDel_none k es hf]⟩, ?_⟩
  simp [setObj, Sem.run, hb, World.putObj, Array.set!]
 | some j =>
  refine ⟨.map ⟨bEnt enc (es.eraseIdx j) (ns.eraseIdx j)⟩ c, ⟨ns.eraseIdx j, c, by rw [mDel_some k es j hf]; simp [List.length_eraseIdx, hl], hn.sublist (List.eraseIdx_sublist ..), fun n h => hc n (List.mem_of_mem_eraseIdx h), by rw [mDel_some k es j hf]⟩, ?_⟩
  have hj : j < (bEnt enc es ns).length := by
   rw [bEnt_len enc es ns hl]
   exact (List.findIdx?_eq_some_iff_findIdx_eq.1 hf).1
  simp [setObj, Sem.run, hb, World.putObj, Array.set!, ← bEnt_erase, Array.eraseIdxIfInBounds, hj]
theorem run_nextM {enc : α → Value} {w : World} {bi b : Nat} {es : List (α × Value)} {o oi : Obj} {left : List (α × Value)} {cur : Option (α × Value)} (hi : w.heap[bi]? = some oi) (hb : w.heap[b]? = some o) (h : ItO enc es b o left cur oi) (ty : TypeId) :
  (left = [] ∧ (Instr.next (.pointer (some ⟨bi, 0, none⟩)) false ty).run P w = .ok (.tuple #[.bool false]) w) ∨
  ∃ p l1 l2 oi' w1, left = l1 ++ p :: l2 ∧ ItO enc es b o (l1 ++ l2) (some p) oi' ∧ (w1 = w ∨ w1 = w.drew) ∧ (Instr.next (.pointer (some ⟨bi, 0, none⟩)) false ty).run P w = .ok (.tuple #[.bool true, enc p.1, p.2]) (w1.putObj bi oi') := by
 obtain ⟨ns, c, sn, sc, hl, hn, hc, rfl, rfl, rfl, rfl, -⟩ := h
 have hold : ∀ x ∈ (⟨bEnt enc es ns⟩ : Array MapEntry).toList, x.born < c := fun x hx => hc _ (by rw [← bEnt_born enc es ns hl]; exact List.mem_map.2 ⟨x, hx, rfl⟩)
 simp only [Instr.next, getObj, Sem.run_bind, Sem.run, hi, hb, Result.andThen, next_test_false sn _ c c hold (Nat.le_refl _), Bool.false_eq_true, if_false]
 have hlm : ∀ x, x ∈ (Array.filter (fun e => !sn.contains e.born) (⟨bEnt enc es ns⟩ : Array MapEntry)).toList ↔ x ∈ bEnt enc es ns ∧ sn.contains x.born = false := fun x => by simp
 have hmem : ∀ x ∈ (Array.filter (fun e => !sn.contains e.born) (⟨bEnt enc es ns⟩ : Array MapEntry)).toList, x.born < c := fun x hx => hold x ((hlm x).1 hx).1
 generalize Array.filter (fun e => !sn.contains e.born) (⟨bEnt enc es ns⟩ : Array MapEntry) = M at hmem hlm ⊢
 have e1 : M.filter (fun x => decide (x.born < c)) = M := Array.filter_eq_self.2 (fun x hx => by simpa using hmem x (by simpa using hx))
 have e2 : M.filter (fun x => decide (x.born ≥ c)) = #[] := by
  rw [Array.filter_eq_empty_iff]
  intro x hx
  have := hmem x (by simpa using hx)
  simp
  omega
 simp only [e1, e2, Array.append_empty]
 by_cases h0 : M.size = 0
 ·left
  have hM : M = #[] := Array.eq_empty_of_size_eq_zero h0
  subst hM
  refine ⟨lft_nil enc sn es ns hl fun e he => ?_, ?_⟩
  ·cases hx : sn.contains e.born with
   | true => rfl
   | false => have := (hlm e).2 ⟨he, hx⟩; cases this
  ·simp [choose, Sem.run, Question.forced]
 ·right
  have hne : M.isEmpty = false := by simp [Array.isEmpty, h0]
  simp only [hne, Bool.false_eq_true, if_false, Array.empty_append, Array.size_map]
  have hch : ∃ (j : Nat) (w1 : World), j < M.size ∧ (w1 = w ∨ w1 = w.drew) ∧ (choose (Question.mapNext M.size)).run P w = .ok j w1 := by
   by_cases hf : M.size ≤ 1
   ·exact ⟨0, w, by omega, .inl rfl, by simp [choose, Sem.run, Question.forced, hf]⟩
   ·exact ⟨_, w.drew, Nat.mod_lt _ (by omega), .inr rfl, by
     simp only [choose, Sem.run, Question.forced, decide_eq_true_eq, hf, if_false, Question.cut]
     rfl⟩
  obtain ⟨j, w1, hj, hal, hrun⟩ := hch
  have hmj : M[j] ∈ M.toList := by simp
  obtain ⟨p, l1, l2, h1, h2, h3⟩ := lft_push enc sn es ns M[j] hl hn ((hlm _).1 hmj).1 ((hlm _).1 hmj).2
  have hi1 : w1.heap[bi]? = some (.mapIter (some b) c sn c) := by rcases hal with rfl | rfl <;> exact hi
  have hk : M[j].key = enc p.1 ∧ M[j].val = p.2 := by rw [h1]; exact ⟨rfl, rfl⟩
  refine ⟨p, l1, l2, .mapIter (some b) c (sn.push M[j].born) c, w1, h2, ⟨ns, c, sn.push M[j].born, _, hl, hn, hc, rfl, rfl, h3.symm, rfl, fun q hq => ⟨M[j].born, by simp, ?_⟩⟩, hal, ?_⟩
  ·cases hq; rw [← h1]; exact ((hlm _).1 hmj).1
  ·simp only [hrun, Array.getElem?_map, Array.getElem?_eq_getElem hj, Option.map_some, Sem.run_bind, Result.andThen, hk.1, hk.2]
   simp [setObj, Sem.run, hi1, World.putObj, Array.set!]
theorem run_entryM {enc : α → Value} {w : World} {bi b : Nat} {es : List (α × Value)} {o oi : Obj} {left : List (α × Value)} {p : α × Value} (hi : w.heap[bi]? = some oi) (hb : w.heap[b]? = some o) (h : ItO enc es b o left (some p) oi) :
  (Instr.entry (.pointer (some ⟨bi, 0, none⟩))).run P w = .ok (.tuple #[enc p.1, p.2]) w := by
 obtain ⟨ns, c, sn, sc, hl, hn, hc, rfl, rfl, rfl, rfl, hcur⟩ := h
 obtain ⟨n, h1, h2⟩ := hcur p rfl
 have hf : (⟨bEnt enc es ns⟩ : Array MapEntry).find? (·.born == n) = some { key := enc p.1, val := p.2, born := n } := by
  rw [← Array.find?_toList]
  exact find_born { key := enc p.1, val := p.2, born := n } _ (by rw [bEnt_born enc es ns hl]; exact hn) h2
 simp only [Instr.entry, getObj, Sem.run_bind, Sem.run, hi, hb, Result.andThen, h1, bne_self_eq_false, Bool.false_eq_true, if_false, hf]
 rfl
end
section
variable {P : Program} {α : Type} [DecidableEq α] {n : Sz} {L : List (Nat × Value)} {w0 : World} {F0 : Heap} {K0 : List Nat} {F : Heap} {G : List Grp} {a : Act} {w : World} {ops : Array Oper} {Q : Exit → Act → World → Prop} {rest : List Oper} {o : Oper}
theorem sv_lookP {d : TypeDesc} {enc : α → Value} [hk : KeyK d enc] {x y : Operand} {t kt e : TypeId} {z : Value} {sz by_ : Nat} {b : Nat} {es : List (α × Value)} {ob : Obj} {R} {k : α} {ok : Bool} [ht : Und P t (.map kt e)] [hd : Und P kt d] [hi : Inf P e z sz by_] [hh : Has G b ob R]
  (S : St n L w0 F0 K0 F G a w) (ho : o.op = .lookup t x y ok) (hx : ev L x = some (.map (some b))) (hy : ev L y = some (enc k)) (hm : MpO enc es ob) : SV P o a w (if ok then .tuple #[(mGet es k).getD z, .bool (mGet es k).isSome] else (mGet es k).getD z) := by
 unfold SV execOp
 rw [ho]
 simp [S.fr.eval hx, S.fr.eval hy, run_lookupP (d := d) ht hd.h hi (S.has hh) hm k ok]
theorem sv_lookNil {d : TypeDesc} {enc : α → Value} [hk : KeyK d enc] {x y : Operand} {t kt e : TypeId} {z : Value} {sz by_ : Nat} {k : α} {ok : Bool} [ht : Und P t (.map kt e)] [hd : Und P kt d] [hi : Inf P e z sz by_]
  (S : St n L w0 F0 K0 F G a w) (ho : o.op = .lookup t x y ok) (hx : ev L x = some (.map none)) (hy : ev L y = some (enc k)) : SV P o a w (if ok then .tuple #[z, .bool false] else z) := by
 unfold SV execOp
 rw [ho]
 simp [S.fr.eval hx, S.fr.eval hy, run_lookupNil (d := d) ht hd.h hi k ok]
theorem sv_lenMap {enc : α → Value} {x : Operand} {t kt e : TypeId} {ts : Array TypeId} {b : Nat} {es : List (α × Value)} {ob : Obj} {R} [ht : Und P t (.map kt e)] [hh : Has G b ob R]
  (S : St n L w0 F0 K0 F G a w) (ho : o.op = .call { callee := .builtin .len, args := #[x], argTypes := ts }) (hts : ts.toList[0]? = some t) (hx : ev L x = some (.map (some b))) (hm : MpO enc es ob) : SV P o a w (.int .i64 es.length) := by
 obtain ⟨ns, c, hl, hn, hc, rfl⟩ := hm
 have hg := run_getMap (P := P) (S.has hh)
 have hsz := bEnt_len enc es ns hl
 rw [Array.getElem?_toList] at hts
 unfold SV execOp
 rw [ho]
 simp [resolve, invoke, builtin, S.fr.eval hx, Builtin.len_, hts, run_underlying ht.h, hg, hsz, goInt]
theorem wpl_setP {d : TypeDesc} {enc : α → Value} [hk : KeyK d enc] {t kt e : TypeId} {x y z : Operand} {b : Nat} {es : List (α × Value)} {ob : Obj} {R} {k : α} {v : Value} [ht : Und P t (.map kt e)] [hd : Und P kt d] [hh : Has G b ob R]
  (S : St n L w0 F0 K0 F G a w) (hg : o.guard = none) (ho : o.op = .mapUpdate t x y z) (hdst : o.dst = none) (hx : ev L x = some (.map (some b))) (hy : ev L y = some (enc k)) (hz : ev L z = some v) (hm : MpO enc es ob)
  (kk : ∀ o' w', MpO enc (mSet es k v) o' → St n L w0 F0 K0 F (R [(b, o')]) a w' → wpList P ops Q rest a w') : wpList P ops Q (o :: rest) a w := by
 refine wpList_plain hg fun K hK => ?_
 have hb := S.has hh
 obtain ⟨o', h1, hr⟩ := run_setP (P := P) (d := d) ht hd.h hb hm k v
 unfold Oper.wp execOp
 rw [ho]
 simp [S.fr.eval hx, S.fr.eval hy, S.fr.eval hz, hr, Oper.upon_skip, hdst, Act.put]
 exact hK _ _ (kk _ _ h1 (S.write hh rfl rfl rfl (by simp) (World.putObj_heap_same (heap_lt hb)) fun j hj => World.putObj_heap_other hj))
theorem wpl_delP {d : TypeDesc} {enc : α → Value} [hk : KeyK d enc] {t kt e : TypeId} {x y : Operand} {ts : Array TypeId} {b : Nat} {es : List (α × Value)} {ob : Obj} {R} {k : α} [ht : Und P t (.map kt e)] [hd : Und P kt d] [hh : Has G b ob R]
  (S : St n L w0 F0 K0 F G a w) (hg : o.guard = none) (hdst : o.dst = none) (ho : o.op = .call { callee := .builtin .delete, args := #[x, y], argTypes := ts }) (hts : ts.toList[0]? = some t) (hx : ev L x = some (.map (some b))) (hy : ev L y = some (enc k)) (hm : MpO enc es ob)
  (kk : ∀ o' w', MpO enc (mDel es k) o' → St n L w0 F0 K0 F (R [(b, o')]) a w' → wpList P ops Q rest a w') : wpList P ops Q (o :: rest) a w := by
 refine wpList_plain hg fun K hK => ?_
 have hb := S.has hh
 rw [Array.getElem?_toList] at hts
 obtain ⟨o', h1, hr⟩ := run_delP (P := P) (d := d) (ty := o.type) ht hts hd.h hb hm k
 unfold Oper.wp execOp
 rw [ho]
 simp [resolve, invoke, builtin, S.fr.eval hx, S.fr.eval hy, hr, Oper.upon_value, hdst, Act.put]
 have S2 := S.write hh (w' := w.putObj b o') rfl rfl rfl (by simp) (World.putObj_heap_same (heap_lt hb)) fun j hj => World.putObj_heap_other hj
 exact hK _ _ (kk _ _ h1 S2)
theorem wpl_rangeM {d : Nat} {enc : α → Value} {t kt e : TypeId} {x : Operand} {b : Nat} {es : List (α × Value)} {ob : Obj} [ht : Und P t (.map kt e)]
  (S : St n L w0 F0 K0 F G a w) (hg : o.guard = none) (hd : o.dst = some d) (hn : Nat.blt d n.sz = true) (ho : o.op = .range t x) (hx : ev L x = some (.map (some b))) (hb : w.heap[b]? = some ob) (hm : MpO enc es ob)
  (kk : ∀ bi oi a' w', ItO enc es b ob es Option.none oi → St n ((d, .pointer (some ⟨bi, 0, Option.none⟩)) :: L) w0 F0 K0 F ([(bi, oi)] :: G) a' w' → wpList P ops Q rest a' w') : wpList P ops Q (o :: rest) a w := by
 refine wpList_plain hg fun K hK => ?_
 obtain ⟨ns, c, hl, hnn, hc, rfl⟩ := hm
 have hr := run_range_map (P := P) w t kt e b ⟨bEnt enc es ns⟩ c ht.h hb
 unfold Oper.wp execOp
 rw [ho]
 simp only [Sem.run_bind, S.fr.eval hx, hr, Result.andThen_ok, Sem.run_pure, Oper.upon_value, hd]
 exact hK _ _ (kk w.heap.size _ _ _ ⟨ns, c, #[], _, hl, hnn, hc, rfl, rfl, (lft_empty es ns hl).symm, rfl, fun p hp => by cases hp⟩ (S.alloc _ hn _))
theorem wpl_rangeNil {d : Nat} {t kt e : TypeId} {x : Operand} [ht : Und P t (.map kt e)]
  (S : St n L w0 F0 K0 F G a w) (hg : o.guard = none) (hd : o.dst = some d) (hn : Nat.blt d n.sz = true) (ho : o.op = .range t x) (hx : ev L x = some (.map Option.none))
  (kk : ∀ bi a' w', St n ((d, .pointer (some ⟨bi, 0, Option.none⟩)) :: L) w0 F0 K0 F ([(bi, .mapIter Option.none 0 #[] 0)] :: G) a' w' → wpList P ops Q rest a' w') : wpList P ops Q (o :: rest) a w := by
 refine wpList_plain hg fun K hK => ?_
 have hr := run_range_nilMap (P := P) w t kt e ht.h
 unfold Oper.wp execOp
 rw [ho]
 simp only [Sem.run_bind, S.fr.eval hx, hr, Result.andThen_ok, Sem.run_pure, Oper.upon_value, hd]
 exact hK _ _ (kk w.heap.size _ _ (S.alloc _ hn _))
theorem St.drewS (S : St n L w0 F0 K0 F G a w) : St n L w0 F0 K0 F G a w.drew := ⟨S.fr, S.tr.drew⟩
theorem wpl_nextM {d : Nat} {enc : α → Value} {x : Operand} {b bi : Nat} {es : List (α × Value)} {ob oi : Obj} {left : List (α × Value)} {cur : Option (α × Value)} {R} [hh : Has G bi oi R]
  (S : St n L w0 F0 K0 F G a w) (hg : o.guard = none) (hd : o.dst = some d) (hn : Nat.blt d n.sz = true) (ho : o.op = .next x false) (hx : ev L x = some (.pointer (some ⟨bi, 0, Option.none⟩))) (hb : w.heap[b]? = some ob) (hi : ItO enc es b ob left cur oi)
  (k0 : left = [] → ∀ a', St n ((d, .tuple ⟨[.bool false]⟩) :: L) w0 F0 K0 F G a' w → wpList P ops Q rest a' w)
  (k1 : ∀ p l1 l2 oi' a' w', left = l1 ++ p :: l2 → ItO enc es b ob (l1 ++ l2) (some p) oi' → St n ((d, .tuple ⟨[.bool true, enc p.1, p.2]⟩) :: L) w0 F0 K0 F (R [(bi, oi')]) a' w' → wpList P ops Q rest a' w') : wpList P ops Q (o :: rest) a w := by
 refine wpList_plain hg fun K hK => ?_
 have hbi := S.has hh
 unfold Oper.wp execOp
 rw [ho]
 rcases run_nextM (P := P) hbi hb hi o.type with ⟨h0, hr⟩ | ⟨p, l1, l2, oi', w1, h1, h2, h3, hr⟩
 ·simp [S.fr.eval hx, hr, Oper.upon_value, hd]
  exact hK _ _ (k0 h0 _ (S.put hn _))
 ·simp [S.fr.eval hx, hr, Oper.upon_value, hd]
  have S1 : St n L w0 F0 K0 F G a w1 := by rcases h3 with rfl | rfl; exact S; exact S.drewS
  have hb1 := S1.has hh
  have S2 := S1.write hh (w' := w1.putObj bi oi') rfl rfl rfl (by simp) (World.putObj_heap_same (heap_lt hb1)) fun j hj => World.putObj_heap_other hj
  exact hK _ _ (k1 p l1 l2 oi' _ _ h1 h2 (S2.put hn _))
theorem wpl_nextNil {d : Nat} {x : Operand} {bi : Nat} {R} [hh : Has G bi (.mapIter Option.none 0 #[] 0) R]
  (S : St n L w0 F0 K0 F G a w) (hg : o.guard = none) (hd : o.dst = some d) (hn : Nat.blt d n.sz = true) (ho : o.op = .next x false) (hx : ev L x = some (.pointer (some ⟨bi, 0, Option.none⟩)))
  (k0 : ∀ a', St n ((d, .tuple ⟨[.bool false]⟩) :: L) w0 F0 K0 F G a' w → wpList P ops Q rest a' w) : wpList P ops Q (o :: rest) a w := by
 refine wpList_plain hg fun K hK => ?_
 have hbi := S.has hh
 have hr : (Instr.next (.pointer (some ⟨bi, 0, Option.none⟩)) false o.type).run P w = .ok (.tuple #[.bool false]) w := by
  simp only [Instr.next, getObj, Sem.run_bind, Sem.run, hbi, Result.andThen]
  rfl
 unfold Oper.wp execOp
 rw [ho]
 simp [S.fr.eval hx, hr, Oper.upon_value, hd]
 exact hK _ _ (k0 _ (S.put hn _))
theorem sv_entryM {enc : α → Value} {x : Operand} {b bi : Nat} {es : List (α × Value)} {ob oi : Obj} {left : List (α × Value)} {p : α × Value} {R} [hh : Has G bi oi R]
  (S : St n L w0 F0 K0 F G a w) (ho : o.op = .entry x) (hx : ev L x = some (.pointer (some ⟨bi, 0, Option.none⟩))) (hb : w.heap[b]? = some ob) (hi : ItO enc es b ob left (some p) oi) : SV P o a w (.tuple ⟨[enc p.1, p.2]⟩) := by
 unfold SV execOp
 rw [ho]
 simp [S.fr.eval hx, run_entryM (P := P) (S.has hh) hb hi]
def NxO (enc : α → Value) (es : List (α × Value)) (b : Nat) (ob : Obj) (left : List (α × Value)) (x : Option (α × Value)) (oi' : Obj) : Prop :=
 (x = Option.none ∧ left = []) ∨ ∃ p l1 l2, x = some p ∧ left = l1 ++ p :: l2 ∧ ItO enc es b ob (l1 ++ l2) (some p) oi'
def nxR (enc : α → Value) : Option (α × Value) → List Value
 | Option.none => []
 | some p => [enc p.1, p.2]
theorem has_same {G : List Grp} {b : Nat} {o : Obj} {R : Grp → List Grp} [h : Has G b o R] : R [(b, o)] = G := by
 obtain ⟨G1, G2, e, hR⟩ := h.h
 rw [hR, e]
theorem wpl_next {d : Nat} {enc : α → Value} {x : Operand} {b bi : Nat} {es : List (α × Value)} {ob oi : Obj} {left : List (α × Value)} {cur : Option (α × Value)} {R} [hh : Has G bi oi R]
  (S : St n L w0 F0 K0 F G a w) (hg : o.guard = none) (hd : o.dst = some d) (hn : Nat.blt d n.sz = true) (ho : o.op = .next x false) (hx : ev L x = some (.pointer (some ⟨bi, 0, Option.none⟩))) (hb : w.heap[b]? = some ob) (hi : ItO enc es b ob left cur oi)
  (k : ∀ (y : Option (α × Value)) oi' a' w', NxO enc es b ob left y oi' → St n ((d, .tuple ⟨.bool y.isSome :: nxR enc y⟩) :: L) w0 F0 K0 F (R [(bi, oi')]) a' w' → wpList P ops Q rest a' w') : wpList P ops Q (o :: rest) a w :=
 wpl_nextM S hg hd hn ho hx hb hi (fun h a' S' => k Option.none oi a' w (.inl ⟨rfl, h⟩) (by rw [has_same (h := hh)]; exact S')) fun p l1 l2 oi' a' w' h1 h2 S' => k (some p) oi' a' w' (.inr ⟨p, l1, l2, rfl, h1, h2⟩) S'
theorem sv_eqMapNil {x y : Operand} {r : Option Nat} {t yt kt e : TypeId} [ht : Und P t (.map kt e)] (S : St n L w0 F0 K0 F G a w) (ho : o.op = .binOp .eql t x y yt) (hx : ev L x = some (.map r)) (hy : ev L y = some (.map Option.none)) : SV P o a w (.bool r.isNone) := by
 unfold SV execOp
 rw [ho]
 have h1 : (eqGuard .eql t x y (.map r) (.map Option.none)).run P w = .ok () w := rfl
 simp [S.fr.eval hx, S.fr.eval hy, h1, run_eql_map_nil w t kt e r ht.h]
def isFn : Value → Bool
 | .func _ _ _ => true
 | .nilFunc => true
 | _ => false
def isNilF : Value → Bool
 | .nilFunc => true
 | _ => false
theorem run_equalIn_func_nil (w : World) (n : Nat) (t : TypeId) {zs ys : Array TypeId} {c : Bool} {v : Value} (h : P.underlying t = some (.func zs ys c)) (hv : isFn v = true) : (Op.equalIn (n + 1) t v .nilFunc).run P w = .ok (isNilF v) w := by
 cases v <;> simp only [isFn] at hv <;> first | (cases hv; done) | (unfold Op.equalIn; simp [run_underlying h, isNilF])
theorem run_eql_func_nil (w : World) (t : TypeId) {zs ys : Array TypeId} {c : Bool} {v : Value} (h : P.underlying t = some (.func zs ys c)) (hv : isFn v = true) : (binOp .eql t v .nilFunc).run P w = .ok (.bool (isNilF v)) w := by
 simp only [binOp]
 simp [Op.equal, Op.maxDepth, run_equalIn_func_nil w 9999 t h hv]
theorem sv_eqFnNil {x y : Operand} {v : Value} {t yt : TypeId} {zs ys : Array TypeId} {c : Bool} [ht : Und P t (.func zs ys c)] (S : St n L w0 F0 K0 F G a w) (ho : o.op = .binOp .eql t x y yt) (hx : ev L x = some v) (hy : ev L y = some .nilFunc) (hv : isFn v = true) : SV P o a w (.bool (isNilF v)) := by
 unfold SV execOp
 rw [ho]
 have h1 : (eqGuard .eql t x y v .nilFunc).run P w = .ok () w := by cases v <;> first | rfl | (cases hv; done)
 simp [S.fr.eval hx, S.fr.eval hy, h1, run_eql_func_nil w t ht.h hv]
end
end Go.Wk
namespace Go.Proofs.YtbhipiepfclneaaGreatDoor
open Go Go.Wk Go.Un Go.De Go.Num
set_option linter.unusedSimpArgs false
set_option linter.unusedVariables false
attribute [local irreducible] Go.wpList Go.Code.wp Go.wpStill Go.Wk.wpPre Go.bodyPost Go.Calls Go.Wk.Ct Go.Wk.OwnS Go.Wk.wpG Go.Wk.wpM
def maxF (cmp : Vv → Vv → Int) : Vv → List Vv → Vv
 | m, [] => m
 | m, x :: r => maxF cmp (if 0 < cmp x m then x else m) r
theorem maxF_drop {cmp : Vv → Vv → Int} {m x : Vv} {l : List Vv} {k : Nat} (h : l[k]? = some x) : maxF cmp m (l.drop k) = maxF cmp (if 0 < cmp x m then x else m) (l.drop (k + 1)) := by
 obtain ⟨h1, rfl⟩ := List.getElem?_eq_some_iff.1 h
 rw [List.drop_eq_getElem_cons h1, maxF]
abbrev vcs (x : Vv) (a : Option Addr) (c : Nat) : List Value := [.int .u8 (x.1.k : Int), .int .i64 x.1.n, .string (bs x.1.s), .slice a x.2.len c]
theorem ror_cs {F : Heap} {x : Vv} {cs : List Value} (h : RoR 4 VhR F x cs) : ∃ a c, cs = vcs x a c := by
 obtain ⟨_, _, rfl, -, ⟨rfl, -⟩, ⟨a, c, rfl, -⟩⟩ := h
 exact ⟨a, c, rfl⟩
theorem zzGb0 {p : Prop} (h : p := by (first | (refine ⟨l.length - (k + 1), by omega, k + 1, y, _, _, rfl, by omega, by omega, by rw [← hmx, maxF_drop hy, if_pos (by assumption)], hRy, ?_⟩; refine S.keep ?_; exact zk) | (refine ⟨l.length - (k + 1), by omega, k + 1, x, _, _, rfl, by omega, by omega, by rw [← hmx, maxF_drop hy, if_neg (by assumption)], hR, ?_⟩; refine S.keep ?_; exact zk))) : p := h
theorem maxCt (F : Heap) (v : Value) (l : List Vv) (h : LiM F 4 (RoR 4 VhR) v l) (x0 : Vv) (h0 : l[0]? = some x0) (fid : FuncId) (fi ca : List Value) [hfn : HasFn Tryz.prog fid] (cmp : Vv → Vv → Int)
  (hcl : ∀ x y cs cs', RoR 4 VhR F x cs → RoR 4 VhR F y cs' → Ct Tryz.prog fid (fi ++ [.agg ⟨cs⟩, .agg ⟨cs'⟩] ++ ca) F [] (fun _ _ u => u = .int .i64 (cmp x y))) :
  Ct Tryz.prog 50 [v, .func (.func fid) ⟨fi⟩ ⟨ca⟩] F [] (fun _ _ u => ∃ a c, u = .agg ⟨vcs (maxF cmp x0 (l.drop 1)) a c⟩ ∧ RoR 4 VhR F (maxF cmp x0 (l.drop 1)) (vcs (maxF cmp x0 (l.drop 1)) a c)) := by
 obtain ⟨ao, cap, rfl, hcap, hpos⟩ := h
 have hl0 : 0 < l.length := (List.getElem?_eq_some_iff.1 h0).1
 obtain ⟨b0, o0, rfl, x9, cs0, hx9, hc0, hR0⟩ := LiM.pos hpos (k := 0) hl0
 rw [h0] at hx9
 cases hx9
 obtain ⟨a0, c0, rfl⟩ := ror_cs hR0
 refine Ct.enter Tryz.func50 rfl Tryz.ntmps50 rfl fun w0 a S => ?_
 refine wp_sr fun Z hZ => ?_
 (refine wpl_alloc S rfl rfl rfl rfl ?_; clear S a; intro b4 a w S)
 (revert S a; revert hZ Z; refine go 6 ?_; intro Z hZ Z hZ a S)
 (refine wv S (sv_lit (c := false) (sv_pure S rfl) (by simp only [decide_eq_false_iff_not]; omega)) ?_; clear S a; intro a S)
 (revert S a; revert hZ Z; refine go 2 ?_; intro a S)
 refine wpc_false S rfl ?_
 (revert S a; revert hZ Z; refine go 5 ?_; intro Z hZ a S)
 (refine wv S (sv_loadAF S rfl rfl hc0 rfl) ?_; clear S a; intro a S)
 (refine wpl_alloc S rfl rfl rfl rfl ?_; clear S a; intro b5 a w S)
 (refine wso S rfl rfl ?_; clear S; intro w S)
 (revert S a; revert hZ Z; refine go 8 ?_; intro Z hZ a S)
 refine wpc_loop (fun m a w' => ∃ (k : Nat) (x : Vv) (ax : Option Addr) (cx : Nat), m = l.length - k ∧ 1 ≤ k ∧ k ≤ l.length ∧ maxF cmp x (l.drop k) = maxF cmp x0 (l.drop 1) ∧ RoR 4 VhR F x (vcs x ax cx) ∧ St 33 [(0, .slice (some ⟨b0, o0, none⟩) l.length cap), (1, .func (.func fid) ⟨fi⟩ ⟨ca⟩), (4, ptr b4), (5, ptr b5), (6, .int .i64 k)] w0 F [] F [[(b5, .cells ⟨vcs x ax cx⟩ 45 (0, 0))], [(b4, .cells ⟨[.int .u8 0, .int .i64 0, .string (bs []), .slice none 0 0]⟩ 45 (0, 0))]] a w') ?_ ?_
 ·(refine ⟨l.length - 1, 1, x0, a0, c0, rfl, Nat.le_refl _, hl0, rfl, hR0, ?_⟩; refine S.keep ?_; exact zk)
 (clear S; rintro m a w ⟨k, x, ax, cx, rfl, hk1, hkl, hmx, hR, S⟩)
 (revert S a; refine go 8 ?_; intro Z hZ a S)
 refine wpc_sp S rfl ?_ ?_ <;> intro h
 ·(revert S a; revert hZ Z; refine go 4 ?_; intro Z hZ a S)
  (refine wp_seq_k ?_; intro Z hZ)
  (obtain ⟨b9, o9, e9, y, csy, hy, hcy, hRy⟩ := LiM.pos hpos (k := k) (by omega); cases e9; obtain ⟨ay, cy, rfl⟩ := ror_cs hRy)
  (refine wpc_mixM [0, 1, 2, 3, 4, 5, 7] [4, 5] [] (.one 0 (.one 1 (.one 2 (.one 3 (.one 4 (.one 5 (.one 6 (.one 7 .nil)))))))) [b5] S mixed (by kernel_rfl) ?_; clear S; intro w S)
  (revert S a; refine go 7 ?_; intro a S)
  (refine wc0 S (hcl y x _ _ hRy hR) ?_; clear S a; intro v a w hv S; subst hv)
  (revert S a; revert hZ Z; refine go 4 ?_; intro a S)
  refine wpc_sp S rfl ?_ ?_ <;> intro h
  ·(revert S a; refine go 5 ?_; intro a S)
   (refine wso S rfl rfl ?_; clear S; intro w S)
   (revert S a; revert hZ Z; refine go 7 ?_; intro a S)
   change ∃ m', _ ∧ _
   exact zzGb0
  (revert S a; revert hZ Z; refine go 7 ?_; intro a S)
  change ∃ m', _ ∧ _
  exact zzGb0
 (refine wp_exit ?_; conv => whnf)
 clear hZ Z
 (revert S a; revert hZ Z; refine go 3 ?_; intro Z hZ a S)
 (refine wso S rfl rfl ?_; clear S; intro w S)
 (revert S a; revert hZ Z; refine go 2 ?_; intro a S)
 refine wp_ret (fin_ret S (results1 Tryz.results50 (RV.cellO S rfl (by rfl))) ?_)
 (have hkk : k = l.length := (by omega); subst hkk; rw [List.drop_of_length_le (Nat.le_refl _)] at hmx; (simp only [maxF] at hmx); subst hmx; exact ⟨_, _, rfl, hR⟩)
end Go.Proofs.YtbhipiepfclneaaGreatDoor
