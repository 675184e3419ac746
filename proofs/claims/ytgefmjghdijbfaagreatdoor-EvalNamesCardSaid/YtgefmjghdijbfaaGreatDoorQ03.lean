/- Walks. -/
import Derived.Test.YtgefmjghdijbfaaGreatDoorQ02
import Derived.Lib.ConvBytes
import Derived.Laws.BytesString
import Derived.StillTail
namespace Go.Wk
open Go
set_option linter.unusedSimpArgs false
set_option linter.unusedVariables false
def OwnS (e size : Nat) (v : Value) (k : Nat) (xs : List Value) (g : Grp) : Prop :=
 xs.length = k * size ∧ ((v = .slice none 0 0 ∧ k = 0 ∧ g = []) ∨
  ∃ b cap cur, v = .slice (some ⟨b, 0, none⟩) k cap ∧ g = [(b, .cells cur e (0, 0))] ∧ k ≤ cap ∧ cap ≤ maxLen ∧ cur.size = cap * size ∧ cur.toList.take (k * size) = xs)
theorem OwnS.nil (e size : Nat) : OwnS e size (.slice none 0 0) 0 [] [] := ⟨by simp, .inl ⟨rfl, rfl, rfl⟩⟩
theorem OwnS.oneCell {e size v k xs g} (h : OwnS e size v k xs g) : v.oneCell' = true := by
 rcases h.2 with ⟨rfl, _⟩ | ⟨b, cap, cur, rfl, _⟩ <;> rfl
def idx {α : Type} : Nat → List α → List (Nat × α)
 | _, [] => []
 | k, x :: r => (k, x) :: idx (k + 1) r
def unidx {α : Type} : Nat → List (Nat × α) → Option (List α)
 | _, [] => some []
 | k, p :: r => match Nat.beq p.1 k, unidx (k + 1) r with
  | true, some l => some (p.2 :: l)
  | _, _ => none
theorem unidx_eq {α : Type} : ∀ {l : List (Nat × α)} {k : Nat} {xs : List α}, unidx k l = some xs → l = idx k xs
 | [], k, xs, h => by simp only [unidx, Option.some.injEq] at h; subst h; rfl
 | p :: r, k, xs, h => by
  simp only [unidx] at h
  split at h
  ·rename_i l hb hl
   simp only [Option.some.injEq] at h
   subst h
   have := Nat.eq_of_beq_eq_true hb
   simp only [idx]
   rw [← unidx_eq hl, ← this]
  ·cases h
theorem foldl_set (off : Nat) : ∀ (vs : List Value) (j : Nat) (cells : Array Value), off + j + vs.length ≤ cells.size →
  (vs.zipIdx j).foldl (fun cs (p : Value × Nat) => cs.setIfInBounds (off + p.2) p.1) cells = ⟨cells.toList.take (off + j) ++ vs ++ cells.toList.drop (off + j + vs.length)⟩
 | [], j, cells, _ => by simp
 | v :: r, j, cells, h => by
  simp only [List.length_cons] at h
  rw [List.zipIdx_cons, List.foldl_cons, foldl_set off r (j + 1) _ (by simp; omega)]
  congr 1
  have := list_seg_step cells.toList (off + j) v r (by simp; omega)
  simp only [Array.toList_setIfInBounds]
  rw [show off + (j + 1) = off + j + 1 from rfl]
  rw [this]
  simp
theorem fill_one (off : Nat) (v : Value) (cells : Array Value) (h : off + v.cells.size ≤ cells.size) :
  v.cells.zipIdx.foldl (fun cs (p : Value × Nat) => cs.setIfInBounds (off + p.2) p.1) cells = ⟨cells.toList.take off ++ v.cells.toList ++ cells.toList.drop (off + v.cells.size)⟩ := by
 rw [← Array.foldl_toList, Array.toList_zipIdx]
 have := foldl_set off v.cells.toList 0 cells (by simpa using h)
 simpa using this
theorem fill_idx (size : Nat) : ∀ (vs : List Value) (k : Nat) (cells : Array Value), (∀ v ∈ vs, v.cells.toList.length = size) → cells.size = (k + vs.length) * size →
  Instr.fill (fun i => some (i * size, size)) cells (idx k vs) = some ⟨cells.toList.take (k * size) ++ vs.flatMap (·.cells.toList)⟩
 | [], k, cells, _, hs => by
  simp only [idx, Instr.fill, List.flatMap_nil, List.append_nil]
  rw [List.take_of_length_le (by simp at hs ⊢; omega)]
 | v :: r, k, cells, hv, hs => by
  have hvs : v.cells.size = size := by have := hv v (by simp); simpa using this
  simp only [List.length_cons] at hs
  have e1 : (k + (r.length + 1)) * size = k * size + size + r.length * size := by rw [Nat.add_mul, Nat.add_mul]; omega
  have hle : k * size + v.cells.size ≤ cells.size := by rw [hvs, hs, e1]; omega
  simp only [idx, Instr.fill]
  rw [if_neg (by simp [hvs]; rw [hvs] at hle; omega)]
  rw [fill_one _ _ _ hle]
  rw [fill_idx size r (k + 1) _ (fun u hu => hv u (by simp [hu]))]
  ·congr 2
   simp only [List.flatMap_cons]
   rw [← List.append_assoc]
   congr 1
   have hl : (cells.toList.take (k * size) ++ v.cells.toList).length = (k + 1) * size := by
    rw [List.length_append, List.length_take, Array.length_toList, Array.length_toList, hvs, Nat.add_mul]; omega
   rw [← hl]
   exact List.take_left
  ·simp only [List.size_toArray, List.length_append, List.length_take, List.length_drop, Array.length_toList]
   rw [hvs] at hle ⊢
   rw [hs, e1, Nat.add_mul, Nat.add_mul]
   omega
section
variable {P : Program} {n : Sz} {L : List (Nat × Value)} {w0 : World} {F0 : Heap} {K0 : List Nat} {F : Heap} {G : List Grp} {a : Act} {w : World}
variable {ops : Array Oper} {Q : Exit → Act → World → Prop} {rest : List Oper} {o o1 o2 : Oper}
theorem run_buildSlice {t e : TypeId} {z : Value} {sz by_ : Nat} (ht : Und P t (.slice e)) (hi : Inf P e z sz by_) (hz : z.cells.toList.length = sz) (vs : List Value) (hv : ∀ v ∈ vs, v.cells.toList.length = sz) (hb : vs.length * sz ≤ 16777216) :
  (Instr.buildSlice t vs.length (idx 0 vs).toArray).run P w = .ok (.slice (some ⟨w.heap.size, 0, none⟩) vs.length vs.length) (w.alloc (.cells ⟨vs.flatMap (·.cells.toList)⟩ e)) := by
 have h1 : ¬ (16777216 < vs.length * sz) := by omega
 have hzs : z.cells.size = sz := by simpa using hz
 unfold Instr.buildSlice
 simp only [Sem.run_bind, run_underlying ht.h, Result.andThen_ok, run_sizeOf hi, Sem.run_ite]
 simp only [Nat.reducePow, gt_iff_lt, h1, if_false]
 by_cases h0 : vs.length * sz = 0
 ·have hf := fill_idx sz vs 0 ((Array.range (vs.length * sz)).map (#[][· % (#[] : Array Value).size]!)) hv (by simp)
  simp only [h0, if_true, Sem.run_pure, Result.andThen_ok]
  rw [h0] at hf
  simp only [hf]
  simp [newRow]
 ·have hf := fill_idx sz vs 0 ((Array.range (vs.length * sz)).map (z.cells[· % z.cells.size]!)) hv (by simp)
  simp only [h0, if_false, run_zero hi, Sem.run_pure, Result.andThen_ok]
  simp only [hf]
  simp [newRow]
theorem idx_map {α β : Type} (f : α → β) : ∀ (l : List α) (k : Nat), (idx k l).map (fun p => (p.1, f p.2)) = idx k (l.map f)
 | [], _ => rfl
 | x :: r, k => by simp [idx, idx_map f r]
theorem St.evalParts (S : St n L w0 F0 K0 F G a w) {parts : Array (Nat × Operand)} {xs : List Operand} {vs : List Value} (hp : parts.toList = idx 0 xs) (h : evs L xs = some vs) :
  (parts.map fun (i, x) => (i, a.eval x)) = (idx 0 vs).toArray := by
 apply Array.ext'
 have h1 := S.fr.evals h
 have h2 := idx_map a.eval xs 0
 rw [h1] at h2
 simp only [Array.toList_map, hp]
 exact h2
theorem wpl_buildSlice {d : Nat} {t e : TypeId} {m : Nat} {parts : Array (Nat × Operand)} {xs : List Operand} {vs : List Value} {z : Value} {sz by_ : Nat} [ht : Und P t (.slice e)] [hi : Inf P e z sz by_] (S : St n L w0 F0 K0 F G a w) (hg : o.guard = none) (hd : o.dst = some d) (hn : Nat.blt d n.sz = true)
  (ho : o.op = .buildSlice t m parts) (hp : unidx 0 parts.toList = some xs) (hxs : evs L xs = some vs) (hz : z.cells.toList.length = sz) (hv : ∀ v ∈ vs, v.cells.toList.length = sz) (hm : vs.length = m) (hb : Nat.ble (m * sz) 16777216 = true) (hsz : Nat.blt 0 sz = true)
  (k : ∀ b a' w', OwnS e sz (.slice (some ⟨b, 0, none⟩) m m) m (vs.flatMap (·.cells.toList)) [(b, .cells ⟨vs.flatMap (·.cells.toList)⟩ e (0, 0))] → St n ((d, .slice (some ⟨b, 0, none⟩) m m) :: L) w0 F0 K0 F ([(b, .cells ⟨vs.flatMap (·.cells.toList)⟩ e (0, 0))] :: G) a' w' → wpList P ops Q rest a' w') : wpList P ops Q (o :: rest) a w := by
 refine wpList_plain hg fun K hK => ?_
 subst hm
 have hb' := Nat.le_of_ble_eq_true hb
 have hr := run_buildSlice (P := P) (w := w) ht hi hz vs hv hb'
 have hl : (vs.flatMap (·.cells.toList)).length = vs.length * sz := by
  clear hr hxs k hb hb' ho
  induction vs with
  | nil => simp
  | cons v r ih =>
   rw [List.flatMap_cons, List.length_append, ih (fun u hu => hv u (by simp [hu])), hv v (by simp), List.length_cons, Nat.add_mul]; omega
 have hml : vs.length ≤ maxLen := by
  have h0 : 0 < sz := by simpa [Nat.blt_eq] using hsz
  have : vs.length ≤ vs.length * sz := Nat.le_mul_of_pos_right _ h0
  simp only [maxLen]; omega
 unfold Oper.wp execOp
 rw [ho]
 simp only [Sem.run_bind, S.evalParts (unidx_eq hp) hxs, hr, Result.andThen_ok, Sem.run_pure, Oper.upon_value, hd]
 exact hK _ _ (k _ _ _ ⟨hl, .inr ⟨_, _, _, rfl, rfl, Nat.le_refl _, hml, by simpa using hl, by rw [← hl]; exact List.take_length⟩⟩ (S.alloc _ hn _))
theorem St.append (S : St n L w0 F0 K0 F G a w) {G1 G2 : List Grp} {g : Grp} (hG : G = G1 ++ g :: G2) {t ty e : TypeId} {z : Value} {sz by_ : Nat} (ht : Und P t (.slice e)) (hi : Inf P e z sz by_) (hz : z.cells.toList.length = sz)
  {v : Value} {k : Nat} {xs : List Value} (hown : OwnS e sz v k xs g) (ad : Addr) (m c : Nat) (news : List Value) (hl : news.length = m * sz) (hnews : ∀ j u, news[j]? = some u → w.cell? (ad.add j) = some u) (h1 : ∀ u ∈ news, u.oneCell' = true)
  (hlen : (k + m) * by_ ≤ 140737488355328) (h63 : k + m ≤ maxLen) (hm : 0 < m) :
  ∃ v' w' g', (Builtin.append_ #[t, t] ty #[v, .slice (some ad) m c]).run P w = .ok v' w' ∧ OwnS e sz v' (k + m) (xs ++ news) g' ∧ St n L w0 F0 K0 F (G1 ++ g' :: G2) a w' := by
 obtain ⟨i, i1, i2, i3, i4⟩ := hi.h
 subst hG
 have hsmall : k + m ≤ 9223372036854775807 := by simp only [maxLen] at h63; omega
 have hxl : (xs ++ news).length = (k + m) * sz := by rw [List.length_append, hown.1, hl, Nat.add_mul]
 -- a new row
 have fresh : ∀ old, old < k + m → ∀ Gx : List Grp, Tr w0 F0 K0 w F Gx →
   OwnS e sz (.slice (some ⟨w.heap.size, 0, none⟩) (k + m) (grownCap w (k + m) old e)) (k + m) (xs ++ news) [(w.heap.size, .cells (xs.toArray ++ news.toArray ++ Builtin.zeroCells z.cells (grownCap w (k + m) old e - (k + m))) e (0, 0))] := fun old ho Gx hx => by
  have hge := grownCap_ge w (k + m) old e
  have hcm := grownCap_le_maxLen w (k + m) old e h63
  have hzs : z.cells.size = sz := by simpa using hz
  refine ⟨hxl, .inr ⟨_, _, _, rfl, rfl, hge, hcm, ?_, ?_⟩⟩
  ·simp only [Array.size_append, List.size_toArray, size_zeroCells, hzs, hown.1, hl, ← Nat.add_mul]
   congr 1; omega
  ·simp only [Array.toList_append, List.append_assoc]
   rw [← List.append_assoc, ← hxl]
   exact List.take_left
 rcases hown.2 with ⟨rfl, rfl, rfl⟩ | ⟨b, cap, cur, rfl, rfl, hkc, hcm, hcs, htk⟩
 ·have hx : xs = [] := List.eq_nil_of_length_eq_zero (by simpa using hown.1)
  subst hx
  have hr := run_append_nil (P := P) w t ty e i z ht.h i1 i2 ad m c news (by rw [i3]; exact hl) hnews hm (by omega) (by rw [i4]; have hb := hlen; simp only [Nat.zero_add] at hb; omega)
  have hT : Tr w0 F0 K0 w F (G1 ++ G2) := S.tr.sub (by simp [List.flatten_append])
  have := fresh 0 (by omega) _ S.tr
  simp only [Nat.zero_add, List.nil_append, Array.empty_append] at this ⊢
  exact ⟨_, _, _, hr, this, S.fr, (hT.drew.alloc _).perm (by simp only [List.flatten_append, List.flatten_cons]; exact (List.perm_append_comm_assoc _ _ _))⟩
 ·have hhb : w.heap[b]? = some (.cells cur e (0, 0)) := (S.tr.own (b, _) (by simp [List.flatten_append, List.flatten_cons])).1
  by_cases hroom : k + m ≤ cap
  ·have hfit : k * i.size + news.length ≤ cur.size := by rw [i3, hl, hcs, ← Nat.add_mul]; exact Nat.mul_le_mul_right _ hroom
   have hr := run_append_room (P := P) w t ty e i ht.h i1 b k cap cur hhb ad m c news (by rw [i3]; exact hl) hnews h1 hroom hfit
   rw [i3] at hr hfit
   refine ⟨_, _, _, hr, ⟨hxl, .inr ⟨b, cap, _, rfl, rfl, hroom, hcm, ?_, ?_⟩⟩, S.fr, S.tr.write rfl rfl rfl (by simp [World.setRow]) (setRow_heap w b cur _ e _ hhb) fun q hq => setRow_other w b q _ hq⟩
   ·simp only [List.size_toArray, List.length_append, List.length_take, List.length_drop, Array.length_toList]
    omega
   ·show List.take ((k + m) * sz) (cur.toList.take (k * sz) ++ news ++ _) = _
    rw [htk, ← hxl]
    exact List.take_left
  ·have holds : ∀ j u, xs[j]? = some u → w.cell? ((⟨b, 0, none⟩ : Addr).add j) = some u := fun j u hu => by
    rw [addr_add, Nat.zero_add]
    refine cell_of_heap hhb ?_
    rw [← htk, List.getElem?_take] at hu
    split at hu
    ·simpa using hu
    ·cases hu
   have hr := run_append_grow (P := P) w t ty e i z ht.h i1 i2 ⟨b, 0, none⟩ k cap xs (by rw [i3]; exact hown.1) holds ad m c news (by rw [i3]; exact hl) hnews (by omega) (by omega) (by rw [i4]; exact growslice_fits (by omega) hlen)
   have hT : Tr w0 F0 K0 w F (G1 ++ G2) := S.tr.sub (by simp only [List.flatten_append, List.flatten_cons]; exact List.Sublist.append_left (List.sublist_append_right _ _) _)
   exact ⟨_, _, _, hr, fresh cap (by omega) _ S.tr, S.fr, (hT.drew.alloc _).perm (by simp only [List.flatten_append, List.flatten_cons]; exact (List.perm_append_comm_assoc _ _ _))⟩
class Nth (G : List Grp) (g : Grp) (R : outParam (Grp → List Grp)) : Prop where
  h : ∃ G1 G2, G = G1 ++ g :: G2 ∧ ∀ g', R g' = G1 ++ g' :: G2
instance Nth.here {g : Grp} {G : List Grp} : Nth (g :: G) g (fun g => g :: G) := ⟨[], G, rfl, fun _ => rfl⟩
instance Nth.there {R} {g g1 : Grp} {G : List Grp} [h : Nth G g R] : Nth (g1 :: G) g (fun x => g1 :: R x) := by
 obtain ⟨G1, G2, e, hR⟩ := h.h
 exact ⟨g1 :: G1, G2, by rw [e]; rfl, fun x => by rw [hR]; rfl⟩
theorem wpl_append {d1 d2 : Nat} {t e : TypeId} {m : Nat} {parts : Array (Nat × Operand)} {s : Operand} {xs : List Operand} {vs : List Value} {z : Value} {sz by_ : Nat} {v : Value} {q : Nat} {cs : List Value} {g : Grp} {R} [ht : Und P t (.slice e)] [hi : Inf P e z sz by_] (S : St n L w0 F0 K0 F G a w)
  (hg1 : o1.guard = none) (hg2 : o2.guard = none) (hd1 : o1.dst = some d1) (hd2 : o2.dst = some d2) (hn1 : Nat.blt d1 n.sz = true) (hn2 : Nat.blt d2 n.sz = true)
  (ho1 : o1.op = .buildSlice t m parts) (ho2 : o2.op = .call { callee := .builtin .append, args := #[s, .tmp d1], argTypes := #[t, t] }) (hp : unidx 0 parts.toList = some xs) (hxs : evs L xs = some vs) (hs : ev L s = some v) (hsd : ∀ u, ev ((d1, u) :: L) s = ev L s) (hown : OwnS e sz v q cs g) [hN : Nth G g R]
  (hz : z.cells.toList.length = sz) (hv : ∀ v ∈ vs, v.cells.toList.length = sz) (h1 : ∀ v ∈ vs, ∀ u ∈ v.cells.toList, u.oneCell' = true) (hm : vs.length = m) (hb : Nat.ble (m * sz) 16777216 = true) (hsz : Nat.blt 0 sz = true) (hm0 : Nat.blt 0 m = true)
  (hlen : (q + m) * by_ ≤ 140737488355328) (h63 : q + m ≤ 9223372036854775807)
  (k : ∀ v' u g' a' w', OwnS e sz v' (q + m) (cs ++ vs.flatMap (·.cells.toList)) g' → St n ((d2, v') :: (d1, u) :: L) w0 F0 K0 F (R g') a' w' → wpList P ops Q rest a' w') : wpList P ops Q (o1 :: o2 :: rest) a w := by
 refine wpl_buildSlice S hg1 hd1 hn1 ho1 hp hxs hz hv hm hb hsz fun b a' w' hbs S' => ?_
 refine wpList_plain hg2 fun K hK => ?_
 obtain ⟨G1, G2, e1, hR⟩ := hN.h
 have hm0' : 0 < m := by simpa [Nat.blt_eq] using hm0
 have hl : (vs.flatMap (·.cells.toList)).length = m * sz := hbs.1
 have hnews : ∀ j u, (vs.flatMap (·.cells.toList))[j]? = some u → w'.cell? ((⟨b, 0, none⟩ : Addr).add j) = some u := fun j u hu => by
  rw [addr_add, Nat.zero_add]
  exact cell_of_heap (c := ⟨vs.flatMap (·.cells.toList)⟩) (e := e) (f := (0, 0)) (S'.tr.own (b, .cells ⟨vs.flatMap (·.cells.toList)⟩ e (0, 0)) (by simp [List.flatten_cons])).1 (by simpa using hu)
 have h1' : ∀ u ∈ vs.flatMap (·.cells.toList), u.oneCell' = true := fun u hu => by
  obtain ⟨v, hv1, hv2⟩ := List.mem_flatMap.1 hu
  exact h1 v hv1 u hv2
 subst e1
 obtain ⟨v', w2, g', hr, ho', S2⟩ := S'.append (G1 := [(b, .cells ⟨vs.flatMap (·.cells.toList)⟩ e (0, 0))] :: G1) rfl ht hi hz hown ⟨b, 0, none⟩ m m _ hl hnews h1' hlen (by simp only [maxLen]; omega) hm0' (ty := o2.type)
 have e2 : a'.eval s = v := S'.fr.eval (by rw [hsd]; exact hs)
 have e3 : a'.eval (.tmp d1) = .slice (some ⟨b, 0, none⟩) m m := S'.fr.eval (by simp [ev, look])
 unfold Oper.wp execOp
 rw [ho2]
 simp [resolve, invoke, builtin, e2, e3, hr, Oper.upon_value, hd2]
 refine hK _ _ (k v' _ g' _ w2 ho' ⟨S2.fr.put v' hn2, ?_⟩)
 rw [hR]
 exact S2.tr.sub (by rw [List.cons_append, List.flatten_cons]; exact List.sublist_append_right _ _)
theorem run_firstCells_str {P : Program} (w : World) (s : ByteArray) : (Builtin.firstCells 1 s.size (.string s)).run P w = .ok ⟨s.data.toList.map (fun b => Value.int .u8 b.toNat)⟩ w := by
 have : (s.extract 0 s.size).data = s.data := by rw [ByteArray.data_extract]; exact Array.extract_size
 simp only [Builtin.firstCells, Sem.run_pure, this]
 congr 1
 apply Array.ext'
 simp
theorem St.appendStr (S : St n L w0 F0 K0 F G a w) {G1 G2 : List Grp} {g : Grp} (hG : G = G1 ++ g :: G2) {t u ty e : TypeId} {z : Value} {by_ : Nat} (ht : Und P t (.slice e)) (hu : Und P u .string) (hi : Inf P e z 1 by_) (hz : z.cells.toList.length = 1)
  {v : Value} {k : Nat} {xs : List Value} (hown : OwnS e 1 v k xs g) (s : ByteArray) (hm : 0 < s.size)
  (hlen : (k + s.size) * by_ ≤ 140737488355328) (h63 : k + s.size ≤ maxLen) :
  ∃ v' w' g', (Builtin.append_ #[t, u] ty #[v, .string s]).run P w = .ok v' w' ∧ OwnS e 1 v' (k + s.size) (xs ++ s.data.toList.map (fun b => Value.int .u8 b.toNat)) g' ∧ St n L w0 F0 K0 F (G1 ++ g' :: G2) a w' := by
 obtain ⟨i, i1, i2, i3, i4⟩ := hi.h
 subst hG
 have hsmall : k + s.size ≤ 9223372036854775807 := by simp only [maxLen] at h63; omega
 obtain ⟨news, hnews⟩ : ∃ l, l = s.data.toList.map (fun b => Value.int .u8 (b.toNat : Int)) := ⟨_, rfl⟩
 have hl : news.length = s.size := by rw [hnews, List.length_map]; rfl
 have h1 : ∀ u ∈ news, u.oneCell' = true := fun u hu => by rw [hnews] at hu; obtain ⟨_, _, rfl⟩ := List.mem_map.1 hu; rfl
 have hfc : ∀ w, (Builtin.firstCells 1 s.size (.string s)).run P w = .ok news.toArray w := fun w => by rw [run_firstCells_str, ← hnews]
 rw [← hnews]
 have hxl : (xs ++ news).length = (k + s.size) * 1 := by rw [List.length_append, hown.1, hl]; omega
 have hint : (match TypeDesc.string with | .int _ => true | _ => false) = false := rfl
 have fresh : ∀ old, old < k + s.size →
   OwnS e 1 (.slice (some ⟨w.heap.size, 0, none⟩) (k + s.size) (grownCap w (k + s.size) old e)) (k + s.size) (xs ++ news) [(w.heap.size, .cells (xs.toArray ++ news.toArray ++ Builtin.zeroCells z.cells (grownCap w (k + s.size) old e - (k + s.size))) e (0, 0))] := fun old ho => by
  have hge := grownCap_ge w (k + s.size) old e
  have hcm := grownCap_le_maxLen w (k + s.size) old e h63
  have hzs : z.cells.size = 1 := by simpa using hz
  refine ⟨hxl, .inr ⟨_, _, _, rfl, rfl, hge, hcm, ?_, ?_⟩⟩
  ·simp only [Array.size_append, List.size_toArray, size_zeroCells, hzs, hown.1, hl]
   omega
  ·simp only [Array.toList_append, List.append_assoc]
   rw [← List.append_assoc, ← hxl]
   exact List.take_left
 rcases hown.2 with ⟨rfl, rfl, rfl⟩ | ⟨b, cap, cur, rfl, rfl, hkc, hcm, hcs, htk⟩
 ·have hx : xs = [] := List.eq_nil_of_length_eq_zero (by simpa using hown.1)
  subst hx
  have hr := run_append_nil_string (P := P) w t u ty e i z ht.h hu.h i1 i2 s hm (by omega) (by rw [i4]; have hb := hlen; simp only [Nat.zero_add] at hb; omega)
  have hT : Tr w0 F0 K0 w F (G1 ++ G2) := S.tr.sub (by simp [List.flatten_append])
  have hf := fresh 0 (by omega)
  have hd : s.data.map (fun b => Value.int .u8 (b.toNat : Int)) = news.toArray := by rw [hnews]; apply Array.ext'; simp
  rw [hd] at hr
  simp only [Nat.zero_add, List.nil_append, Array.empty_append] at hf ⊢
  exact ⟨_, _, _, hr, hf, S.fr, (hT.drew.alloc _).perm (by simp only [List.flatten_append, List.flatten_cons]; exact (List.perm_append_comm_assoc _ _ _))⟩
 ·have hhb : w.heap[b]? = some (.cells cur e (0, 0)) := (S.tr.own (b, _) (by simp [List.flatten_append, List.flatten_cons])).1
  by_cases hroom : k + s.size ≤ cap
  ·have hfit : k * 1 + news.length ≤ cur.size := by rw [hl, hcs]; omega
   have hst := run_storeCells_at P b (k * 1) e news 0 cur w hhb (by simpa using hfit) h1
   simp only [Nat.add_zero] at hst
   have hr : (Builtin.append_ #[t, u] ty #[.slice (some ⟨b, 0, none⟩) k cap, .string s]).run P w = .ok (.slice (some ⟨b, 0, none⟩) (k + s.size) cap) (w.setRow b (cur.toList.take (k * 1) ++ news ++ cur.toList.drop (k * 1 + news.length)).toArray) := by
    simp [Builtin.append_, run_underlying ht.h, run_underlying hu.h, sizeOf, typeInfo, i1, i3, Builtin.lenOf, hroom, hfc, addr_add, Nat.mul_one] at hst ⊢
    simp [hst]
   refine ⟨_, _, _, hr, ⟨hxl, .inr ⟨b, cap, _, rfl, rfl, hroom, hcm, ?_, ?_⟩⟩, S.fr, S.tr.write rfl rfl rfl (by simp [World.setRow]) (setRow_heap w b cur _ e _ hhb) fun q hq => setRow_other w b q _ hq⟩
   ·simp only [List.size_toArray, List.length_append, List.length_take, List.length_drop, Array.length_toList]
    omega
   ·show List.take ((k + s.size) * 1) (cur.toList.take (k * 1) ++ news ++ _) = _
    rw [htk, ← hxl]
    exact List.take_left
  ·have holds : ∀ j u, xs[j]? = some u → w.cell? ((⟨b, 0, none⟩ : Addr).add j) = some u := fun j u hu => by
    rw [addr_add, Nat.zero_add]
    refine cell_of_heap hhb ?_
    rw [← htk, List.getElem?_take] at hu
    split at hu
    ·simpa using hu
    ·cases hu
   have hT : Tr w0 F0 K0 w F (G1 ++ G2) := S.tr.sub (by simp only [List.flatten_append, List.flatten_cons]; exact List.Sublist.append_left (List.sublist_append_right _ _) _)
   have hfo := run_firstCells_some (P := P) w.drew 1 k ⟨b, 0, none⟩ k cap xs (by rw [hown.1]) (fun j v hv => by simpa using holds j v hv)
   have h48 : ¬ (281474976710656 < Builtin.nextslicecap (k + s.size) cap * i.bytes) := by
    have := growslice_fits (need := k + s.size) (old := cap) (bytes := i.bytes) (by omega) (by rw [i4]; exact hlen)
    omega
   have h63' : ¬ (9223372036854775807 < ((k : Int) + (s.size : Int))) := by omega
   have hr : (Builtin.append_ #[t, u] ty #[.slice (some ⟨b, 0, none⟩) k cap, .string s]).run P w = .ok (.slice (some ⟨w.heap.size, 0, none⟩) (k + s.size) (grownCap w (k + s.size) cap e)) (w.drew.alloc (.cells (xs.toArray ++ news.toArray ++ Builtin.zeroCells z.cells (grownCap w (k + s.size) cap e - (k + s.size))) e)) := by
    simp [Builtin.append_, run_underlying ht.h, run_underlying hu.h, sizeOf, typeInfo, i1, i2, i3, zeroValue, Builtin.lenOf, hroom, hfc, hfo, h48, h63', Question.forced, newRow, grownCap]
    simp [← List.append_toArray]
   exact ⟨_, _, _, hr, fresh cap (by omega), S.fr, (hT.drew.alloc _).perm (by simp only [List.flatten_append, List.flatten_cons]; exact (List.perm_append_comm_assoc _ _ _))⟩
theorem wpl_appendStr {d2 : Nat} {t u e : TypeId} {s x : Operand} {by_ : Nat} {z : Value} {v : Value} {q : Nat} {cs : List Value} {g : Grp} {R} {str : List UInt8} [ht : Und P t (.slice e)] [hu : Und P u .string] [hi : Inf P e z 1 by_] (S : St n L w0 F0 K0 F G a w)
  (hg2 : o2.guard = none) (hd2 : o2.dst = some d2) (hn2 : Nat.blt d2 n.sz = true)
  (ho2 : o2.op = .call { callee := .builtin .append, args := #[s, x], argTypes := #[t, u] }) (hs : ev L s = some v) (hx : ev L x = some (.string (bs str))) (hown : OwnS e 1 v q cs g) [hN : Nth G g R]
  (hz : z.cells.toList.length = 1) (hm0 : 0 < str.length)
  (hlen : (q + str.length) * by_ ≤ 140737488355328) (h63 : q + str.length ≤ 9223372036854775807)
  (k : ∀ v' g' a' w', OwnS e 1 v' (q + str.length) (cs ++ str.map (fun b => Value.int .u8 b.toNat)) g' → St n ((d2, v') :: L) w0 F0 K0 F (R g') a' w' → wpList P ops Q rest a' w') : wpList P ops Q (o2 :: rest) a w := by
 refine wpList_plain hg2 fun K hK => ?_
 obtain ⟨G1, G2, e1, hR⟩ := hN.h
 obtain ⟨v', w2, g', hr, ho', S2⟩ := S.appendStr e1 ht hu hi hz hown (bs str) hm0 hlen (by simp only [maxLen]; exact h63) (ty := o2.type)
 have e2 : a.eval s = v := S.fr.eval hs
 have e3 : a.eval x = .string (bs str) := S.fr.eval hx
 unfold Oper.wp execOp
 rw [ho2]
 simp [resolve, invoke, builtin, e2, e3, hr, Oper.upon_value, hd2]
 refine hK _ _ (k v' g' _ w2 ho' ⟨S2.fr.put v' hn2, ?_⟩)
 rw [hR]
 exact S2.tr
end
end Go.Wk
