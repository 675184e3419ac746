/- Arguments that came in, opened into lists, records, forests: what each type's cells say. -/
import Derived.Test.YtoaodbclgeeaeaaGreatDoorDe
import Derived.Test.YtoaodbclgeeaeaaGreatDoorOpen
import Derived.OpenShut
import Derived.SizedLaws
import Derived.ChangeSame
namespace Go.De
open Go Go.Wk Go.Un Go.ChangeShapes Go.WideShapes
set_option linter.unusedSimpArgs false
set_option linter.unusedVariables false

theorem weightsAll_mem' {H : Type} {P : Program} {e : TypeId} {d : DataW H} : ∀ {l : List (DataW H)}, d ∈ l → ∀ q ∈ d.weights P e, q ∈ DataW.weightsAll P e l
  | x :: l, hd, q, hq => by
    unfold DataW.weightsAll
    rcases List.mem_cons.1 hd with rfl | hd
    · exact List.mem_append_left _ hq
    · exact List.mem_append_right _ (weightsAll_mem' hd q hq)
theorem open_listW {α : Type} [Inhabited α] {H : Type} {enc : TypeId × Value → H} {P : Program} {w : World} {spare : Nat → Bool} {held : Bool} {t e : TypeId} (cell : α → List Value) {sz : Nat} (good : α → Prop)
    (ht : P.underlying t = some (.slice e)) (hc : P.cellsOf e = sz) (h0 : 0 < sz) (hlen : ∀ x, (cell x).length = sz)
    {cs0 : List Value} {d : DataW H} {p : List MemPlace} {fuel : Nat} (h : DataW.trod enc P w 0 spare held fuel t cs0 = some (d, p)) (hw : (d.weights P t).all (· ≤ reachBytes) = true)
    (hel : ∀ n cs d' p, DataW.trod enc P w 0 spare held n e cs = some (d', p) → SizeOf.sizeOf d' < SizeOf.sizeOf d → (d'.weights P e).all (· ≤ reachBytes) = true → ∃ x, cs = cell x ∧ good x) :
    ∃ (a : Option Addr) (len cap : Nat) (l : List α), cs0 = [.slice a len cap] ∧ l.length = len ∧ len ≤ maxLen ∧ (∀ x ∈ l, good x) ∧ SlC (heapOf w) (.slice a len cap) len (l.flatMap cell) ∧ len * P.bytesOf e ≤ reachBytes := by
  rcases Go.Deep.open_slice ht h with ⟨rfl, _⟩ | ⟨x, len, cap, m, n, D, Pl, rfl, -, hl, hm, hmm, hx, hi⟩
  · exact ⟨none, 0, 0, [], rfl, rfl, Nat.zero_le _, by simp, ⟨none, 0, rfl, Nat.le_refl _, fun h => absurd h (by omega)⟩, by rw [Nat.zero_mul]; exact Nat.zero_le _⟩
  · obtain ⟨hd, -⟩ := Prod.mk.inj hx
    have hlm : len ≤ m := by rw [hmm]; split <;> omega
    have hwe : ∀ q, q ∈ (len + (m - len)) * P.bytesOf e :: (DataW.weightsAll P e ((List.range len).map D) ++ DataW.weightsAll P e ((List.range (m - len)).map fun j => D (len + j))) → q ≤ reachBytes := fun q hq => by
      have h1 := List.all_eq_true.1 hw q (by rw [hd]; simp only [DataW.weights, ht, List.length_map, List.length_range]; exact hq)
      simpa using h1
    have hch : ∀ i, i < len → ∃ y, (∀ j v, (cell y)[j]? = some v → w.cell? ((x.add (i * sz)).add j) = some v) ∧ good y := fun i hi' => by
      obtain ⟨cs, h1, h2⟩ := hi i (by omega)
      rw [hc] at h1
      obtain ⟨y, rfl, hy⟩ := hel _ _ _ _ h2 (by
        rw [hd]
        have := List.sizeOf_lt_of_mem (List.mem_map.2 ⟨i, List.mem_range.2 hi', rfl⟩ : D i ∈ (List.range len).map D)
        simp only [DataW.slice.sizeOf_spec]
        omega) (by
        rw [List.all_eq_true]
        intro q hq
        have := hwe q (List.mem_cons_of_mem _ (List.mem_append_left _ (weightsAll_mem' (List.mem_map.2 ⟨i, List.mem_range.2 hi', rfl⟩) q hq)))
        simpa using this)
      refine ⟨y, fun j v hj => ?_, hy⟩
      obtain ⟨_, _, h3⟩ := World.cells?_some h1
      have hj2 := (List.getElem?_eq_some_iff.1 hj).1
      rw [hlen] at hj2
      exact (h3 j hj2).trans hj
    obtain ⟨X, hX⟩ := Go.Deep.choose_lt hch
    have hget : ∀ i y, ((List.range len).map X)[i]? = some y → i < len ∧ y = X i := fun i y hy => by
      have := (List.getElem?_eq_some_iff.1 hy).1
      simp only [List.length_map, List.length_range] at this
      rw [List.getElem?_map, List.getElem?_range this] at hy
      exact ⟨this, by simpa using hy.symm⟩
    refine ⟨some x, len, cap, (List.range len).map X, rfl, by simp, Nat.le_trans hl hm, fun y hy => ?_, ⟨some x, cap, rfl, hl, fun hk => ?_⟩, ?_⟩
    · obtain ⟨i, hi1, rfl⟩ := List.mem_map.1 hy
      exact (hX i (List.mem_range.1 hi1)).2
    · obtain ⟨b, off, spot⟩ := x
      have hsp : spot = none := by
        have hp : 0 < (cell (X 0)).length := by rw [hlen]; exact h0
        have := (hX 0 hk).1 0 _ (List.getElem?_eq_getElem hp)
        simpa [Addr.add] using World.cell?_spot this
      subst hsp
      refine ⟨b, off, rfl, cels_flat hlen _ _ fun i y hy => ?_⟩
      obtain ⟨hi1, rfl⟩ := hget i y hy
      intro j v hv
      have := (cel_of ((hX i hi1).1 j v hv)).2
      rw [add_none, add_none] at this
      exact this
    · have h1 := hwe _ (List.mem_cons_self ..)
      exact Nat.le_trans (Nat.mul_le_mul_right _ (by omega)) h1

section
variable {H : Type} (enc : TypeId × Value → H) (P : Program) (w : World) (spare : Nat → Bool) (held : Bool)
/-- What a datum that came in says of its cells. -/
def Opn (m : Nat) (t : TypeId) (R : List Value → Prop) : Prop := ∀ (fuel : Nat) (cs : List Value) (d : DataW H) (p : List MemPlace), SizeOf.sizeOf d < m → DataW.trod enc P w 0 spare held fuel t cs = some (d, p) → (d.weights P t).all (· ≤ reachBytes) = true → R cs
inductive OpnAll (m : Nat) : List Field → List (List Value → Prop) → Prop
  | nil : OpnAll m [] []
  | cons {f : Field} {fs : List Field} {R : List Value → Prop} {Rs : List (List Value → Prop)} (h : Opn enc P w spare held m f.type R) (r : OpnAll m fs Rs) : OpnAll m (f :: fs) (R :: Rs)
end
/-- Cells one behind the other. -/
def Parts : List (List Value → Prop) → List Value → Prop
  | [], cs => cs = []
  | R :: Rs, cs => ∃ a b, cs = a ++ b ∧ R a ∧ Parts Rs b
def consec (P : Program) : Nat → List Field → Nat → Bool
  | o, [], tot => o == tot
  | o, f :: r, tot => f.offset == o && consec P (o + P.cellsOf f.type) r tot
section
variable {H : Type} {enc : TypeId × Value → H} {P : Program} {w : World} {spare : Nat → Bool} {held : Bool} {m : Nat} {t : TypeId}
theorem Opn.imp {R R' : List Value → Prop} (h : Opn enc P w spare held m t R) (hi : ∀ cs, R cs → R' cs) : Opn enc P w spare held m t R' := fun f cs d p h1 h2 h3 => hi _ (h f cs d p h1 h2 h3)
theorem Opn.lt {R : List Value → Prop} {m' : Nat} (h : Opn enc P w spare held m t R) (hm : m' ≤ m) : Opn enc P w spare held m' t R := fun f cs d p h1 h2 h3 => h f cs d p (Nat.lt_of_lt_of_le h1 hm) h2 h3
theorem opn_bool (ht : P.underlying t = some .bool) : Opn enc P w spare held m t (fun cs => ∃ b, cs = [.bool b]) := fun f cs d p _ h _ => by
  obtain ⟨b, h1, _⟩ := DataW.trod_bool ht h
  exact ⟨b, h1⟩
theorem opn_int {k : IntKind} (ht : P.underlying t = some (.int k)) : Opn enc P w spare held m t (fun cs => ∃ n, cs = [.int k n] ∧ (Lit.int k n).wf = true) := fun f cs d p _ h _ => by
  obtain ⟨n, h1, _, h2⟩ := DataW.trod_int ht h
  exact ⟨n, h1, h2⟩
theorem opn_string (ht : P.underlying t = some .string) : Opn enc P w spare held m t (fun cs => ∃ s : List UInt8, cs = [.string (bs s)] ∧ s.length ≤ 140737488355328) := fun f cs d p _ h hw => by
  obtain ⟨s, h1, h2, _⟩ := DataW.trod_string ht h
  obtain ⟨rfl, -⟩ := Prod.mk.inj h2
  refine ⟨s.data.toList, h1, ?_⟩
  have hr : reachBytes ≤ 140737488355328 := by decide
  have h3 := List.all_eq_true.1 hw s.data.toList.length (by simp [DataW.weights])
  have h4 : s.data.toList.length ≤ reachBytes := by simpa using h3
  omega
theorem weightsEach_mem' {ts : List TypeId} {ds : List (DataW H)} : ∀ {i : Nat} {u : TypeId} {d : DataW H}, ts[i]? = some u → ds[i]? = some d → ∀ q ∈ d.weights P u, q ∈ DataW.weightsEach P ts ds := by
  induction ts generalizing ds with
  | nil => intro i u d h; simp at h
  | cons x ts ih =>
    intro i u d h1 h2 q hq
    cases ds with
    | nil => simp at h2
    | cons y ds =>
      unfold DataW.weightsEach
      cases i with
      | zero => cases h1; cases h2; exact List.mem_append_left _ hq
      | succ i => exact List.mem_append_right _ (ih h1 h2 q hq)
theorem parts_of {cs : List Value} : ∀ (fs : List Field) (Rs : List (List Value → Prop)) (o : Nat), OpnAll enc P w spare held m fs Rs → consec P o fs cs.length = true → o ≤ cs.length →
    (∀ (i : Nat) (f : Field), fs[i]? = some f → ∃ n d p, SizeOf.sizeOf d < m ∧ DataW.trod enc P w 0 spare held n f.type ((cs.drop f.offset).take (P.cellsOf f.type)) = some (d, p) ∧ (d.weights P f.type).all (· ≤ reachBytes) = true) → Parts Rs (cs.drop o)
  | [], [], o, _, hc, ho, _ => by
    have h1 : o = cs.length := by simpa [consec] using hc
    subst h1
    exact List.drop_length ..
  | [], _ :: _, o, h, _, _, _ => nomatch h
  | _ :: _, [], o, h, _, _, _ => nomatch h
  | f :: fs, R :: Rs, o, .cons hh hr, hc, ho, hf => by
    unfold consec at hc
    rw [Bool.and_eq_true] at hc
    obtain ⟨hc1, hc2⟩ := hc
    have hco : f.offset = o := by simpa using hc1
    obtain ⟨n, d, p, h1, h2, h3⟩ := hf 0 f rfl
    have hle : o + P.cellsOf f.type ≤ cs.length := by
      have : ∀ (fs : List Field) (o tot : Nat), consec P o fs tot = true → o ≤ tot := by
        intro fs
        induction fs with
        | nil => intro o tot h; have : o = tot := by simpa [consec] using h
                 omega
        | cons f fs ih => intro o tot h; unfold consec at h; rw [Bool.and_eq_true] at h; have := ih _ _ h.2; omega
      exact this _ _ _ hc2
    refine ⟨(cs.drop o).take (P.cellsOf f.type), cs.drop (o + P.cellsOf f.type), ?_, ?_, parts_of fs Rs _ hr hc2 hle fun i f' hf' => hf (i + 1) f' hf'⟩
    · rw [← List.drop_drop, List.take_append_drop]
    · rw [← hco]; exact hh _ _ _ _ h1 h2 h3
theorem opn_struct {fs : Array Field} {Rs : List (List Value → Prop)} (ht : P.underlying t = some (.struct fs)) (hc : consec P 0 fs.toList (P.cellsOf t) = true) (hf : OpnAll enc P w spare held m fs.toList Rs) : Opn enc P w spare held (m + 1) t (Parts Rs) := fun fuel cs d p hd h hw => by
  obtain ⟨xs, n, _, hx, hl, hlen, hg⟩ := DataW.trod_struct ht h
  obtain ⟨rfl, -⟩ := Prod.mk.inj hx
  rw [← hl] at hc
  have := parts_of (cs := cs) fs.toList Rs 0 hf hc (Nat.zero_le _) fun i f hi => by
    have hi' : fs[i]? = some f := by simpa using hi
    have h1 := hg i f hi'
    have hlt : i < xs.length := by rw [hlen]; exact (Array.getElem?_eq_some_iff.1 hi').1
    rw [List.getElem?_eq_getElem hlt] at h1
    have hmem : xs[i].1 ∈ xs.map (·.1) := List.mem_map.2 ⟨xs[i], List.getElem_mem hlt, rfl⟩
    refine ⟨n, xs[i].1, xs[i].2, ?_, h1, ?_⟩
    · have := List.sizeOf_lt_of_mem hmem
      simp only [DataW.agg.sizeOf_spec] at hd
      omega
    · rw [List.all_eq_true] at hw ⊢
      intro q hq
      refine hw q ?_
      simp only [DataW.weights, ht]
      exact weightsEach_mem' (i := i) (by rw [List.getElem?_map, hi]; rfl) (by rw [List.getElem?_map, List.getElem?_eq_getElem hlt]; rfl) q hq
  simpa using this
theorem lic_flat {α : Type} {F : Heap} {sz : Nat} {R : Heap → α → List Value → Prop} : ∀ {l : List {cs : List Value // cs.length = sz}}, (∀ x ∈ l, ∃ y, R F y x.1) → ∃ ys : List α, ys.length = l.length ∧ LiC F sz R (l.flatMap Subtype.val) ys
  | [], _ => ⟨[], rfl, rfl⟩
  | x :: l, h => by
    obtain ⟨y, hy⟩ := h x (List.mem_cons_self ..)
    obtain ⟨ys, h1, h2⟩ := lic_flat fun z hz => h z (List.mem_cons_of_mem _ hz)
    exact ⟨y :: ys, by simp [h1], x.1, _, rfl, x.2, hy, h2⟩
theorem lim_slc {α : Type} {F : Heap} {sz n : Nat} {R : Heap → α → List Value → Prop} {v : Value} {xs : List Value} {l : List α} (h : SlC F v n xs) (hl : LiC F sz R xs l) (hn : l.length = n) (hm : n ≤ 140737488355328) : LiM F sz R v l := by
  obtain ⟨ao, cap, rfl, h1, h2⟩ := h
  subst hn
  refine ⟨ao, cap, rfl, ⟨h1, hm⟩, fun hp => ?_⟩
  obtain ⟨b, o, e, h3⟩ := h2 hp
  refine ⟨b, o, e, fun k x hx => ?_⟩
  obtain ⟨cs, h5, h6, h7⟩ := LiC.get hl hx
  exact ⟨cs, fun j u hj => by rw [Nat.add_assoc]; exact h3 _ u (h5 j u hj), h6, h7⟩
instance {sz : Nat} : Inhabited {cs : List Value // cs.length = sz} := ⟨⟨List.replicate sz .nilIface, by simp⟩⟩
theorem opn_slice {α : Type} {e : TypeId} {sz : Nat} {R : Heap → α → List Value → Prop} (ht : P.underlying t = some (.slice e)) (hc : P.cellsOf e = sz) (h0 : 0 < sz) (hb : Nat.ble 1 (P.bytesOf e) = true) (he : Opn enc P w spare held m e (fun cs => cs.length = sz ∧ ∃ x, R (heapOf w) x cs)) :
    Opn enc P w spare held m t (fun cs => ∃ v l, cs = [v] ∧ LiM (heapOf w) sz R v l) := fun fuel cs d p hd h hw => by
  obtain ⟨a, len, cap, l, e1, h1, h2, h3, h4, h5⟩ := open_listW (α := {cs : List Value // cs.length = sz}) Subtype.val (fun x => ∃ y, R (heapOf w) y x.1) ht hc h0 (fun x => x.2) h hw fun n cs d' p hh hs hw' => by
    obtain ⟨hl, x, hx⟩ := he n cs d' p (by omega) hh hw'
    exact ⟨⟨cs, hl⟩, rfl, x, hx⟩
  obtain ⟨ys, h6, h7⟩ := lic_flat h3
  have hr : reachBytes ≤ 140737488355328 := by decide
  have h8 : len ≤ len * P.bytesOf e := Nat.le_mul_of_pos_right _ (Nat.le_of_ble_eq_true hb)
  exact ⟨_, ys, e1, lim_slc h4 h7 (by rw [h6, h1]) (by omega)⟩
end
/-! ### types, forests -/
def TyR (F : Heap) (x : List UInt8 × Fo) (cs : List Value) : Prop := TyC F cs x.1 x.2
def foOf : List (List UInt8 × Fo) → Fo
  | [] => .nil
  | x :: r => .cons x.1 x.2 (foOf r)
theorem foOf_len : ∀ l, (foOf l).len = l.length
  | [] => rfl
  | x :: r => by show (foOf r).len + 1 = r.length + 1; rw [foOf_len r]
theorem foc_lic {F : Heap} : ∀ {l : List (List UInt8 × Fo)} {xs : List Value}, LiC F 2 TyR xs l → FoC F xs (foOf l)
  | [], xs, h => by rw [show xs = [] from h]; trivial
  | x :: r, xs, ⟨cs, ys, h1, h2, ⟨v, h3, h4⟩, h5⟩ => by
    subst h1; subst h3
    exact ⟨rfl, h4, foc_lic h5⟩
theorem slf_lim {F : Heap} {v : Value} {l : List (List UInt8 × Fo)} (h : LiM F 2 TyR v l) : SlF F v (foOf l) := by
  obtain ⟨ao, cap, xs, rfl, h1, h2⟩ := h.flat
  obtain ⟨_, _, e, h3, _⟩ := h
  cases e
  refine ⟨ao, cap, by rw [foOf_len], ⟨by rw [foOf_len]; exact h3.1, by rw [foOf_len]; omega⟩, fun hp => ?_⟩
  obtain ⟨b, o, e, h4⟩ := h2 (by rw [foOf_len] at hp; exact hp)
  exact ⟨b, o, e, (foc_lic h1).fom h4⟩
def RoR {α : Type} (sz : Nat) (R : Heap → α → List Value → Prop) (F : Heap) (x : α × Rose α) (cells : List Value) : Prop := ∃ cs v, cells = cs ++ [v] ∧ cs.length + 1 = sz ∧ R F x.1 cs ∧ TrS F sz R v x.2
def roseOf {α : Type} : List (α × Rose α) → Rose α
  | [] => .nil
  | x :: r => .cons x.1 x.2 (roseOf r)
theorem roseOf_len {α : Type} : ∀ l : List (α × Rose α), (roseOf l).len = l.length
  | [] => rfl
  | x :: r => by show (roseOf r).len + 1 = r.length + 1; rw [roseOf_len r]
theorem trm_lic {α : Type} {sz : Nat} {R : Heap → α → List Value → Prop} {F : Heap} {b : Nat} : ∀ {l : List (α × Rose α)} {xs : List Value} {off : Nat}, LiC F sz (RoR sz R) xs l → Cels F b off xs → TrM F sz R (roseOf l) b off
  | [], xs, off, _, _ => trivial
  | x :: r, xs, off, ⟨cs, ys, h1, h2, ⟨c0, v, h3, h4, h5, ao, cap, h6, h7, h8⟩, h9⟩, hc => by
    subst h1; subst h3; subst h6
    refine ⟨⟨c0, ao, cap, h5, h4, fun j u hj => hc j u ?_, h7, h8⟩, trm_lic h9 fun j u hj => ?_⟩
    · rw [List.getElem?_append_left (List.getElem?_eq_some_iff.1 hj).1]; exact hj
    · have := hc (sz + j) u (by rw [List.getElem?_append_right (by omega), show sz + j - (c0 ++ [Value.slice ao x.2.len cap]).length = j by omega]; exact hj)
      rw [Nat.add_assoc]; exact this
theorem trs_lim {α : Type} {sz : Nat} {R : Heap → α → List Value → Prop} {F : Heap} {v : Value} {l : List (α × Rose α)} (h : LiM F sz (RoR sz R) v l) : TrS F sz R v (roseOf l) := by
  obtain ⟨ao, cap, xs, rfl, h1, h2⟩ := h.flat
  obtain ⟨_, _, e, h3, _⟩ := h
  cases e
  refine ⟨ao, cap, by rw [roseOf_len], ⟨by rw [roseOf_len]; exact h3.1, by rw [roseOf_len]; exact h3.2⟩, fun hp => ?_⟩
  obtain ⟨b, o, e, h4⟩ := h2 (by rw [roseOf_len] at hp; exact hp)
  exact ⟨b, o, e, trm_lic h1 h4⟩
end Go.De
