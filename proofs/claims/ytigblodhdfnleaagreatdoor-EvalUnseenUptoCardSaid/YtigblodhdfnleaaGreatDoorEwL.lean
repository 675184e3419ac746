/- Arguments that came in, opened as in XOp2, by a measure of one's own of what they read as (how much is in them), not by its size. Eval's arguments that came in, opened; how much is in them. -/
import Derived.Test.YtigblodhdfnleaaGreatDoorDeX
import Derived.Test.YtigblodhdfnleaaGreatDoorEwA
import Derived.OpenShut
import Derived.SizedLaws
import Derived.ChangeSame
import Derived.Test.YtigblodhdfnleaaGreatDoorEwJ
namespace Go.De
open Go Go.Wk Go.Un Go.ChangeShapes Go.WideShapes
set_option linter.unusedSimpArgs false
set_option linter.unusedVariables false

theorem weightsAll_mem' {H : Type} {P : Program} {e : TypeId} {d : DataW H} : ∀ {l : List (DataW H)}, d ∈ l → ∀ q ∈ d.weights P e, q ∈ DataW.weightsAll P e l
  | x :: l, hd, q, hq => by
    unfold DataW.weightsAll
    rcases List.mem_cons.1 hd with rfl | hd
    · exact List.mem_append_left _ hq
    · exact List.mem_append_right _ (weightsAll_mem' hd q hq)
/-- A measure that grows from the parts to the whole. -/
class Msr {H : Type} (μ : DataW H → Nat) : Prop where
  s : ∀ {d : DataW H} {es sp : List (DataW H)}, d ∈ es → μ d < μ (.slice es sp)
  a : ∀ {d : DataW H} {ps : List (DataW H)}, d ∈ ps → μ d < μ (.agg ps)
theorem open_listW {α : Type} [Inhabited α] {H : Type} {μ : DataW H → Nat} [hμ : Msr μ] {enc : TypeId × Value → H} {P : Program} {w : World} {spare : Nat → Bool} {held : Bool} {t e : TypeId} (cell : α → List Value) {sz : Nat} (good : α → Prop)
    (ht : P.underlying t = some (.slice e)) (hc : P.cellsOf e = sz) (h0 : 0 < sz) (hlen : ∀ x, (cell x).length = sz)
    {cs0 : List Value} {d : DataW H} {p : List MemPlace} {fuel : Nat} (h : DataW.trod enc P w 0 spare held fuel t cs0 = some (d, p)) (hw : (d.weights P t).all (· ≤ reachBytes) = true)
    (hel : ∀ n cs d' p, DataW.trod enc P w 0 spare held n e cs = some (d', p) → μ d' < μ d → (d'.weights P e).all (· ≤ reachBytes) = true → ∃ x, cs = cell x ∧ good x) :
    ∃ (a : Option Addr) (len cap : Nat) (l : List α), cs0 = [.slice a len cap] ∧ l.length = len ∧ len ≤ maxLen ∧ (∀ x ∈ l, good x) ∧ SlC (heapOf w) (.slice a len cap) len (l.flatMap cell) ∧ len * P.bytesOf e ≤ reachBytes := by
  rcases Go.Deep.open_slice ht h with ⟨rfl, _⟩ | ⟨x, len, cap, m, n, D, Pl, rfl, -, hl, hm, hmm, hx, hi⟩
  · exact ⟨none, 0, 0, [], rfl, rfl, Nat.zero_le _, by simp, ⟨none, 0, rfl, Nat.le_refl _, fun h => absurd h (by omega)⟩, by rw [Nat.zero_mul]; exact Nat.zero_le _⟩
  · obtain ⟨hd, -⟩ := Prod.mk.inj hx
    have hlm : len ≤ m := by rw [hmm]; split <;> omega
    have hwe : ∀ q, q ∈ (len + (m - len)) * P.bytesOf e :: (DataW.weightsAll P e ((List.range len).map D) ++ DataW.weightsAll P e ((List.range (m - len)).map fun j => D (len + j))) → q ≤ reachBytes := fun q hq => by
      have h1 := List.all_eq_true.1 hw q (by rw [hd]; simp only [DataW.weights, ht, List.length_map, List.length_range]; exact hq)
      simpa using h1
    have hch : ∀ i, i < len → ∃ y, (∀ j v, (cell y)[j]? = some v → w.cell? ((x.add (i * sz)).add j) = some v) ∧ good y := fun i hi' => by
      obtain ⟨cs, h1, h2⟩ := hi i (by omega)
      rw [hc] at h1
      obtain ⟨y, rfl, hy⟩ := hel _ _ _ _ h2 (by
        rw [hd]
        exact hμ.s (List.mem_map.2 ⟨i, List.mem_range.2 hi', rfl⟩)) (by
        rw [List.all_eq_true]
        intro q hq
        have := hwe q (List.mem_cons_of_mem _ (List.mem_append_left _ (weightsAll_mem' (List.mem_map.2 ⟨i, List.mem_range.2 hi', rfl⟩) q hq)))
        simpa using this)
      refine ⟨y, fun j v hj => ?_, hy⟩
      obtain ⟨_, _, h3⟩ := World.cells?_some h1
      have hj2 := (List.getElem?_eq_some_iff.1 hj).1
      rw [hlen] at hj2
      exact (h3 j hj2).trans hj
    obtain ⟨X, hX⟩ := Go.Deep.choose_lt hch
    have hget : ∀ i y, ((List.range len).map X)[i]? = some y → i < len ∧ y = X i := fun i y hy => by
      have := (List.getElem?_eq_some_iff.1 hy).1
      simp only [List.length_map, List.length_range] at this
      rw [List.getElem?_map, List.getElem?_range this] at hy
      exact ⟨this, by simpa using hy.symm⟩
    refine ⟨some x, len, cap, (List.range len).map X, rfl, by simp, Nat.le_trans hl hm, fun y hy => ?_, ⟨some x, cap, rfl, hl, fun hk => ?_⟩, ?_⟩
    · obtain ⟨i, hi1, rfl⟩ := List.mem_map.1 hy
      exact (hX i (List.mem_range.1 hi1)).2
    · obtain ⟨b, off, spot⟩ := x
      have hsp : spot = none := by
        have hp : 0 < (cell (X 0)).length := by rw [hlen]; exact h0
        have := (hX 0 hk).1 0 _ (List.getElem?_eq_getElem hp)
        simpa [Addr.add] using World.cell?_spot this
      subst hsp
      refine ⟨b, off, rfl, cels_flat hlen _ _ fun i y hy => ?_⟩
      obtain ⟨hi1, rfl⟩ := hget i y hy
      intro j v hv
      have := (cel_of ((hX i hi1).1 j v hv)).2
      rw [add_none, add_none] at this
      exact this
    · have h1 := hwe _ (List.mem_cons_self ..)
      exact Nat.le_trans (Nat.mul_le_mul_right _ (by omega)) h1

section
variable {H : Type} (μ : DataW H → Nat) (enc : TypeId × Value → H) (P : Program) (w : World) (spare : Nat → Bool) (held : Bool)
/-- What a datum that came in says of its cells. -/
def Opn (m : Nat) (t : TypeId) (R : List Value → Prop) : Prop := ∀ (fuel : Nat) (cs : List Value) (d : DataW H) (p : List MemPlace), μ d < m → DataW.trod enc P w 0 spare held fuel t cs = some (d, p) → (d.weights P t).all (· ≤ reachBytes) = true → R cs
inductive OpnAll (m : Nat) : List Field → List (List Value → Prop) → Prop
  | nil : OpnAll m [] []
  | cons {f : Field} {fs : List Field} {R : List Value → Prop} {Rs : List (List Value → Prop)} (h : Opn μ enc P w spare held m f.type R) (r : OpnAll m fs Rs) : OpnAll m (f :: fs) (R :: Rs)
end
/-- Cells one behind the other. -/
def Parts : List (List Value → Prop) → List Value → Prop
  | [], cs => cs = []
  | R :: Rs, cs => ∃ a b, cs = a ++ b ∧ R a ∧ Parts Rs b
def consec (P : Program) : Nat → List Field → Nat → Bool
  | o, [], tot => o == tot
  | o, f :: r, tot => f.offset == o && consec P (o + P.cellsOf f.type) r tot
section
variable {H : Type} {μ : DataW H → Nat} [hμ : Msr μ] {enc : TypeId × Value → H} {P : Program} {w : World} {spare : Nat → Bool} {held : Bool} {m : Nat} {t : TypeId}
omit hμ in
theorem Opn.imp {R R' : List Value → Prop} (h : Opn μ enc P w spare held m t R) (hi : ∀ cs, R cs → R' cs) : Opn μ enc P w spare held m t R' := fun f cs d p h1 h2 h3 => hi _ (h f cs d p h1 h2 h3)
omit hμ in
theorem Opn.lt {R : List Value → Prop} {m' : Nat} (h : Opn μ enc P w spare held m t R) (hm : m' ≤ m) : Opn μ enc P w spare held m' t R := fun f cs d p h1 h2 h3 => h f cs d p (Nat.lt_of_lt_of_le h1 hm) h2 h3
omit hμ in
omit hμ in
theorem opn_int {k : IntKind} (ht : P.underlying t = some (.int k)) : Opn μ enc P w spare held m t (fun cs => ∃ n, cs = [.int k n] ∧ (Lit.int k n).wf = true) := fun f cs d p _ h _ => by
  obtain ⟨n, h1, _, h2⟩ := DataW.trod_int ht h
  exact ⟨n, h1, h2⟩
omit hμ in
theorem opn_string (ht : P.underlying t = some .string) : Opn μ enc P w spare held m t (fun cs => ∃ s : List UInt8, cs = [.string (bs s)] ∧ s.length ≤ 140737488355328) := fun f cs d p _ h hw => by
  obtain ⟨s, h1, h2, _⟩ := DataW.trod_string ht h
  obtain ⟨rfl, -⟩ := Prod.mk.inj h2
  refine ⟨s.data.toList, h1, ?_⟩
  have hr : reachBytes ≤ 140737488355328 := by decide
  have h3 := List.all_eq_true.1 hw s.data.toList.length (by simp [DataW.weights])
  have h4 : s.data.toList.length ≤ reachBytes := by simpa using h3
  omega
theorem weightsEach_mem' {ts : List TypeId} {ds : List (DataW H)} : ∀ {i : Nat} {u : TypeId} {d : DataW H}, ts[i]? = some u → ds[i]? = some d → ∀ q ∈ d.weights P u, q ∈ DataW.weightsEach P ts ds := by
  induction ts generalizing ds with
  | nil => intro i u d h; simp at h
  | cons x ts ih =>
    intro i u d h1 h2 q hq
    cases ds with
    | nil => simp at h2
    | cons y ds =>
      unfold DataW.weightsEach
      cases i with
      | zero => cases h1; cases h2; exact List.mem_append_left _ hq
      | succ i => exact List.mem_append_right _ (ih h1 h2 q hq)
omit hμ in
theorem parts_of {cs : List Value} : ∀ (fs : List Field) (Rs : List (List Value → Prop)) (o : Nat), OpnAll μ enc P w spare held m fs Rs → consec P o fs cs.length = true → o ≤ cs.length →
    (∀ (i : Nat) (f : Field), fs[i]? = some f → ∃ n d p, μ d < m ∧ DataW.trod enc P w 0 spare held n f.type ((cs.drop f.offset).take (P.cellsOf f.type)) = some (d, p) ∧ (d.weights P f.type).all (· ≤ reachBytes) = true) → Parts Rs (cs.drop o)
  | [], [], o, _, hc, ho, _ => by
    have h1 : o = cs.length := by simpa [consec] using hc
    subst h1
    exact List.drop_length ..
  | [], _ :: _, o, h, _, _, _ => nomatch h
  | _ :: _, [], o, h, _, _, _ => nomatch h
  | f :: fs, R :: Rs, o, .cons hh hr, hc, ho, hf => by
    unfold consec at hc
    rw [Bool.and_eq_true] at hc
    obtain ⟨hc1, hc2⟩ := hc
    have hco : f.offset = o := by simpa using hc1
    obtain ⟨n, d, p, h1, h2, h3⟩ := hf 0 f rfl
    have hle : o + P.cellsOf f.type ≤ cs.length := by
      have : ∀ (fs : List Field) (o tot : Nat), consec P o fs tot = true → o ≤ tot := by
        intro fs
        induction fs with
        | nil => intro o tot h; have : o = tot := by simpa [consec] using h
                 omega
        | cons f fs ih => intro o tot h; unfold consec at h; rw [Bool.and_eq_true] at h; have := ih _ _ h.2; omega
      exact this _ _ _ hc2
    refine ⟨(cs.drop o).take (P.cellsOf f.type), cs.drop (o + P.cellsOf f.type), ?_, ?_, parts_of fs Rs _ hr hc2 hle fun i f' hf' => hf (i + 1) f' hf'⟩
    · rw [← List.drop_drop, List.take_append_drop]
    · rw [← hco]; exact hh _ _ _ _ h1 h2 h3
theorem opn_struct {fs : Array Field} {Rs : List (List Value → Prop)} (ht : P.underlying t = some (.struct fs)) (hc : consec P 0 fs.toList (P.cellsOf t) = true) (hf : OpnAll μ enc P w spare held m fs.toList Rs) : Opn μ enc P w spare held (m + 1) t (Parts Rs) := fun fuel cs d p hd h hw => by
  obtain ⟨xs, n, _, hx, hl, hlen, hg⟩ := DataW.trod_struct ht h
  obtain ⟨rfl, -⟩ := Prod.mk.inj hx
  rw [← hl] at hc
  have := parts_of (cs := cs) fs.toList Rs 0 hf hc (Nat.zero_le _) fun i f hi => by
    have hi' : fs[i]? = some f := by simpa using hi
    have h1 := hg i f hi'
    have hlt : i < xs.length := by rw [hlen]; exact (Array.getElem?_eq_some_iff.1 hi').1
    rw [List.getElem?_eq_getElem hlt] at h1
    have hmem : xs[i].1 ∈ xs.map (·.1) := List.mem_map.2 ⟨xs[i], List.getElem_mem hlt, rfl⟩
    refine ⟨n, xs[i].1, xs[i].2, ?_, h1, ?_⟩
    · have := hμ.a hmem
      omega
    · rw [List.all_eq_true] at hw ⊢
      intro q hq
      refine hw q ?_
      simp only [DataW.weights, ht]
      exact weightsEach_mem' (i := i) (by rw [List.getElem?_map, hi]; rfl) (by rw [List.getElem?_map, List.getElem?_eq_getElem hlt]; rfl) q hq
  simpa using this
theorem lic_flat {α : Type} {F : Heap} {sz : Nat} {R : Heap → α → List Value → Prop} : ∀ {l : List {cs : List Value // cs.length = sz}}, (∀ x ∈ l, ∃ y, R F y x.1) → ∃ ys : List α, ys.length = l.length ∧ LiC F sz R (l.flatMap Subtype.val) ys
  | [], _ => ⟨[], rfl, rfl⟩
  | x :: l, h => by
    obtain ⟨y, hy⟩ := h x (List.mem_cons_self ..)
    obtain ⟨ys, h1, h2⟩ := lic_flat fun z hz => h z (List.mem_cons_of_mem _ hz)
    exact ⟨y :: ys, by simp [h1], x.1, _, rfl, x.2, hy, h2⟩
theorem lim_slc {α : Type} {F : Heap} {sz n : Nat} {R : Heap → α → List Value → Prop} {v : Value} {xs : List Value} {l : List α} (h : SlC F v n xs) (hl : LiC F sz R xs l) (hn : l.length = n) (hm : n ≤ 140737488355328) : LiM F sz R v l := by
  obtain ⟨ao, cap, rfl, h1, h2⟩ := h
  subst hn
  refine ⟨ao, cap, rfl, ⟨h1, hm⟩, fun hp => ?_⟩
  obtain ⟨b, o, e, h3⟩ := h2 hp
  refine ⟨b, o, e, fun k x hx => ?_⟩
  obtain ⟨cs, h5, h6, h7⟩ := LiC.get hl hx
  exact ⟨cs, fun j u hj => by rw [Nat.add_assoc]; exact h3 _ u (h5 j u hj), h6, h7⟩
instance {sz : Nat} : Inhabited {cs : List Value // cs.length = sz} := ⟨⟨List.replicate sz .nilIface, by simp⟩⟩
theorem opn_slice {α : Type} {e : TypeId} {sz : Nat} {R : Heap → α → List Value → Prop} (ht : P.underlying t = some (.slice e)) (hc : P.cellsOf e = sz) (h0 : 0 < sz) (hb : Nat.ble 1 (P.bytesOf e) = true) (he : Opn μ enc P w spare held m e (fun cs => cs.length = sz ∧ ∃ x, R (heapOf w) x cs)) :
    Opn μ enc P w spare held m t (fun cs => ∃ v l, cs = [v] ∧ LiM (heapOf w) sz R v l) := fun fuel cs d p hd h hw => by
  obtain ⟨a, len, cap, l, e1, h1, h2, h3, h4, h5⟩ := open_listW (μ := μ) (α := {cs : List Value // cs.length = sz}) Subtype.val (fun x => ∃ y, R (heapOf w) y x.1) ht hc h0 (fun x => x.2) h hw fun n cs d' p hh hs hw' => by
    obtain ⟨hl, x, hx⟩ := he n cs d' p (by omega) hh hw'
    exact ⟨⟨cs, hl⟩, rfl, x, hx⟩
  obtain ⟨ys, h6, h7⟩ := lic_flat h3
  have hr : reachBytes ≤ 140737488355328 := by decide
  have h8 : len ≤ len * P.bytesOf e := Nat.le_mul_of_pos_right _ (Nat.le_of_ble_eq_true hb)
  exact ⟨_, ys, e1, lim_slc h4 h7 (by rw [h6, h1]) (by omega)⟩
end
end Go.De
namespace Go.Proofs.YtigblodhdfnleaaGreatDoor
open Go Go.Wk Go.Un Go.De Go.Num Go.ChangeShapes Go.WideShapes Go.ChangeAt Go.RowKit
set_option linter.unusedSimpArgs false
set_option linter.unusedVariables false

theorem part_le {H : Type} {d : DataW H} : ∀ {l : List (DataW H)}, d ∈ l → Rows.uptoBulk d ≤ Rows.uptoBulkAll l
  | x :: r, h => by
    simp only [Rows.uptoBulkAll]
    rcases List.mem_cons.1 h with e | e
    · subst e; omega
    · have := part_le e; omega
instance {H : Type} : Msr (Rows.uptoBulk (H := H)) := ⟨fun h => by have := part_le h; simp only [Rows.uptoBulk]; omega, fun h => by have := part_le h; simp only [Rows.uptoBulk]; omega⟩
theorem lim_and {α : Type} {F : Heap} {sz : Nat} {R : Heap → α → List Value → Prop} {Q : α → Prop} {v : Value} {l : List α} (h : LiM F sz (fun F x cs => R F x cs ∧ Q x) v l) : LiM F sz R v l ∧ ∀ x ∈ l, Q x := by
  obtain ⟨ao, cap, rfl, hc, hpos⟩ := h
  refine ⟨⟨ao, cap, rfl, hc, fun hp => ?_⟩, fun x hx => ?_⟩
  · obtain ⟨b, o, e, h⟩ := hpos hp
    refine ⟨b, o, e, fun k x hx => ?_⟩
    obtain ⟨cs, h1, h2, h3⟩ := h k x hx
    exact ⟨cs, h1, h2, h3.1⟩
  · obtain ⟨k, hk, rfl⟩ := List.mem_iff_getElem.1 hx
    obtain ⟨b, o, e, h⟩ := hpos (by omega)
    obtain ⟨cs, h1, h2, h3⟩ := h k _ (List.getElem?_eq_getElem hk)
    exact h3.2
theorem in_of {n : Int} (h : (Lit.int .i64 n).wf = true) : in64 n := bounds_i64 h
theorem u8_nat {n : Int} (h : (Lit.int .u8 n).wf = true) : ∃ k : Nat, n = (k : Int) := by
  simp only [Lit.wf, Bool.and_eq_true, decide_eq_true_eq] at h
  have : (IntKind.u8).min = 0 := by decide
  exact ⟨n.toNat, by omega⟩
def Nv (m : Nat) (x : Vv) : Prop := NVv x ∧ dpR x.2 + 1 ≤ (m : Int)
theorem nv_rose {m : Nat} : ∀ {l : List Vv}, (∀ x ∈ l, Nv m x) → NV (roseOf l) ∧ dpR (roseOf l) ≤ (m : Int)
  | [], _ => ⟨trivial, by show (0 : Int) ≤ _; omega⟩
  | x :: r, h => by
    obtain ⟨h1, h2⟩ := h x (List.mem_cons_self ..)
    obtain ⟨h3, h4⟩ := nv_rose fun y hy => h y (List.mem_cons_of_mem _ hy)
    exact ⟨⟨h1.1, h1.2, h3⟩, by show max (dpR x.2 + 1) (dpR (roseOf r)) ≤ _; omega⟩
def Ne (m : Nat) (x : Ex) : Prop := NEe x ∧ dpE x.2 + 1 ≤ (m : Int)
theorem ne_rose {m : Nat} : ∀ {l : List Ex}, (∀ x ∈ l, Ne m x) → NE (roseOf l) ∧ dpE (roseOf l) ≤ (m : Int)
  | [], _ => ⟨trivial, by show (0 : Int) ≤ _; omega⟩
  | x :: r, h => by
    obtain ⟨h1, h2⟩ := h x (List.mem_cons_self ..)
    obtain ⟨h3, h4⟩ := ne_rose fun y hy => h y (List.mem_cons_of_mem _ hy)
    exact ⟨⟨h1.1, h1.2, h3⟩, by show max (dpE x.2 + 1) (dpE (roseOf r)) ≤ _; omega⟩
section
variable {H : Type} {enc : TypeId × Value → H} {w : World} {spare : Nat → Bool} {held : Bool}
theorem o_str (m : Nat) : Opn (Rows.uptoBulk (H := H)) enc Tryz.prog w spare held m 9 (fun cs => ∃ s : List UInt8, cs = [.string (bs s)] ∧ s.length ≤ 140737488355328) := opn_string Tryz.underlying9
theorem o_int (m : Nat) : Opn (Rows.uptoBulk (H := H)) enc Tryz.prog w spare held m 3 (fun cs => ∃ n, cs = [.int .i64 n] ∧ (Lit.int .i64 n).wf = true) := opn_int Tryz.underlying3
theorem o_i64 (m : Nat) : Opn (Rows.uptoBulk (H := H)) enc Tryz.prog w spare held m 2 (fun cs => ∃ n, cs = [.int .i64 n] ∧ (Lit.int .i64 n).wf = true) := opn_int Tryz.underlying2
theorem o_u8 (m : Nat) : Opn (Rows.uptoBulk (H := H)) enc Tryz.prog w spare held m 5 (fun cs => ∃ n, cs = [.int .u8 n] ∧ (Lit.int .u8 n).wf = true) := opn_int Tryz.underlying5
theorem o_pos (m : Nat) : Opn (Rows.uptoBulk (H := H)) enc Tryz.prog w spare held m 31 (fun cs => ∃ l c, cs = [.int .i64 l, .int .i64 c]) :=
  ((opn_struct (m := m) Tryz.underlying31 (by kernel_rfl) (.cons (o_int m) (.cons (o_int m) .nil))).lt (Nat.le_succ m)).imp fun cs ⟨a, b, e, ⟨l, h1, _⟩, a2, b2, e2, ⟨c, h2, _⟩, e3⟩ => by
    subst e; subst h1; subst e2; subst h2; subst e3
    exact ⟨l, c, rfl⟩
theorem o_val : ∀ m, Opn (Rows.uptoBulk (H := H)) enc Tryz.prog w spare held m 26 (fun cs => cs.length = 4 ∧ ∃ x, RoR 4 VhR (heapOf w) x cs ∧ Nv m x)
  | 0 => fun _ _ _ _ h => absurd h (Nat.not_lt_zero _)
  | m + 1 => (opn_struct Tryz.underlying26 (by kernel_rfl) (.cons (o_u8 m) (.cons (o_i64 m) (.cons (o_str m) (.cons (opn_slice (R := fun F x cs => RoR 4 VhR F x cs ∧ Nv m x) Tryz.underlying24 (by kernel_rfl) (by decide) (by kernel_rfl) (o_val m)) .nil))))).imp fun cs ⟨a, b, e, ⟨k, h1, hk⟩, a2, b2, e2, ⟨n, h2, hn⟩, a3, b3, e3, ⟨s, h3, hs⟩, a4, b4, e4, ⟨v, l, h4, h5⟩, e5⟩ => by
    obtain ⟨k, rfl⟩ := u8_nat hk
    subst e; subst h1; subst e2; subst h2; subst e3; subst h3; subst e4; subst h4; subst e5
    obtain ⟨h6, h7⟩ := lim_and h5
    obtain ⟨h8, h9⟩ := nv_rose h7
    exact ⟨rfl, (⟨k, n, s⟩, roseOf l), ⟨_, v, rfl, rfl, ⟨rfl, hs⟩, trs_lim h6⟩, ⟨⟨in_of hn, hs⟩, h8⟩, by show dpR (roseOf l) + 1 ≤ _; omega⟩
theorem o_expr : ∀ m, m ≤ 2000000 → Opn (Rows.uptoBulk (H := H)) enc Tryz.prog w spare held m 34 (fun cs => cs.length = 9 ∧ ∃ x, RoR 9 EhR (heapOf w) x cs ∧ Ne m x)
  | 0, _ => fun _ _ _ _ h => absurd h (Nat.not_lt_zero _)
  | m + 1, hm => (opn_struct Tryz.underlying34 (by kernel_rfl) (.cons (o_u8 m) (.cons (o_pos m) (.cons (o_str m) (.cons (o_val m) (.cons (opn_slice (R := fun F x cs => RoR 9 EhR F x cs ∧ Ne m x) Tryz.underlying32 (by kernel_rfl) (by decide) (by kernel_rfl) (o_expr m (by omega))) .nil)))))).imp fun cs ⟨a, b, e, ⟨k, h1, hk⟩, a2, b2, e2, ⟨l, c, h2⟩, a3, b3, e3, ⟨s, h3, hs⟩, a4, b4, e4, ⟨_, ⟨vh, vl⟩, ⟨c0, v0, h4, h4', hvh, hvl⟩, hnv⟩, a5, b5, e5, ⟨v, el, h5, h5'⟩, e6⟩ => by
    obtain ⟨k, rfl⟩ := u8_nat hk
    obtain ⟨h6, h7⟩ := hvh
    subst e; subst h1; subst e2; subst h2; subst e3; subst h3; subst h6; subst e4; subst h4; subst e5; subst h5; subst e6
    obtain ⟨h8, h9⟩ := lim_and h5'
    obtain ⟨g1, g2⟩ := ne_rose h9
    have g3 : dpR vl + 1 ≤ (m : Int) := hnv.2
    exact ⟨rfl, (⟨k, l, c, s, vh, vl⟩, roseOf el), ⟨_, v, rfl, rfl, ⟨v0, rfl, hvl⟩, trs_lim h8⟩, ⟨⟨hnv.1, by show dpR vl ≤ _; omega, hs⟩, g1⟩, by show dpE (roseOf el) + 1 ≤ _; omega⟩
def Nb (x : Bd) : Prop := NVv x.2 ∧ dpR x.2.2 ≤ 2000000
theorem o_var (m : Nat) (hm : m ≤ 2000000) : Opn (Rows.uptoBulk (H := H)) enc Tryz.prog w spare held m 45 (fun cs => cs.length = 5 ∧ ∃ x, BdR (heapOf w) x cs ∧ Nb x) :=
  ((opn_struct (m := m) Tryz.underlying45 (by kernel_rfl) (.cons (o_str m) (.cons (o_val m) .nil))).lt (Nat.le_succ m)).imp fun cs ⟨a, b, e, ⟨s, h1, _⟩, a2, b2, e2, ⟨_, ⟨vh, vl⟩, hR, hnv⟩, e3⟩ => by
    have hv := ror_vac hR
    obtain ⟨a9, c9, e9, -, -⟩ := vac_slc hv
    subst e; subst h1; subst e2; subst e3
    have g3 : dpR vl + 1 ≤ (m : Int) := hnv.2
    refine ⟨by rw [e9]; rfl, (s, vh, vl), ⟨a2, by simp, hv⟩, hnv.1, by show dpR vl ≤ _; omega⟩
theorem o_vars (m : Nat) (hm : m ≤ 2000000) : Opn (Rows.uptoBulk (H := H)) enc Tryz.prog w spare held m 43 (fun cs => ∃ v l, cs = [v] ∧ LiM (heapOf w) 5 BdR v l ∧ NB l) :=
  (opn_slice (R := fun F x cs => BdR F x cs ∧ Nb x) Tryz.underlying43 (by kernel_rfl) (by decide) (by kernel_rfl) (o_var m hm)).imp fun cs ⟨v, l, h, h2⟩ => ⟨v, l, h, (lim_and h2).1, (lim_and h2).2⟩
end
end Go.Proofs.YtigblodhdfnleaaGreatDoor
