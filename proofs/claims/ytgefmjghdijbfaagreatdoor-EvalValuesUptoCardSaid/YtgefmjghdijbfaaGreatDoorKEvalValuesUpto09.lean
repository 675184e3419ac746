/- Walks. -/
import Derived.Test.YtgefmjghdijbfaaGreatDoorQ10
import Derived.Test.YtgefmjghdijbfaaGreatDoorKEvalValuesUpto02
import Derived.Test.YtgefmjghdijbfaaGreatDoorKEvalValuesUpto07
import Derived.OpenShut
import Derived.SizedLaws
import Derived.ChangeSame
import Derived.Test.YtgefmjghdijbfaaGreatDoorQ19
import Derived.Test.YtgefmjghdijbfaaGreatDoorKEvalValuesUpto08
import Derived.Test.YtgefmjghdijbfaaGreatDoorRows
import Derived.WalkKit
import Derived.ProofKit
import Derived.Stop.Joined
import Derived.ChangeOld
import Derived.SevenTiedAt
import Derived.Test.YtgefmjghdijbfaaGreatDoorKEvalValuesUpto01
import Derived.Test.YtgefmjghdijbfaaGreatDoorKEvalValuesUpto04
import Derived.Test.YtgefmjghdijbfaaGreatDoorKEvalValuesUpto03
set_option maxHeartbeats 8000000
namespace Go.De
open Go Go.Wk Go.Un Go.ChangeShapes Go.WideShapes
set_option linter.unusedSimpArgs false
set_option linter.unusedVariables false
theorem weightsAll_mem' {H : Type} {P : Program} {e : TypeId} {d : DataW H} : ∀ {l : List (DataW H)}, d ∈ l → ∀ q ∈ d.weights P e, q ∈ DataW.weightsAll P e l
 | x :: l, hd, q, hq => by
  unfold DataW.weightsAll
  rcases List.mem_cons.1 hd with rfl | hd
  ·exact List.mem_append_left _ hq
  ·exact List.mem_append_right _ (weightsAll_mem' hd q hq)
theorem open_listW {α : Type} [Inhabited α] {H : Type} {μ : DataW H → Nat} [hμ : Msr μ] {enc : TypeId × Value → H} {P : Program} {w : World} {spare : Nat → Bool} {held : Bool} {t e : TypeId} (cell : α → List Value) {sz : Nat} (good : α → Prop)
  (ht : P.underlying t = some (.slice e)) (hc : P.cellsOf e = sz) (h0 : 0 < sz) (hlen : ∀ x, (cell x).length = sz)
  {cs0 : List Value} {d : DataW H} {p : List MemPlace} {fuel : Nat} (h : DataW.trod enc P w 0 spare held fuel t cs0 = some (d, p)) (hw : (d.weights P t).all (· ≤ reachBytes) = true)
  (hel : ∀ n cs d' p, DataW.trod enc P w 0 spare held n e cs = some (d', p) → μ d' < μ d → (d'.weights P e).all (· ≤ reachBytes) = true → ∃ x, cs = cell x ∧ good x) :
  ∃ (a : Option Addr) (len cap : Nat) (l : List α), cs0 = [.slice a len cap] ∧ l.length = len ∧ len ≤ maxLen ∧ (∀ x ∈ l, good x) ∧ SlC (heapOf w) (.slice a len cap) len (l.flatMap cell) ∧ len * P.bytesOf e ≤ reachBytes := by
 rcases Go.Deep.open_slice ht h with ⟨rfl, _⟩ | ⟨x, len, cap, m, n, D, Pl, rfl, -, hl, hm, hmm, hx, hi⟩
 ·exact ⟨none, 0, 0, [], rfl, rfl, Nat.zero_le _, by simp, ⟨none, 0, rfl, Nat.le_refl _, fun h => absurd h (by omega)⟩, by rw [Nat.zero_mul]; exact Nat.zero_le _⟩
 ·obtain ⟨hd, -⟩ := Prod.mk.inj hx
  have hlm : len ≤ m := by rw [hmm]; split <;> omega
  have hwe : ∀ q, q ∈ (len + (m - len)) * P.bytesOf e :: (DataW.weightsAll P e ((List.range len).map D) ++ DataW.weightsAll P e ((List.range (m - len)).map fun j => D (len + j))) → q ≤ reachBytes := fun q hq => by
   have h1 := List.all_eq_true.1 hw q (by rw [hd]; simp only [DataW.weights, ht, List.length_map, List.length_range]; exact hq)
   simpa using h1
  have hch : ∀ i, i < len → ∃ y, (∀ j v, (cell y)[j]? = some v → w.cell? ((x.add (i * sz)).add j) = some v) ∧ good y := fun i hi' => by
   obtain ⟨cs, h1, h2⟩ := hi i (by omega)
   rw [hc] at h1
   obtain ⟨y, rfl, hy⟩ := hel _ _ _ _ h2 (by
    rw [hd]
    exact hμ.s (List.mem_map.2 ⟨i, List.mem_range.2 hi', rfl⟩)) (by
    rw [List.all_eq_true]
    intro q hq
    have := hwe q (List.mem_cons_of_mem _ (List.mem_append_left _ (weightsAll_mem' (List.mem_map.2 ⟨i, List.mem_range.2 hi', rfl⟩) q hq)))
    simpa using this)
   refine ⟨y, fun j v hj => ?_, hy⟩
   obtain ⟨_, _, h3⟩ := World.cells?_some h1
   have hj2 := (List.getElem?_eq_some_iff.1 hj).1
   rw [hlen] at hj2
   exact (h3 j hj2).trans hj
  obtain ⟨X, hX⟩ := Go.Deep.choose_lt hch
  have hget : ∀ i y, ((List.range len).map X)[i]? = some y → i < len ∧ y = X i := fun i y hy => by
   have := (List.getElem?_eq_some_iff.1 hy).1
   simp only [List.length_map, List.length_range] at this
   rw [List.getElem?_map, List.getElem?_range this] at hy
   exact ⟨this, by simpa using hy.symm⟩
  refine ⟨some x, len, cap, (List.range len).map X, rfl, by simp, Nat.le_trans hl hm, fun y hy => ?_, ⟨some x, cap, rfl, hl, fun hk => ?_⟩, ?_⟩
  ·obtain ⟨i, hi1, rfl⟩ := List.mem_map.1 hy
   exact (hX i (List.mem_range.1 hi1)).2
  ·obtain ⟨b, off, spot⟩ := x
   have hsp : spot = none := by
    have hp : 0 < (cell (X 0)).length := by rw [hlen]; exact h0
    have := (hX 0 hk).1 0 _ (List.getElem?_eq_getElem hp)
    simpa [Addr.add] using World.cell?_spot this
   subst hsp
   refine ⟨b, off, rfl, cels_flat hlen _ _ fun i y hy => ?_⟩
   obtain ⟨hi1, rfl⟩ := hget i y hy
   intro j v hv
   have := (cel_of ((hX i hi1).1 j v hv)).2
   rw [add_none, add_none] at this
   exact this
  ·have h1 := hwe _ (List.mem_cons_self ..)
   exact Nat.le_trans (Nat.mul_le_mul_right _ (by omega)) h1
def Parts : List (List Value → Prop) → List Value → Prop
 | [], cs => cs = []
 | R :: Rs, cs => ∃ a b, cs = a ++ b ∧ R a ∧ Parts Rs b
def consec (P : Program) : Nat → List Field → Nat → Bool
 | o, [], tot => o == tot
 | o, f :: r, tot => f.offset == o && consec P (o + P.cellsOf f.type) r tot
section
variable {H : Type} {μ : DataW H → Nat} [hμ : Msr μ] {enc : TypeId × Value → H} {P : Program} {w : World} {spare : Nat → Bool} {held : Bool} {m : Nat} {t : TypeId}
omit hμ in
theorem Opn.imp {R R' : List Value → Prop} (h : Opn μ enc P w spare held m t R) (hi : ∀ cs, R cs → R' cs) : Opn μ enc P w spare held m t R' := fun f cs d p h1 h2 h3 => hi _ (h f cs d p h1 h2 h3)
omit hμ in
omit hμ in
theorem opn_bool (ht : P.underlying t = some .bool) : Opn μ enc P w spare held m t (fun cs => ∃ b, cs = [.bool b]) := fun f cs d p _ h _ => by
 obtain ⟨b, h1, _⟩ := DataW.trod_bool ht h
 exact ⟨b, h1⟩
omit hμ in
theorem opn_int {k : IntKind} (ht : P.underlying t = some (.int k)) : Opn μ enc P w spare held m t (fun cs => ∃ n, cs = [.int k n] ∧ (Lit.int k n).wf = true) := fun f cs d p _ h _ => by
 obtain ⟨n, h1, _, h2⟩ := DataW.trod_int ht h
 exact ⟨n, h1, h2⟩
omit hμ in
theorem opn_string (ht : P.underlying t = some .string) : Opn μ enc P w spare held m t (fun cs => ∃ s : List UInt8, cs = [.string (bs s)] ∧ s.length ≤ 140737488355328) := fun f cs d p _ h hw => by
 obtain ⟨s, h1, h2, _⟩ := DataW.trod_string ht h
 obtain ⟨rfl, -⟩ := Prod.mk.inj h2
 refine ⟨s.data.toList, h1, ?_⟩
 have hr : reachBytes ≤ 140737488355328 := by decide
 have h3 := List.all_eq_true.1 hw s.data.toList.length (by simp [DataW.weights])
 have h4 : s.data.toList.length ≤ reachBytes := by simpa using h3
 omega
theorem weightsEach_mem' {ts : List TypeId} {ds : List (DataW H)} : ∀ {i : Nat} {u : TypeId} {d : DataW H}, ts[i]? = some u → ds[i]? = some d → ∀ q ∈ d.weights P u, q ∈ DataW.weightsEach P ts ds := by
 induction ts generalizing ds with
 | nil => intro i u d h; simp at h
 | cons x ts ih =>
  intro i u d h1 h2 q hq
  cases ds with
  | nil => simp at h2
  | cons y ds =>
   unfold DataW.weightsEach
   cases i with
   | zero => cases h1; cases h2; exact List.mem_append_left _ hq
   | succ i => exact List.mem_append_right _ (ih h1 h2 q hq)
omit hμ in
theorem parts_of {cs : List Value} : ∀ (fs : List Field) (Rs : List (List Value → Prop)) (o : Nat), OpnAll μ enc P w spare held m fs Rs → consec P o fs cs.length = true → o ≤ cs.length →
    (∀ (i : Nat) (f : Field), fs[i]? = some f → ∃ n d p, μ d < m ∧ DataW.trod enc P w 0 spare held n f.type ((cs.drop f.offset).take (P.cellsOf f.type)) = some (d, p) ∧ (d.weights P f.type).all (· ≤ reachBytes) = true) → Parts Rs (cs.drop o)
  | [], [], o, _, hc, ho, _ => by
    have h1 : o = cs.length := by simpa [consec] using hc
    subst h1
    exact List.drop_length ..
  | [], _ :: _, o, h, _, _, _ => nomatch h
  | _ :: _, [], o, h, _, _, _ => nomatch h
  | f :: fs, R :: Rs, o, .cons hh hr, hc, ho, hf => by
    unfold consec at hc
    rw [Bool.and_eq_true] at hc
    obtain ⟨hc1, hc2⟩ := hc
    have hco : f.offset = o := by simpa using hc1
    obtain ⟨n, d, p, h1, h2, h3⟩ := hf 0 f rfl
    have hle : o + P.cellsOf f.type ≤ cs.length := by
      have : ∀ (fs : List Field) (o tot : Nat), consec P o fs tot = true → o ≤ tot := by
        intro fs
        induction fs with
        | nil => intro o tot h; have : o = tot := by simpa [consec] using h
                 omega
        | cons f fs ih => intro o tot h; unfold consec at h; rw [Bool.and_eq_true] at h; have := ih _ _ h.2; omega
      exact this _ _ _ hc2
    refine ⟨(cs.drop o).take (P.cellsOf f.type), cs.drop (o + P.cellsOf f.type), ?_, ?_, parts_of fs Rs _ hr hc2 hle fun i f' hf' => hf (i + 1) f' hf'⟩
    · rw [← List.drop_drop, List.take_append_drop]
    · rw [← hco]; exact hh _ _ _ _ h1 h2 h3
theorem opn_struct {fs : Array Field} {Rs : List (List Value → Prop)} (ht : P.underlying t = some (.struct fs)) (hc : consec P 0 fs.toList (P.cellsOf t) = true) (hf : OpnAll μ enc P w spare held m fs.toList Rs) : Opn μ enc P w spare held (m + 1) t (Parts Rs) := fun fuel cs d p hd h hw => by
 obtain ⟨xs, n, _, hx, hl, hlen, hg⟩ := DataW.trod_struct ht h
 obtain ⟨rfl, -⟩ := Prod.mk.inj hx
 rw [← hl] at hc
 have := parts_of (cs := cs) fs.toList Rs 0 hf hc (Nat.zero_le _) fun i f hi => by
  have hi' : fs[i]? = some f := by simpa using hi
  have h1 := hg i f hi'
  have hlt : i < xs.length := by rw [hlen]; exact (Array.getElem?_eq_some_iff.1 hi').1
  rw [List.getElem?_eq_getElem hlt] at h1
  have hmem : xs[i].1 ∈ xs.map (·.1) := List.mem_map.2 ⟨xs[i], List.getElem_mem hlt, rfl⟩
  refine ⟨n, xs[i].1, xs[i].2, ?_, h1, ?_⟩
  ·have := hμ.a hmem
   omega
  ·rw [List.all_eq_true] at hw ⊢
   intro q hq
   refine hw q ?_
   simp only [DataW.weights, ht]
   exact weightsEach_mem' (i := i) (by rw [List.getElem?_map, hi]; rfl) (by rw [List.getElem?_map, List.getElem?_eq_getElem hlt]; rfl) q hq
 simpa using this
theorem lic_flat {α : Type} {F : Heap} {sz : Nat} {R : Heap → α → List Value → Prop} : ∀ {l : List {cs : List Value // cs.length = sz}}, (∀ x ∈ l, ∃ y, R F y x.1) → ∃ ys : List α, ys.length = l.length ∧ LiC F sz R (l.flatMap Subtype.val) ys
 | [], _ => ⟨[], rfl, rfl⟩
 | x :: l, h => by
  obtain ⟨y, hy⟩ := h x (List.mem_cons_self ..)
  obtain ⟨ys, h1, h2⟩ := lic_flat fun z hz => h z (List.mem_cons_of_mem _ hz)
  exact ⟨y :: ys, by simp [h1], x.1, _, rfl, x.2, hy, h2⟩
theorem lim_slc {α : Type} {F : Heap} {sz n : Nat} {R : Heap → α → List Value → Prop} {v : Value} {xs : List Value} {l : List α} (h : SlC F v n xs) (hl : LiC F sz R xs l) (hn : l.length = n) (hm : n ≤ 140737488355328) : LiM F sz R v l := by
 obtain ⟨ao, cap, rfl, h1, h2⟩ := h
 subst hn
 refine ⟨ao, cap, rfl, ⟨h1, hm⟩, fun hp => ?_⟩
 obtain ⟨b, o, e, h3⟩ := h2 hp
 refine ⟨b, o, e, fun k x hx => ?_⟩
 obtain ⟨cs, h5, h6, h7⟩ := LiC.get hl hx
 exact ⟨cs, fun j u hj => by rw [Nat.add_assoc]; exact h3 _ u (h5 j u hj), h6, h7⟩
instance {sz : Nat} : Inhabited {cs : List Value // cs.length = sz} := ⟨⟨List.replicate sz .nilIface, by simp⟩⟩
theorem opn_slice {α : Type} {e : TypeId} {sz : Nat} {R : Heap → α → List Value → Prop} (ht : P.underlying t = some (.slice e)) (hc : P.cellsOf e = sz) (h0 : 0 < sz) (hb : Nat.ble 1 (P.bytesOf e) = true) (he : Opn μ enc P w spare held m e (fun cs => cs.length = sz ∧ ∃ x, R (heapOf w) x cs)) :
  Opn μ enc P w spare held m t (fun cs => ∃ v l, cs = [v] ∧ LiM (heapOf w) sz R v l) := fun fuel cs d p hd h hw => by
 obtain ⟨a, len, cap, l, e1, h1, h2, h3, h4, h5⟩ := open_listW (μ := μ) (α := {cs : List Value // cs.length = sz}) Subtype.val (fun x => ∃ y, R (heapOf w) y x.1) ht hc h0 (fun x => x.2) h hw fun n cs d' p hh hs hw' => by
  obtain ⟨hl, x, hx⟩ := he n cs d' p (by omega) hh hw'
  exact ⟨⟨cs, hl⟩, rfl, x, hx⟩
 obtain ⟨ys, h6, h7⟩ := lic_flat h3
 have hr : reachBytes ≤ 140737488355328 := by decide
 have h8 : len ≤ len * P.bytesOf e := Nat.le_mul_of_pos_right _ (Nat.le_of_ble_eq_true hb)
 exact ⟨_, ys, e1, lim_slc h4 h7 (by rw [h6, h1]) (by omega)⟩
end
end Go.De
namespace Go.Proofs.YtgefmjghdijbfaaGreatDoor
open Go Go.Wk Go.Un Go.De Go.Num Go.ChangeShapes Go.WideShapes Go.ChangeAt Go.RowKit
set_option linter.unusedSimpArgs false
set_option linter.unusedVariables false
theorem part_le {H : Type} {d : DataW H} : ∀ {l : List (DataW H)}, d ∈ l → Rows.uptoBulk d ≤ Rows.uptoBulkAll l
 | x :: r, h => by
  simp only [Rows.uptoBulkAll]
  rcases List.mem_cons.1 h with e | e
  ·subst e; omega
  ·have := part_le e; omega
instance {H : Type} : Msr (Rows.uptoBulk (H := H)) := ⟨fun h => by have := part_le h; simp only [Rows.uptoBulk]; omega, fun h => by have := part_le h; simp only [Rows.uptoBulk]; omega⟩
theorem lim_and {α : Type} {F : Heap} {sz : Nat} {R : Heap → α → List Value → Prop} {Q : α → Prop} {v : Value} {l : List α} (h : LiM F sz (fun F x cs => R F x cs ∧ Q x) v l) : LiM F sz R v l ∧ ∀ x ∈ l, Q x := by
 obtain ⟨ao, cap, rfl, hc, hpos⟩ := h
 refine ⟨⟨ao, cap, rfl, hc, fun hp => ?_⟩, fun x hx => ?_⟩
 ·obtain ⟨b, o, e, h⟩ := hpos hp
  refine ⟨b, o, e, fun k x hx => ?_⟩
  obtain ⟨cs, h1, h2, h3⟩ := h k x hx
  exact ⟨cs, h1, h2, h3.1⟩
 ·obtain ⟨k, hk, rfl⟩ := List.mem_iff_getElem.1 hx
  obtain ⟨b, o, e, h⟩ := hpos (by omega)
  obtain ⟨cs, h1, h2, h3⟩ := h k _ (List.getElem?_eq_getElem hk)
  exact h3.2
theorem in_of {n : Int} (h : (Lit.int .i64 n).wf = true) : in64 n := bounds_i64 h
theorem u8_nat {n : Int} (h : (Lit.int .u8 n).wf = true) : ∃ k : Nat, n = (k : Int) := by
 simp only [Lit.wf, Bool.and_eq_true, decide_eq_true_eq] at h
 have : (IntKind.u8).min = 0 := by decide
 exact ⟨n.toNat, by omega⟩
def Nv (m : Nat) (x : Vv) : Prop := NVv x ∧ dpR x.2 + 1 ≤ (m : Int)
theorem nv_rose {m : Nat} : ∀ {l : List Vv}, (∀ x ∈ l, Nv m x) → NV (roseOf l) ∧ dpR (roseOf l) ≤ (m : Int)
 | [], _ => ⟨trivial, by show (0 : Int) ≤ _; omega⟩
 | x :: r, h => by
  obtain ⟨h1, h2⟩ := h x (List.mem_cons_self ..)
  obtain ⟨h3, h4⟩ := nv_rose fun y hy => h y (List.mem_cons_of_mem _ hy)
  exact ⟨⟨h1.1, h1.2, h3⟩, by show max (dpR x.2 + 1) (dpR (roseOf r)) ≤ _; omega⟩
theorem ne_rose {m : Nat} : ∀ {l : List Ex}, (∀ x ∈ l, Ne m x) → NE (roseOf l) ∧ dpE (roseOf l) ≤ (m : Int)
 | [], _ => ⟨trivial, by show (0 : Int) ≤ _; omega⟩
 | x :: r, h => by
  obtain ⟨h1, h2⟩ := h x (List.mem_cons_self ..)
  obtain ⟨h3, h4⟩ := ne_rose fun y hy => h y (List.mem_cons_of_mem _ hy)
  exact ⟨⟨h1.1, h1.2, h3⟩, by show max (dpE x.2 + 1) (dpE (roseOf r)) ≤ _; omega⟩
section
variable {H : Type} {enc : TypeId × Value → H} {w : World} {spare : Nat → Bool} {held : Bool}
theorem o_str (m : Nat) : Opn (Rows.uptoBulk (H := H)) enc Tryz.prog w spare held m 9 (fun cs => ∃ s : List UInt8, cs = [.string (bs s)] ∧ s.length ≤ 140737488355328) := opn_string Tryz.underlying9
theorem o_int (m : Nat) : Opn (Rows.uptoBulk (H := H)) enc Tryz.prog w spare held m 3 (fun cs => ∃ n, cs = [.int .i64 n] ∧ (Lit.int .i64 n).wf = true) := opn_int Tryz.underlying3
theorem o_i64 (m : Nat) : Opn (Rows.uptoBulk (H := H)) enc Tryz.prog w spare held m 2 (fun cs => ∃ n, cs = [.int .i64 n] ∧ (Lit.int .i64 n).wf = true) := opn_int Tryz.underlying2
theorem o_u8 (m : Nat) : Opn (Rows.uptoBulk (H := H)) enc Tryz.prog w spare held m 5 (fun cs => ∃ n, cs = [.int .u8 n] ∧ (Lit.int .u8 n).wf = true) := opn_int Tryz.underlying5
theorem o_pos (m : Nat) : Opn (Rows.uptoBulk (H := H)) enc Tryz.prog w spare held m 30 (fun cs => ∃ l c, cs = [.int .i64 l, .int .i64 c]) :=
  ((opn_struct (m := m) Tryz.underlying30 (by kernel_rfl) (.cons (o_int m) (.cons (o_int m) .nil))).lt (Nat.le_succ m)).imp fun cs ⟨a, b, e, ⟨l, h1, _⟩, a2, b2, e2, ⟨c, h2, _⟩, e3⟩ => by
    subst e; subst h1; subst e2; subst h2; subst e3
    exact ⟨l, c, rfl⟩
theorem o_val : ∀ m, Opn (Rows.uptoBulk (H := H)) enc Tryz.prog w spare held m 33 (fun cs => cs.length = 4 ∧ ∃ x, RoR 4 VhR (heapOf w) x cs ∧ Nv m x)
 | 0 => fun _ _ _ _ h => absurd h (Nat.not_lt_zero _)
 | m + 1 => (opn_struct Tryz.underlying33 (by kernel_rfl) (.cons (o_u8 m) (.cons (o_i64 m) (.cons (o_str m) (.cons (opn_slice (R := fun F x cs => RoR 4 VhR F x cs ∧ Nv m x) Tryz.underlying31 (by kernel_rfl) (by decide) (by kernel_rfl) (o_val m)) .nil))))).imp fun cs ⟨a, b, e, ⟨k, h1, hk⟩, a2, b2, e2, ⟨n, h2, hn⟩, a3, b3, e3, ⟨s, h3, hs⟩, a4, b4, e4, ⟨v, l, h4, h5⟩, e5⟩ => by
  obtain ⟨k, rfl⟩ := u8_nat hk
  subst e; subst h1; subst e2; subst h2; subst e3; subst h3; subst e4; subst h4; subst e5
  obtain ⟨h6, h7⟩ := lim_and h5
  obtain ⟨h8, h9⟩ := nv_rose h7
  exact ⟨rfl, (⟨k, n, s⟩, roseOf l), ⟨_, v, rfl, rfl, ⟨rfl, hs⟩, trs_lim h6⟩, ⟨⟨in_of hn, hs⟩, h8⟩, by show dpR (roseOf l) + 1 ≤ _; omega⟩
theorem o_expr : ∀ m, m ≤ 2000000 → Opn (Rows.uptoBulk (H := H)) enc Tryz.prog w spare held m 36 (fun cs => cs.length = 9 ∧ ∃ x, RoR 9 EhR (heapOf w) x cs ∧ Ne m x)
 | 0, _ => fun _ _ _ _ h => absurd h (Nat.not_lt_zero _)
 | m + 1, hm => (opn_struct Tryz.underlying36 (by kernel_rfl) (.cons (o_u8 m) (.cons (o_pos m) (.cons (o_str m) (.cons (o_val m) (.cons (opn_slice (R := fun F x cs => RoR 9 EhR F x cs ∧ Ne m x) Tryz.underlying34 (by kernel_rfl) (by decide) (by kernel_rfl) (o_expr m (by omega))) .nil)))))).imp fun cs ⟨a, b, e, ⟨k, h1, hk⟩, a2, b2, e2, ⟨l, c, h2⟩, a3, b3, e3, ⟨s, h3, hs⟩, a4, b4, e4, ⟨_, ⟨vh, vl⟩, ⟨c0, v0, h4, h4', hvh, hvl⟩, hnv⟩, a5, b5, e5, ⟨v, el, h5, h5'⟩, e6⟩ => by
  obtain ⟨k, rfl⟩ := u8_nat hk
  obtain ⟨h6, h7⟩ := hvh
  subst e; subst h1; subst e2; subst h2; subst e3; subst h3; subst h6; subst e4; subst h4; subst e5; subst h5; subst e6
  obtain ⟨h8, h9⟩ := lim_and h5'
  obtain ⟨g1, g2⟩ := ne_rose h9
  have g3 : dpR vl + 1 ≤ (m : Int) := hnv.2
  exact ⟨rfl, (⟨k, l, c, s, vh, vl⟩, roseOf el), ⟨_, v, rfl, rfl, ⟨v0, rfl, hvl⟩, trs_lim h8⟩, ⟨⟨hnv.1, by show dpR vl ≤ _; omega, hs⟩, g1⟩, by show dpE (roseOf el) + 1 ≤ _; omega⟩
def Nb (x : Bd) : Prop := NVv x.2 ∧ dpR x.2.2 ≤ 2000000
theorem o_var (m : Nat) (hm : m ≤ 2000000) : Opn (Rows.uptoBulk (H := H)) enc Tryz.prog w spare held m 66 (fun cs => cs.length = 5 ∧ ∃ x, BdR (heapOf w) x cs ∧ Nb x) :=
  ((opn_struct (m := m) Tryz.underlying66 (by kernel_rfl) (.cons (o_str m) (.cons (o_val m) .nil))).lt (Nat.le_succ m)).imp fun cs ⟨a, b, e, ⟨s, h1, _⟩, a2, b2, e2, ⟨_, ⟨vh, vl⟩, hR, hnv⟩, e3⟩ => by
    have hv := ror_vac hR
    obtain ⟨a9, c9, e9, -, -⟩ := vac_slc hv
    subst e; subst h1; subst e2; subst e3
    have g3 : dpR vl + 1 ≤ (m : Int) := hnv.2
    refine ⟨by rw [e9]; rfl, (s, vh, vl), ⟨a2, by simp, hv⟩, hnv.1, by show dpR vl ≤ _; omega⟩
theorem o_vars (m : Nat) (hm : m ≤ 2000000) : Opn (Rows.uptoBulk (H := H)) enc Tryz.prog w spare held m 37 (fun cs => ∃ v l, cs = [v] ∧ LiM (heapOf w) 5 BdR v l ∧ NB l) :=
 (opn_slice (R := fun F x cs => BdR F x cs ∧ Nb x) Tryz.underlying37 (by kernel_rfl) (by decide) (by kernel_rfl) (o_var m hm)).imp fun cs ⟨v, l, h, h2⟩ => ⟨v, l, h, (lim_and h2).1, (lim_and h2).2⟩
end
end Go.Proofs.YtgefmjghdijbfaaGreatDoor
namespace Go.Wk
open Go
set_option linter.unusedVariables false
theorem tr_add_le {w0 : World} {F0 : Heap} {K0 : List Nat} {w : World} {F : Heap} {g : Grp} (h : Tr w0 F0 K0 w F ([] ++ g :: [])) : ∀ b o, F b = some o → F.add g b = some o := fun b o e => by
 rw [Heap.add_none (fun hm => ?_)]
 ·exact e
 ·obtain ⟨p, hp, rfl⟩ := List.mem_map.1 hm
  have := (h.own p (by simp only [List.nil_append, List.flatten_cons]; exact List.mem_append_left _ hp)).2.1
  rw [this] at e; cases e
theorem ct_frz {P : Program} {f : FuncId} {args : List Value} {F : Heap} {Post : Heap → Grp → Value → Prop} {Post' : Heap → Value → Prop} (h : Ct P f args F [] (fun F' G' u => ∃ g, G' = [g] ∧ Post F' g u)) (hp : ∀ F' g u, (∀ b o, F' b = some o → F'.add g b = some o) → Post F' g u → Post' (F'.add g) u) : Ct P f args F [] (fun F' _ u => Post' F' u) := by
 intro w hw
 refine (h w hw).mono fun e w' ⟨v, F', G', h1, h2, g, h3, h4⟩ => ?_
 subst h3
 have h2' : Tr w F (keys []) w' F' ([] ++ g :: []) := h2
 have hle : ∀ b o, F' b = some o → F'.add g b = some o := tr_add_le h2'
 exact ⟨v, F'.add g, [], h1, h2'.freeze, hp F' g v hle h4⟩
theorem ct_le {P : Program} {f : FuncId} {args : List Value} {F : Heap} {G : List Grp} {Post : Heap → List Grp → Value → Prop} (h : Ct P f args F G Post) : Ct P f args F G (fun F' G' u => Post F' G' u ∧ ∀ b o, F b = some o → F' b = some o) := fun w hw =>
 (h w hw).mono fun _ _ ⟨v, F', G', h1, h2, h3⟩ => ⟨v, F', G', h1, h2, h3, h2.ext⟩
end Go.Wk
namespace Go.Proofs.YtgefmjghdijbfaaGreatDoor
open Go Go.Wk Go.Un Go.De
set_option linter.unusedSimpArgs false
set_option linter.unusedVariables false
attribute [local irreducible] Go.wpList Go.Code.wp Go.wpStill Go.Wk.wpPre Go.bodyPost Go.Calls Go.Wk.Ct Go.Wk.OwnS Go.Wk.wpG Go.Wk.wpM
theorem cloneS1 (F : Heap) (v : Value) (l : List (List UInt8)) (h : LiM F 1 StR v l) (hl : l.length ≤ 2000000) : Ct Tryz.prog 47 [v] F [] (fun F' _ u => LiM F' 1 StR u l) :=
 ct_frz (Post := fun F' g u => (∃ xs, OwnS 9 1 u l.length xs g ∧ LiC F 1 StR xs l) ∧ ∀ b o, F b = some o → F' b = some o) (Ct.mono (ct_le (cloneSCt F v l h hl)) fun F' G' u ⟨⟨g, xs, h1, h2, h3⟩, h4⟩ => ⟨g, h1, ⟨xs, h2, h3⟩, h4⟩) fun F' g u hle ⟨⟨xs, h1, h2⟩, h3⟩ => LiC.lim h1 (h2.mono h3) rfl hle (by omega)
theorem consMCt (F : Heap) (tb m1 m2 m3 : Nat) (ts : List TD) (css : List KC) (rs : List RD) (hT : TabS F tb m1 m2 m3 ts css rs) (hK : KSz css) (s : List UInt8) :
  Ct Tryz.prog 126 [.pointer (some ⟨tb, 0, none⟩), .string (bs s)] F [] (fun F' _ u => ∃ (x : KC) (a1 : Option Addr) (n1 c1 : Nat) (a4 : Option Addr) (c4 : Nat), u = .tuple ⟨[.agg ⟨[.string (bs x.ty), .slice a1 n1 c1, .int .i64 x.pl, .slice a4 x.fs.length c4]⟩, .bool (findC css s).isSome]⟩ ∧ (findC css s = some x ∨ findC css s = none ∧ x = zKC) ∧ LiM F' 1 StR (.slice a1 n1 c1) x.ps ∧ LiM F' 3 FdR (.slice a4 x.fs.length c4) x.fs) := by
 have hcc : Cel F tb 1 (.map (some m2)) := hT.c 1 _ rfl
 obtain ⟨es, hes, hmm⟩ := hT.k
 refine Ct.enter Tryz.func126 rfl Tryz.ntmps126 rfl fun w0 a S => ?_
 refine wp_sr fun Z hZ => ?_
 (refine wpl_alloc S rfl rfl rfl rfl ?_; clear S a; intro b4 a w S)
 (revert S a; revert hZ Z; refine go 6 ?_; intro Z hZ Z hZ a S)
 (refine wv S (sv_lit (c := false) (sv_eqPtrSome S rfl rfl rfl) (by rfl)) ?_; clear S a; intro a S)
 (revert S a; revert hZ Z; refine go 2 ?_; intro a S)
 refine wpc_false S rfl ?_
 (revert S a; revert hZ Z; refine go 6 ?_; intro Z hZ a S)
 (refine wv S (sv_loadF S rfl rfl hcc) ?_; clear S a; intro a S)
 (revert S a; refine go 1 ?_; intro a S)
 (refine wv S (sv_lookupF (enc := kS) S rfl rfl rfl hes) ?_; clear S a; intro a S)
 (obtain ⟨y, ap, cp, ac, cc, hgd, hps, hfs, hy, his⟩ := get_kc hmm s; obtain ⟨hy1, hy2, hy3⟩ := hK.of hy; rw [if_pos rfl, hgd, his] at S)
 (revert S a; refine go 3 ?_; intro a S)
 (refine wpl_alloc S rfl rfl rfl rfl ?_; clear S a; intro b6 a w S)
 (refine wso S rfl rfl ?_; clear S; intro w S)
 (revert S a; revert hZ Z; refine go 3 ?_; intro a S)
 (refine wp_seq_k ?_; intro Z hZ)
 (refine wpc_mixM [0, 1, 3, 4, 6, 8] [1, 4] [7, 9] (.one 0 (.one 1 (.one 3 (.one 4 (.one 2 (.one 6 (.one 5 (.one 7 (.one 8 (.one 9 .nil)))))))))) [b6] S mixed (by kernel_rfl) ?_; clear S; intro w S)
 (revert S a; refine go 5 ?_; intro a S)
 (refine wcF S (cloneS1 F _ y.ps hps hy1) ?_; clear S a; intro u9 F5 a w hv hF5 S; have hvc := hv; obtain ⟨a22, c22, rfl, -, -⟩ := hvc)
 (revert S a; refine go 3 ?_; intro a S)
 (refine wcF S (ownedCt F5 y.fs _ (hfs.mono hF5) hy2 hy3) ?_; clear S a; intro u8 F6 a w hv6 hF6 S; have hvd := hv6; obtain ⟨a25, c25, rfl, -, -⟩ := hvd)
 (revert S a; refine go 2 ?_; intro a S)
 (refine wpl_store1 S rfl rfl rfl rfl rfl rfl (by first | (simp; done) | (simp [Value.cells]; done) | exact Nat.le_of_ble_eq_true rfl) ?_; clear S; intro w S)
 (revert S a; refine go 2 ?_; intro a S)
 refine wpm_eff rfl rfl (fun h => absurd h (by decide)) ?_
 (refine wpl_store1 S rfl rfl rfl rfl rfl rfl (by first | (simp; done) | (simp [Value.cells]; done) | exact Nat.le_of_ble_eq_true rfl) ?_; clear S; intro w S)
 refine wpList_nil ?_
 refine wpm_nil (fun h => absurd h (by decide)) ?_
 (revert S a; revert hZ Z; refine go 4 ?_; intro Z hZ a S)
 (refine wso S rfl rfl ?_; clear S; intro w S)
 (revert S a; revert hZ Z; refine go 3 ?_; intro a S)
 refine wp_ret (fin_ret S (results2 Tryz.results126 (RV.cellO S rfl (by rfl)) (RV.tmp S rfl)) ?_)
 exact ⟨y, _, _, _, _, _, rfl, hy, hv.mono hF6, hv6⟩
theorem strs_at {l : List (List UInt8)} {k : Nat} {s : List UInt8} (h : l[k]? = some s) : (strs l)[k]? = some (.string (bs s)) := by unfold strs; rw [List.getElem?_map, h]; rfl
theorem mem_drop {l : List (List UInt8)} {k : Nat} {x s : List UInt8} (hx : l[k]? = some x) : decide (s ∈ l.drop k) = (decide (x = s) || decide (s ∈ l.drop (k + 1))) := by
 obtain ⟨h1, h2⟩ := List.getElem?_eq_some_iff.1 hx
 rw [List.drop_eq_getElem_cons h1, h2, Bool.eq_iff_iff]
 rw [Bool.or_eq_true, decide_eq_true_eq, decide_eq_true_eq, decide_eq_true_eq, List.mem_cons]
 exact ⟨fun h => h.imp Eq.symm id, fun h => h.imp Eq.symm id⟩
theorem zzRtA0 {p : Prop} (h : p := by (congr 1; rw [hfp]; first | (rw [mem_drop hx, decide_eq_true (by assumption), Bool.true_or]; done) | (rw [List.drop_of_length_le (by omega)]; simp; done) | trace_state)) : p := h
theorem rinCt (F : Heap) (l : List (List UInt8)) (s : List UInt8) (v : Value) (h : SlC F v l.length (strs l)) (hl : l.length ≤ 9223372036854775807) : Ct Tryz.prog 99 [v, .string (bs s)] F [] (fun _ _ u => u = .bool (decide (s ∈ l))) := by
 obtain ⟨ao, cap, rfl, hcap, hpos⟩ := h
 refine Ct.enter Tryz.func99 rfl Tryz.ntmps99 rfl fun w0 a S => ?_
 (revert S a; refine go 10 ?_; intro Z hZ a S)
 refine wpc_loop (fun m a w' => ∃ (k : Nat), m = l.length - k ∧ k ≤ l.length ∧ decide (s ∈ l) = decide (s ∈ l.drop k) ∧ St 18 [(0, .slice ao l.length cap), (1, .string (bs s)), (5, .int .i64 k)] w0 F [] F [] a w') ?_ ?_
 ·(refine ⟨l.length, 0, by omega, Nat.zero_le _, rfl, ?_⟩; refine S.keep ?_; exact zk)
 (clear S; rintro m a w ⟨k, rfl, hkl, hfp, S⟩)
 (revert S a; refine go 8 ?_; intro Z hZ a S)
 refine wpc_sp S rfl ?_ ?_ <;> intro h
 ·(revert S a; revert hZ Z; refine go 4 ?_; intro Z hZ a S)
  (refine wp_seq_k ?_; intro Z hZ)
  (obtain ⟨b8, o8, hao, hcs⟩ := hpos (by omega); rw [hao] at S; have hx : l[k]? = some l[k] := List.getElem?_eq_getElem (by omega); generalize l[k] = x at hx; have hc1 : Cel F b8 (o8 + k * 1) (.string (bs x)) := (by rw [Nat.mul_one]; exact hcs k _ (strs_at hx)))
  (revert S a; refine go 4 ?_; intro a S)
  (refine wv S (sv_loadF S rfl rfl hc1) ?_; clear S a; intro a S)
  (revert S a; revert hZ Z; refine go 4 ?_; intro a S)
  refine wpc_sp S rfl ?_ ?_ <;> intro h
  ·(revert S a; refine go 4 ?_; intro a S)
   refine wp_ret (fr1 S Tryz.results99 ?_)
   exact zzRtA0
  (revert S a; revert hZ Z; refine go 7 ?_; intro a S)
  change ∃ m', _ ∧ _
  (rw [← hao] at S; refine ⟨l.length - (k + 1), by omega, k + 1, rfl, by omega, ?_, ?_⟩; rotate_left 1; (refine S.keep ?_; exact zk); (rw [hfp, mem_drop hx, decide_eq_false (by assumption), Bool.false_or]))
 (refine wp_exit ?_; conv => whnf)
 clear hZ Z
 (revert S a; revert hZ Z; refine go 5 ?_; intro a S)
 refine wp_ret (fr1 S Tryz.results99 ?_)
 exact zzRtA0
theorem rplainCt (F : Heap) (s : List UInt8) : Ct Tryz.prog 100 [.string (bs s)] F [] (fun _ _ u => u = .bool (plainS s)) := by
 refine Ct.enter Tryz.func100 rfl Tryz.ntmps100 rfl fun w0 a S => ?_
 (revert S a; refine go 8 ?_; intro Z hZ a S)
 refine wgd S ?_ ?_
 ·(clear S; intro h S)
  (revert S a; refine go 5 ?_; intro a S)
  refine wgd S ?_ ?_
  ·(clear S; intro h S)
   (revert S a; refine go 5 ?_; intro a S)
   refine wgd S ?_ ?_
   ·(clear S; intro h S)
    (revert S a; revert hZ Z; refine go 7 ?_; intro a S)
    refine wp_ret (fr1 S Tryz.results100 ?_)
    (congr 1; unfold plainS sBool sInt sBig sText; rw [Bool.eq_iff_iff]; simp [*]; done)
   (clear S a; intro h a S)
   (revert S a; revert hZ Z; refine go 5 ?_; intro a S)
   refine wp_ret (fr1 S Tryz.results100 ?_)
   (congr 1; unfold plainS sBool sInt sBig sText; rw [Bool.eq_iff_iff]; simp [*]; done)
  (clear S a; intro h a S)
  (revert S a; revert hZ Z; refine go 9 ?_; intro a S)
  refine wp_ret (fr1 S Tryz.results100 ?_)
  (congr 1; unfold plainS sBool sInt sBig sText; rw [Bool.eq_iff_iff]; simp [*]; done)
 (clear S a; intro h a S)
 (revert S a; revert hZ Z; refine go 13 ?_; intro a S)
 refine wp_ret (fr1 S Tryz.results100 ?_)
 (congr 1; unfold plainS sBool sInt sBig sText; rw [Bool.eq_iff_iff]; simp [*]; done)
theorem find_drop {ts : List TD} {k : Nat} {x : TD} {s : List UInt8} (hx : ts[k]? = some x) : findT (ts.drop k) s = if s = x.nm then some x else findT (ts.drop (k + 1)) s := by
 obtain ⟨h1, h2⟩ := List.getElem?_eq_some_iff.1 hx
 rw [List.drop_eq_getElem_cons h1, h2]
 unfold findT
 rw [List.find?_cons]
 by_cases e : s = x.nm
 ·rw [if_pos e, decide_eq_true e]
 ·rw [if_neg e, decide_eq_false e]
def RtQ (F' : Heap) (u : Value) (ts : List TD) (s : List UInt8) : Prop := ∃ (y : TD) (ap : Option Addr) (cp : Nat) (ac : Option Addr) (cc : Nat), u = .tuple ⟨[.agg ⟨[.int .i64 y.l, .int .i64 y.c, .bool y.pub, .string (bs y.nm), .slice ap y.ps.length cp, .slice ac y.cs.length cc]⟩, .bool (declS ts s)]⟩ ∧ (findT ts s = some y ∨ findT ts s = none ∧ y = zTD) ∧ LiM F' 1 StR (.slice ap y.ps.length cp) y.ps ∧ LiM F' 2 CdR (.slice ac y.cs.length cc) y.cs
theorem rq_none {F : Heap} {ts : List TD} {s : List UInt8} (h : findT ts s = none) : RtQ F (.tuple ⟨[.agg ⟨[.int .i64 0, .int .i64 0, .bool false, .string (bs []), .slice none 0 0, .slice none 0 0]⟩, .bool false]⟩) ts s :=
 ⟨zTD, none, 0, none, 0, by unfold declS; rw [h]; rfl, .inr ⟨h, rfl⟩, LiM.nil _ _ _, LiM.nil _ _ _⟩
theorem rq_some {F : Heap} {ts : List TD} {s : List UInt8} {y : TD} {ap : Option Addr} {cp : Nat} {ac : Option Addr} {cc : Nat} (h : findT ts s = some y) (h1 : LiM F 1 StR (.slice ap y.ps.length cp) y.ps) (h2 : LiM F 2 CdR (.slice ac y.cs.length cc) y.cs) : RtQ F (.tuple ⟨[.agg ⟨[.int .i64 y.l, .int .i64 y.c, .bool y.pub, .string (bs y.nm), .slice ap y.ps.length cp, .slice ac y.cs.length cc]⟩, .bool true]⟩) ts s :=
 ⟨y, ap, cp, ac, cc, by unfold declS; rw [h]; rfl, .inl h, h1, h2⟩
theorem zzRtA1 {p : Prop} (h : p := by (first | exact rq_some (by rw [hfp, find_drop hx, if_pos (by first | assumption | exact Eq.symm (by assumption))]) hps hcs | exact rq_none (by rw [hfp, List.drop_of_length_le (by omega)]; rfl) | trace_state)) : p := h
theorem rtypeCt (F : Heap) (tp : Nat) (ts : List TD) (hT : RTab F tp ts) (s : List UInt8) : Ct Tryz.prog 180 [.pointer (some ⟨tp, 0, none⟩), .string (bs s)] F [] (fun F' _ u => RtQ F' u ts s) := by
 obtain ⟨ao, cap, hc2, hL⟩ := hT
 obtain ⟨_, _, e9, hcap, hpos⟩ := id hL
 cases e9
 refine Ct.enter Tryz.func180 rfl Tryz.ntmps180 rfl fun w0 a S => ?_
 refine wp_sr fun Z hZ => ?_
 (refine wpl_alloc S rfl rfl rfl rfl ?_; clear S a; intro b4 a w S)
 (revert S a; revert hZ Z; refine go 9 ?_; intro Z hZ a S)
 refine wpc_loop (fun m a w' => ∃ (k : Nat), m = ts.length - k ∧ k ≤ ts.length ∧ findT ts s = findT (ts.drop k) s ∧ St 37 [(0, ptr tp), (1, .string (bs s)), (4, ptr b4), (6, .int .i64 k)] w0 F [] F [[(b4, .cells ⟨[.int .i64 0, .int .i64 0, .bool false, .string (bs []), .slice none 0 0, .slice none 0 0]⟩ 97 (0, 0))]] a w') ?_ ?_
 ·(refine ⟨ts.length, 0, by omega, Nat.zero_le _, rfl, ?_⟩; refine S.keep ?_; exact zk)
 (clear S; rintro m a w ⟨k, rfl, hkl, hfp, S⟩)
 (revert S a; refine go 7 ?_; intro Z hZ Z hZ a S)
 first | (refine wv S (sv_loadO S rfl rfl (by rfl)) ?_; clear S a; intro a S) | (refine wv S (sv_loadF S rfl rfl (by assumption)) ?_; clear S a; intro a S) | (refine wv S (sv_loadF S rfl rfl hc2) ?_; clear S a; intro a S)
 (revert S a; revert hZ Z; refine go 4 ?_; intro a S)
 refine wpc_sp S rfl ?_ ?_ <;> intro h
 ·(revert S a; revert hZ Z; refine go 4 ?_; intro Z hZ a S)
  (refine wp_seq_k ?_; intro Z hZ)
  (obtain ⟨b8, o8, hao, x, cs1, hx, hc1, ⟨v6, u6, rfl, hps, hcs⟩⟩ := LiM.pos hpos (k := k) (by omega); rw [hao] at S hc2; obtain ⟨a61, c61, rfl, -, -⟩ := id hps; obtain ⟨a62, c62, rfl, -, -⟩ := id hcs; have hc13 : Cel F b8 (o8 + k * 6 + 3) _ := hc1 3 _ rfl)
  (revert S a; refine go 5 ?_; intro a S)
  first | (refine wv S (sv_loadO S rfl rfl (by rfl)) ?_; clear S a; intro a S) | (refine wv S (sv_loadF S rfl rfl (by assumption)) ?_; clear S a; intro a S) | (refine wv S (sv_loadF S rfl rfl hc2) ?_; clear S a; intro a S)
  (revert S a; refine go 3 ?_; intro a S)
  (refine wv S (sv_loadF S rfl rfl hc13) ?_; clear S a; intro a S)
  (revert S a; revert hZ Z; refine go 4 ?_; intro a S)
  refine wpc_sp S rfl ?_ ?_ <;> intro h
  ·(revert S a; refine go 5 ?_; intro Z hZ a S)
   first | (refine wv S (sv_loadO S rfl rfl (by rfl)) ?_; clear S a; intro a S) | (refine wv S (sv_loadF S rfl rfl (by assumption)) ?_; clear S a; intro a S) | (refine wv S (sv_loadF S rfl rfl hc2) ?_; clear S a; intro a S)
   (revert S a; refine go 2 ?_; intro a S)
   (refine wv S (sv_loadAF S rfl rfl hc1 rfl) ?_; clear S a; intro a S)
   (refine wso S rfl rfl ?_; clear S; intro w S)
   (revert S a; revert hZ Z; refine go 3 ?_; intro a S)
   refine wp_ret (fin_ret S (results2 Tryz.results180 (RV.cellO S rfl (by rfl)) (RV.tmp S rfl)) ?_)
   exact zzRtA1
  (revert S a; revert hZ Z; refine go 7 ?_; intro a S)
  change ∃ m', _ ∧ _
  (rw [← hao] at S; refine ⟨ts.length - (k + 1), by omega, k + 1, rfl, by omega, ?_, ?_⟩; rotate_left 1; (refine S.keep ?_; exact zk); (rw [hfp, find_drop hx, if_neg (by intro e; first | exact absurd e.symm (by assumption) | exact absurd e (by assumption))]))
 (refine wp_exit ?_; conv => whnf)
 clear hZ Z
 (revert S a; revert hZ Z; refine go 3 ?_; intro Z hZ a S)
 (refine wso S rfl rfl ?_; clear S; intro w S)
 (revert S a; revert hZ Z; refine go 3 ?_; intro a S)
 refine wp_ret (fin_ret S (results2 Tryz.results180 (RV.cellO S rfl (by rfl)) (RV.tmp S rfl)) ?_)
 exact zzRtA1
theorem rq_0 {F : Heap} {u : Value} {ts : List TD} {s : List UInt8} (h : RtQ F u ts s) : ∃ (y : TD) (ap : Option Addr) (cp : Nat) (ac : Option Addr) (cc : Nat), u = .tuple ⟨[.agg ⟨[.int .i64 y.l, .int .i64 y.c, .bool y.pub, .string (bs y.nm), .slice ap y.ps.length cp, .slice ac y.cs.length cc]⟩, .bool (declS ts s)]⟩ ∧ (findT ts s = some y ∨ findT ts s = none ∧ y = zTD) := by
 obtain ⟨y, ap, cp, ac, cc, h1, h2, -⟩ := h
 exact ⟨y, ap, cp, ac, cc, h1, h2⟩
theorem openT_any (nm : List UInt8) (ar : Fo) : openT (nm, ar) = (parS nm || anyF openT ar) := by
 show (parS nm || wiL _ ar) = _
 rw [← anyF_wi]; rfl
theorem any_drop {p : Ty → Bool} {l : Fo} {k : Nat} {x : Ty} (hx : l.get? k = some x) : anyF p (l.drop k) = (p x || anyF p (l.drop (k + 1))) := by rw [Fo.drop_get hx]; rfl
theorem any_end {p : Ty → Bool} {l : Fo} {k : Nat} (h : l.len ≤ k) : anyF p (l.drop k) = false := by rw [Fo.drop_len h]; rfl
theorem zzRtA2 {p : Prop} (h : p := by (congr 1; rw [openT_any]; first | (rw [(by assumption : parS nm = true)]; rfl) | (rw [(by assumption : parS nm = false), Bool.false_or, hfp]; first | (rw [any_end (by omega)]; rfl) | (rw [any_drop hx, (by assumption : openT (x.1, x.2) = true)]; rfl)) | trace_state)) : p := h
theorem rclosedCt (F : Heap) : ∀ (n : Nat) (nm : List UInt8) (ar : Fo) (cs : List Value), ar.size ≤ n → TyC F cs nm ar → Ct Tryz.prog 181 [.agg ⟨cs⟩] F [] (fun _ _ u => u = .bool (!openT (nm, ar))) := by
 intro n
 induction n using Nat.strongRecOn with
 | _ n ih =>
 intro nm ar cs hn h
 obtain ⟨v, rfl, ao, cap, rfl, hcap, hpos⟩ := h
 refine Ct.enter Tryz.func181 rfl Tryz.ntmps181 rfl fun w0 a S => ?_
 refine wp_sr fun Z hZ => ?_
 (refine wbx S ?_; clear S a; intro b1 a w S)
 (revert S a; revert hZ Z; refine go 7 ?_; intro Z hZ Z hZ a S)
 (refine wc0 S (refParamCt F nm) ?_; clear S a; intro v a w hv S; subst hv)
 (revert S a; revert hZ Z; refine go 2 ?_; intro a S)
 refine wpc_sp S rfl ?_ ?_ <;> intro h
 ·(revert S a; refine go 4 ?_; intro a S)
  refine wp_ret (fr1 S Tryz.results181 ?_)
  exact zzRtA2
 (revert S a; revert hZ Z; refine go 8 ?_; intro Z hZ a S)
 refine wpc_loop (fun m a w' => ∃ (k : Nat), m = ar.len - k ∧ k ≤ ar.len ∧ anyF openT ar = anyF openT (ar.drop k) ∧ St 21 [(1, ptr b1), (3, .int .i64 k)] w0 F [] F [[(b1, .cells ⟨[.string (bs nm), .slice ao ar.len cap]⟩ 88 (0, 0))]] a w') ?_ ?_
 ·(refine ⟨ar.len, 0, by omega, Nat.zero_le _, rfl, ?_⟩; refine S.keep ?_; exact zk)
 (clear S; rintro m a w ⟨k, rfl, hkl, hfp, S⟩)
 (revert S a; refine go 9 ?_; intro Z hZ a S)
 refine wpc_sp S rfl ?_ ?_ <;> intro h
 ·(revert S a; revert hZ Z; refine go 4 ?_; intro Z hZ a S)
  (refine wp_seq_k ?_; intro Z hZ)
  (obtain ⟨b8, o8, hao, x, v1, hx, hc1, hT1⟩ := FoM.pos hpos (k := k) (by omega); rw [hao] at S; have hxs := Fo.size_get hx; obtain ⟨a91, c91, rfl, -⟩ := id hT1)
  (revert S a; refine go 6 ?_; intro a S)
  (refine wc0 S (ih x.2.size (by omega) x.1 x.2 _ (Nat.le_refl _) ⟨_, rfl, hT1⟩) ?_; clear S a; intro v a w hv S; subst hv)
  (revert S a; revert hZ Z; refine go 3 ?_; intro a S)
  refine wpc_sp S rfl ?_ ?_ <;> intro h
  ·(revert S a; refine go 4 ?_; intro a S)
   refine wp_ret (fr1 S Tryz.results181 ?_)
   exact zzRtA2
  (revert S a; revert hZ Z; refine go 7 ?_; intro a S)
  change ∃ m', _ ∧ _
  (rw [← hao] at S; refine ⟨ar.len - (k + 1), by omega, k + 1, rfl, by omega, ?_, ?_⟩; rotate_left 1; (refine S.keep ?_; exact zk); (rw [hfp, any_drop hx, (by assumption : openT (x.1, x.2) = false), Bool.false_or]))
 (refine wp_exit ?_; conv => whnf)
 clear hZ Z
 (revert S a; revert hZ Z; refine go 5 ?_; intro a S)
 refine wp_ret (fr1 S Tryz.results181 ?_)
 exact zzRtA2
theorem rdepthCt (F : Heap) : ∀ (n : Nat) (nm : List UInt8) (ar : Fo) (cs : List Value), ar.size ≤ n → depthL ar ≤ 1000000000 → TyC F cs nm ar → Ct Tryz.prog 144 [.agg ⟨cs⟩] F [] (fun _ _ u => u = .int .i64 (depthT (nm, ar) : Nat)) := by
 intro n
 induction n using Nat.strongRecOn with
 | _ n ih =>
 intro nm ar cs hn hb h
 obtain ⟨v, rfl, ao, cap, rfl, hcap, hpos⟩ := h
 refine Ct.enter Tryz.func144 rfl Tryz.ntmps144 rfl fun w0 a S => ?_
 refine wp_sr fun Z hZ => ?_
 (refine wbx S ?_; clear S a; intro b1 a w S)
 (revert S a; revert hZ Z; refine go 13 ?_; intro Z hZ a S)
 refine wpc_loop (fun m a w' => ∃ (k p : Nat), m = ar.len - k ∧ k ≤ ar.len ∧ max p (depthL (ar.drop k)) = depthL ar ∧ p ≤ depthL ar ∧ St 22 [(1, ptr b1), (3, .int .i64 (p : Int)), (4, .int .i64 k)] w0 F [] F [[(b1, .cells ⟨[.string (bs nm), .slice ao ar.len cap]⟩ 88 (0, 0))]] a w') ?_ ?_
 ·(refine ⟨ar.len, 0, 0, by omega, Nat.zero_le _, by rw [Nat.zero_max]; rfl, Nat.zero_le _, ?_⟩; refine S.keep ?_; exact zk)
 (clear S; rintro m a w ⟨k, p, rfl, hkl, hs, hp, S⟩)
 (revert S a; refine go 9 ?_; intro Z hZ a S)
 refine wpc_sp S rfl ?_ ?_ <;> intro h
 ·(revert S a; revert hZ Z; refine go 4 ?_; intro Z hZ a S)
  (obtain ⟨b8, o8, hao, x, v1, hx, hc1, hT1⟩ := FoM.pos hpos (k := k) (by omega); rw [hao] at S; have hxs := Fo.size_get hx; have hdd := depthL_get hx; have hdr := Fo.drop_get hx; obtain ⟨a91, c91, rfl, -⟩ := id hT1)
  (revert S a; refine go 7 ?_; intro a S)
  (refine wc0 S (ih x.2.size (by omega) x.1 x.2 _ (Nat.le_refl _) (by omega) ⟨_, rfl, hT1⟩) ?_; clear S a; intro v a w hv S; subst hv)
  first | (refine wv S (sv_maxN S rfl rfl rfl) ?_; clear S a; intro a S) | (refine wv S (sv_max0 S rfl rfl rfl) ?_; clear S a; intro a S)
  (revert S a; revert hZ Z; refine go 8 ?_; intro a S)
  change ∃ m', _ ∧ _
  (rw [← hao] at S; refine ⟨ar.len - (k + 1), by omega, k + 1, max p (depthT x), rfl, by omega, ?_, ?_, ?_⟩; rotate_left 2; (refine S.keep ?_; exact zk); (rw [← hs, hdr]; unfold depthT; simp only [depthL]; omega); (unfold depthT; omega))
 (refine wp_exit ?_; conv => whnf)
 clear hZ Z
 (revert S a; revert hZ Z; refine go 7 ?_; intro a S)
 refine wp_ret (fr1 S Tryz.results144 ?_)
 (have hz : depthL (ar.drop k) = 0 := (by rw [Fo.drop_len (by omega)]; rfl); congr 1; unfold depthT; show (p : Int) + 1 = ((depthL ar + 1 : Nat) : Int); omega)
theorem findC_cons (c : KC) (l : List KC) (s : List UInt8) : findC (c :: l) s = if s = c.nm then some c else findC l s := by
 unfold findC
 rw [List.find?_cons]
 by_cases e : s = c.nm
 ·rw [if_pos e, decide_eq_true e]
 ·rw [if_neg e, decide_eq_false e]
theorem consOf_drop {ts : List TD} {i : Nat} {x : TD} (hx : ts[i]? = some x) : consOf (ts.drop i) = consFrom x 0 x.cs ++ consOf (ts.drop (i + 1)) := by
 obtain ⟨h1, h2⟩ := List.getElem?_eq_some_iff.1 hx
 rw [List.drop_eq_getElem_cons h1, h2]; rfl
theorem from_drop {x : TD} {k : Nat} {y : CD} (hy : x.cs[k]? = some y) : consFrom x k (x.cs.drop k) = ⟨y.nm, x.nm, x.ps, (k : Int), y.fs⟩ :: consFrom x (k + 1) (x.cs.drop (k + 1)) := by
 obtain ⟨h1, h2⟩ := List.getElem?_eq_some_iff.1 hy
 rw [List.drop_eq_getElem_cons h1, h2]; rfl
def RkQ (F' : Heap) (u : Value) (css : List KC) (s : List UInt8) : Prop := ∃ (x : KC) (a1 : Option Addr) (n1 c1 : Nat) (a4 : Option Addr) (c4 : Nat), u = .tuple ⟨[.agg ⟨[.string (bs x.ty), .slice a1 n1 c1, .int .i64 x.pl, .slice a4 x.fs.length c4]⟩, .bool (findC css s).isSome]⟩ ∧ (findC css s = some x ∨ findC css s = none) ∧ LiM F' 1 StR (.slice a1 n1 c1) x.ps ∧ LiM F' 3 FdR (.slice a4 x.fs.length c4) x.fs
theorem rk_none {F : Heap} {css : List KC} {s : List UInt8} (h : findC css s = none) : RkQ F (.tuple ⟨[.agg ⟨[.string (bs []), .slice none 0 0, .int .i64 0, .slice none 0 0]⟩, .bool false]⟩) css s :=
 ⟨⟨[], [], [], 0, []⟩, none, 0, 0, none, 0, by rw [h]; rfl, .inr h, LiM.nil _ _ _, LiM.nil _ _ _⟩
theorem rk_some {F : Heap} {css : List KC} {s : List UInt8} {x : KC} {a1 : Option Addr} {n1 c1 : Nat} {a4 : Option Addr} {c4 : Nat} (h : findC css s = some x) (h1 : LiM F 1 StR (.slice a1 n1 c1) x.ps) (h2 : LiM F 3 FdR (.slice a4 x.fs.length c4) x.fs) : RkQ F (.tuple ⟨[.agg ⟨[.string (bs x.ty), .slice a1 n1 c1, .int .i64 x.pl, .slice a4 x.fs.length c4]⟩, .bool true]⟩) css s :=
 ⟨x, a1, n1, c1, a4, c4, by rw [h]; rfl, .inl h, h1, h2⟩
theorem zzRc0 {p : Prop} (h : p := by (first | exact rk_some (x := ⟨y.nm, x.nm, x.ps, (k : Int), y.fs⟩) (by rw [hfq, from_drop hy, List.cons_append, findC_cons, if_pos (by first | assumption | exact Eq.symm (by assumption))]) hps hfs | exact rk_none (by rw [hfp, List.drop_of_length_le (by omega)]; rfl) | trace_state)) : p := h
theorem rconsCt (F : Heap) (tp : Nat) (ts : List TD) (hT : RTab F tp ts) (s : List UInt8) : Ct Tryz.prog 149 [.pointer (some ⟨tp, 0, none⟩), .string (bs s)] F [] (fun F' _ u => RkQ F' u (consOf ts) s) := by
 obtain ⟨ao, cap, hc2, hL⟩ := hT
 obtain ⟨_, _, e9, hcap, hpos⟩ := hL
 cases e9
 refine Ct.enter Tryz.func149 rfl Tryz.ntmps149 rfl fun w0 a S => ?_
 refine wp_sr fun Z hZ => ?_
 (refine wpl_alloc S rfl rfl rfl rfl ?_; clear S a; intro b4 a w S)
 (revert S a; revert hZ Z; refine go 9 ?_; intro Z hZ a S)
 refine wpc_loop (fun m a w' => ∃ (i : Nat), m = ts.length - i ∧ i ≤ ts.length ∧ findC (consOf ts) s = findC (consOf (ts.drop i)) s ∧ St 55 [(0, ptr tp), (1, .string (bs s)), (4, ptr b4), (6, .int .i64 i)] w0 F [] F [[(b4, .cells ⟨[.string (bs []), .slice none 0 0, .int .i64 0, .slice none 0 0]⟩ 226 (0, 0))]] a w') ?_ ?_
 ·(refine ⟨ts.length, 0, by omega, Nat.zero_le _, rfl, ?_⟩; refine S.keep ?_; exact zk)
 (clear S; rintro m a w ⟨i, rfl, hil, hfp, S⟩)
 (revert S a; refine go 7 ?_; intro Z hZ Z hZ a S)
 first | (refine wv S (sv_loadO S rfl rfl (by rfl)) ?_; clear S a; intro a S) | (refine wv S (sv_loadF S rfl rfl (by assumption)) ?_; clear S a; intro a S) | (refine wv S (sv_loadF S rfl rfl hc2) ?_; clear S a; intro a S)
 (revert S a; revert hZ Z; refine go 4 ?_; intro a S)
 refine wpc_sp S rfl ?_ ?_ <;> intro h
 ·(revert S a; revert hZ Z; refine go 4 ?_; intro Z hZ a S)
  (refine wp_seq_k ?_; intro Z hZ)
  (obtain ⟨b8, o8, hao, x, cs1, hx, hc1, ⟨v6, u6, rfl, hps, hcs⟩⟩ := LiM.pos hpos (k := i) (by omega); rw [hao] at S hc2; obtain ⟨a61, c61, rfl, -, -⟩ := id hps; obtain ⟨a62, c62, rfl, hcap2, hpos2⟩ := id hcs)
  (revert S a; refine go 5 ?_; intro a S)
  first | (refine wv S (sv_loadO S rfl rfl (by rfl)) ?_; clear S a; intro a S) | (refine wv S (sv_loadF S rfl rfl (by assumption)) ?_; clear S a; intro a S) | (refine wv S (sv_loadF S rfl rfl hc2) ?_; clear S a; intro a S)
  (revert S a; refine go 2 ?_; intro a S)
  (refine wv S (sv_loadAF S rfl rfl hc1 rfl) ?_; clear S a; intro a S)
  (refine wpl_alloc S rfl rfl rfl rfl ?_; clear S a; intro b7 a w S)
  (refine wso S rfl rfl ?_; clear S; intro w S)
  (revert S a; revert hZ Z; refine go 7 ?_; intro a S)
  refine wpc_loop (fun m a w' => ∃ (k : Nat), m = x.cs.length - k ∧ k ≤ x.cs.length ∧ findC (consOf ts) s = findC (consFrom x k (x.cs.drop k) ++ consOf (ts.drop (i + 1))) s ∧ St 55 [(0, ptr tp), (1, .string (bs s)), (4, ptr b4), (6, .int .i64 i), (7, ptr b7), (8, .int .i64 k)] w0 F [] F [[(b7, .cells ⟨[.int .i64 x.l, .int .i64 x.c, .bool x.pub, .string (bs x.nm), .slice a61 x.ps.length c61, .slice a62 x.cs.length c62]⟩ 97 (0, 0))], [(b4, .cells ⟨[.string (bs []), .slice none 0 0, .int .i64 0, .slice none 0 0]⟩ 226 (0, 0))]] a w') ?_ ?_
  ·(refine ⟨x.cs.length, 0, by omega, Nat.zero_le _, by rw [hfp, consOf_drop hx]; rfl, ?_⟩; refine S.keep ?_; exact zk)
  (clear S; rintro m a w ⟨k, rfl, hkl, hfq, S⟩)
  (revert S a; refine go 4 ?_; intro Z hZ Z hZ a S)
  first | (refine wv S (sv_loadO S rfl rfl (by rfl)) ?_; clear S a; intro a S) | (refine wv S (sv_loadF S rfl rfl (by assumption)) ?_; clear S a; intro a S) | (refine wv S (sv_loadF S rfl rfl hc2) ?_; clear S a; intro a S)
  (revert S a; revert hZ Z; refine go 4 ?_; intro a S)
  refine wpc_sp S rfl ?_ ?_ <;> intro h
  ·(revert S a; revert hZ Z; refine go 4 ?_; intro Z hZ a S)
   (refine wp_seq_k ?_; intro Z hZ)
   (obtain ⟨b9, o9, hao2, y, cs2, hy, hd1, ⟨v7, rfl, hfs⟩⟩ := LiM.pos hpos2 (k := k) (by omega); rw [hao2] at S; obtain ⟨a71, c71, rfl, -, -⟩ := id hfs)
   (revert S a; refine go 2 ?_; intro a S)
   first | (refine wv S (sv_loadO S rfl rfl (by rfl)) ?_; clear S a; intro a S) | (refine wv S (sv_loadF S rfl rfl (by assumption)) ?_; clear S a; intro a S) | (refine wv S (sv_loadF S rfl rfl hc2) ?_; clear S a; intro a S)
   (revert S a; refine go 3 ?_; intro a S)
   (refine wv S (sv_loadF S rfl rfl (hd1 0 _ rfl)) ?_; clear S a; intro a S)
   (revert S a; revert hZ Z; refine go 4 ?_; intro a S)
   refine wpc_sp S rfl ?_ ?_ <;> intro h
   ·(refine wp_seq_k ?_; intro Z hZ)
    (refine wpc_mixM [0, 1, 2, 3, 4, 5, 6, 7, 8, 9, 10, 11] [1, 3, 6, 10] [] (.one 0 (.one 1 (.one 2 (.one 3 (.one 4 (.one 5 (.one 6 (.one 7 (.one 8 (.one 9 (.one 10 (.one 11 (.one 12 (.one 13 .nil)))))))))))))) [b7] S mixed (by kernel_rfl) ?_; clear S; intro w S)
    (revert S a; refine go 10 ?_; intro a S)
    (refine wlF S rfl (fun w' S => sv_loadF S rfl rfl (hd1 1 _ rfl)) ?_; clear S a; intro a S)
    (revert S a; refine go 2 ?_; intro a S)
    (refine wso S rfl rfl ?_; clear S; intro w S)
    (revert S a; revert hZ Z; refine go 6 ?_; intro a S)
    refine wp_ret (fin_ret S (results2 Tryz.results149 (RV.cellO S rfl (by rfl)) (RV.tmp S rfl)) ?_)
    exact zzRc0
   (revert S a; revert hZ Z; refine go 7 ?_; intro a S)
   change ∃ m', _ ∧ _
   (rw [← hao2] at S; refine ⟨x.cs.length - (k + 1), by omega, k + 1, rfl, by omega, ?_, ?_⟩; rotate_left 1; (refine S.keep ?_; exact zk); (rw [hfq, from_drop hy, List.cons_append, findC_cons, if_neg (by intro e; first | exact absurd e.symm (by assumption) | exact absurd e (by assumption))]))
  (refine wp_exit ?_; conv => whnf)
  clear hZ Z
  (revert S a; revert hZ Z; refine go 6 ?_; intro a S)
  change ∃ m', _ ∧ _
  (replace S := S.drop1; refine ⟨ts.length - (i + 1), by omega, i + 1, rfl, by omega, ?_, ?_⟩; rotate_left 1; (refine S.keep ?_; exact zk); (rw [hfq, List.drop_of_length_le (show x.cs.length ≤ k by omega)]; rfl))
 (refine wp_exit ?_; conv => whnf)
 clear hZ Z
 (revert S a; revert hZ Z; refine go 3 ?_; intro Z hZ a S)
 (refine wso S rfl rfl ?_; clear S; intro w S)
 (revert S a; revert hZ Z; refine go 3 ?_; intro a S)
 refine wp_ret (fin_ret S (results2 Tryz.results149 (RV.cellO S rfl (by rfl)) (RV.tmp S rfl)) ?_)
 exact zzRc0
end Go.Proofs.YtgefmjghdijbfaaGreatDoor
