/- Walks. -/
import Derived.Test.YtbhipiepfclneaaGreatDoorQ13
import Derived.Test.YtbhipiepfclneaaGreatDoorQ12
import Derived.Test.YtbhipiepfclneaaGreatDoorKGroupOrder01
import Derived.Test.YtbhipiepfclneaaGreatDoorQ09
import Derived.Test.YtbhipiepfclneaaGreatDoorQ06
import Derived.Test.YtbhipiepfclneaaGreatDoorQ05
import Derived.Test.YtbhipiepfclneaaGreatDoorQ15
import Derived.Test.YtbhipiepfclneaaGreatDoorQ04
import Derived.Test.YtbhipiepfclneaaGreatDoorQ03
import Derived.Test.YtbhipiepfclneaaGreatDoorQ02
import Derived.Test.YtbhipiepfclneaaGreatDoorQ01
import Derived.OpenShut
import Derived.Below
import Derived.Carry
import Derived.SizedLaws
import Derived.Deep.Slices
import Derived.Deep.Strs
import Derived.Test.YtbhipiepfclneaaGreatDoorQ17
import Derived.Test.YtbhipiepfclneaaGreatDoorQ14
import Derived.ChangeSame
import Derived.Test.YtbhipiepfclneaaGreatDoorQ16
import Derived.Test.YtbhipiepfclneaaGreatDoorQ11
import Derived.Test.YtbhipiepfclneaaGreatDoorKGroupOrderTy
import Derived.Test.YtbhipiepfclneaaGreatDoorQ10
import Derived.Test.YtbhipiepfclneaaGreatDoorQShelf
import Derived.Test.YtbhipiepfclneaaGreatDoorRows
import Derived.Test.YtbhipiepfclneaaGreatDoorCards
import Derived.Test.YtbhipiepfclneaaGreatDoorTie
import Derived.WalkKit
import Derived.ProofKit
import Derived.LaidMore
import Derived.LaidHandle
import Derived.Lay
import Derived.ShutString
import Derived.Stop.Joined
import Derived.ChangeOld
import Derived.SevenTiedAt
import Derived.Test.YtbhipiepfclneaaGreatDoorQ18
import Derived.Test.YtbhipiepfclneaaGreatDoorQ24
import Derived.Test.YtbhipiepfclneaaGreatDoorQ23
import Derived.Test.YtbhipiepfclneaaGreatDoorQ22
import Derived.Test.YtbhipiepfclneaaGreatDoorQ21
import Derived.Test.YtbhipiepfclneaaGreatDoorQ20
import Derived.Test.YtbhipiepfclneaaGreatDoorQ19
import Derived.Test.YtbhipiepfclneaaGreatDoorQ26
import Derived.Test.YtbhipiepfclneaaGreatDoorQ25
import Derived.Test.YtbhipiepfclneaaGreatDoorQ27
import Derived.Test.YtbhipiepfclneaaGreatDoorQ29
set_option maxHeartbeats 8000000
namespace Go.Proofs.YtbhipiepfclneaaGreatDoor
open Go Go.Wk Go.Un Go.De
set_option linter.unusedSimpArgs false
set_option linter.unusedVariables false
theorem sameH_iff {h h2 : VH} : sameH h h2 = true ↔ h = h2 := by
 unfold sameH
 simp only [Bool.and_eq_true, decide_eq_true_eq]
 obtain ⟨a, b, c⟩ := h
 obtain ⟨a2, b2, c2⟩ := h2
 simp
theorem sameL_iff : ∀ {l m : Vf}, sameL l m = true ↔ l = m
 | .nil, .nil => by simp [sameL]
 | .nil, .cons _ _ _ => by simp [sameL]
 | .cons _ _ _, .nil => by simp [sameL]
 | .cons h L r, .cons h2 L2 r2 => by
  unfold sameL
  rw [Bool.and_eq_true, Bool.and_eq_true, sameH_iff, sameL_iff (l := L), sameL_iff (l := r)]
  constructor
  ·rintro ⟨⟨rfl, rfl⟩, rfl⟩; rfl
  ·intro e; cases e; exact ⟨⟨rfl, rfl⟩, rfl⟩
theorem sameV_iff {x y : Vv} : sameV x y = true ↔ x = y := by
 unfold sameV
 rw [Bool.and_eq_true, sameH_iff, sameL_iff]
 exact ⟨fun h => Prod.ext h.1 h.2, fun h => by rw [h]; exact ⟨rfl, rfl⟩⟩
end Go.Proofs.YtbhipiepfclneaaGreatDoor
namespace Go.Wk
open Go Go.ChangeShapes Go.WideShapes
set_option linter.unusedSimpArgs false
set_option linter.unusedVariables false
theorem at_heapOf (w : World) : At w (heapOf w) [] := ⟨fun _ _ h => h, fun p h => by simp at h, by simp [keys]⟩
theorem below_of {W W' : World} {F' : Heap} {G' : List Grp} (h : Tr W (heapOf W) [] W' F' G') : Go.RowKit.Below W.heap.size W W' :=
 ⟨h.os, h.tape, h.output, h.size, fun k hk => h.old k hk (by simp)⟩
theorem cel_of {W : World} {a : Addr} {v : Value} (h : W.cell? a = some v) : a.spot = none ∧ Cel (heapOf W) a.block a.off v := by
 refine ⟨World.cell?_spot h, ?_⟩
 unfold World.cell? at h
 split at h
 ·rename_i c e f hc
  split at h
  ·cases h
  ·exact ⟨c, e, f, hc, h⟩
 ·cases h
theorem cels_flat {α : Type} {cell : α → List Value} {sz : Nat} (hlen : ∀ x, (cell x).length = sz) {F : Heap} {b : Nat} : ∀ (l : List α) (off : Nat), (∀ i x, l[i]? = some x → Cels F b (off + i * sz) (cell x)) → Cels F b off (l.flatMap cell)
 | [], _, _ => fun _ _ h => by simp at h
 | x :: r, off, h => by
  rw [List.flatMap_cons]
  refine Cels.append (by have := h 0 x rfl; simpa using this) ?_
  rw [hlen]
  refine cels_flat hlen r _ fun i y hy => ?_
  have := h (i + 1) y hy
  rw [show off + sz + i * sz = off + (i + 1) * sz by rw [Nat.add_mul]; omega]
  exact this
end Go.Wk
namespace Go.De
open Go Go.Wk Go.Un Go.ChangeShapes Go.WideShapes
set_option linter.unusedSimpArgs false
set_option linter.unusedVariables false
theorem weightsAll_mem' {H : Type} {P : Program} {e : TypeId} {d : DataW H} : ∀ {l : List (DataW H)}, d ∈ l → ∀ q ∈ d.weights P e, q ∈ DataW.weightsAll P e l
 | x :: l, hd, q, hq => by
  unfold DataW.weightsAll
  rcases List.mem_cons.1 hd with rfl | hd
  ·exact List.mem_append_left _ hq
  ·exact List.mem_append_right _ (weightsAll_mem' hd q hq)
theorem open_listW {α : Type} [Inhabited α] {H : Type} {enc : TypeId × Value → H} {P : Program} {w : World} {spare : Nat → Bool} {held : Bool} {t e : TypeId} (cell : α → List Value) {sz : Nat} (good : α → Prop)
  (ht : P.underlying t = some (.slice e)) (hc : P.cellsOf e = sz) (h0 : 0 < sz) (hlen : ∀ x, (cell x).length = sz)
  {cs0 : List Value} {d : DataW H} {p : List MemPlace} {fuel : Nat} (h : DataW.trod enc P w 0 spare held fuel t cs0 = some (d, p)) (hw : (d.weights P t).all (· ≤ reachBytes) = true)
  (hel : ∀ n cs d' p, DataW.trod enc P w 0 spare held n e cs = some (d', p) → SizeOf.sizeOf d' < SizeOf.sizeOf d → (d'.weights P e).all (· ≤ reachBytes) = true → ∃ x, cs = cell x ∧ good x) :
  ∃ (a : Option Addr) (len cap : Nat) (l : List α), cs0 = [.slice a len cap] ∧ l.length = len ∧ len ≤ maxLen ∧ (∀ x ∈ l, good x) ∧ SlC (heapOf w) (.slice a len cap) len (l.flatMap cell) ∧ len * P.bytesOf e ≤ reachBytes := by
 rcases Go.Deep.open_slice ht h with ⟨rfl, _⟩ | ⟨x, len, cap, m, n, D, Pl, rfl, -, hl, hm, hmm, hx, hi⟩
 ·exact ⟨none, 0, 0, [], rfl, rfl, Nat.zero_le _, by simp, ⟨none, 0, rfl, Nat.le_refl _, fun h => absurd h (by omega)⟩, by rw [Nat.zero_mul]; exact Nat.zero_le _⟩
 ·obtain ⟨hd, -⟩ := Prod.mk.inj hx
  have hlm : len ≤ m := by rw [hmm]; split <;> omega
  have hwe : ∀ q, q ∈ (len + (m - len)) * P.bytesOf e :: (DataW.weightsAll P e ((List.range len).map D) ++ DataW.weightsAll P e ((List.range (m - len)).map fun j => D (len + j))) → q ≤ reachBytes := fun q hq => by
   have h1 := List.all_eq_true.1 hw q (by rw [hd]; simp only [DataW.weights, ht, List.length_map, List.length_range]; exact hq)
   simpa using h1
  have hch : ∀ i, i < len → ∃ y, (∀ j v, (cell y)[j]? = some v → w.cell? ((x.add (i * sz)).add j) = some v) ∧ good y := fun i hi' => by
   obtain ⟨cs, h1, h2⟩ := hi i (by omega)
   rw [hc] at h1
   obtain ⟨y, rfl, hy⟩ := hel _ _ _ _ h2 (by
    rw [hd]
    have := List.sizeOf_lt_of_mem (List.mem_map.2 ⟨i, List.mem_range.2 hi', rfl⟩ : D i ∈ (List.range len).map D)
    simp only [DataW.slice.sizeOf_spec]
    omega) (by
    rw [List.all_eq_true]
    intro q hq
    have := hwe q (List.mem_cons_of_mem _ (List.mem_append_left _ (weightsAll_mem' (List.mem_map.2 ⟨i, List.mem_range.2 hi', rfl⟩) q hq)))
    simpa using this)
   refine ⟨y, fun j v hj => ?_, hy⟩
   obtain ⟨_, _, h3⟩ := World.cells?_some h1
   have hj2 := (List.getElem?_eq_some_iff.1 hj).1
   rw [hlen] at hj2
   exact (h3 j hj2).trans hj
  obtain ⟨X, hX⟩ := Go.Deep.choose_lt hch
  have hget : ∀ i y, ((List.range len).map X)[i]? = some y → i < len ∧ y = X i := fun i y hy => by
   have := (List.getElem?_eq_some_iff.1 hy).1
   simp only [List.length_map, List.length_range] at this
   rw [List.getElem?_map, List.getElem?_range this] at hy
   exact ⟨this, by simpa using hy.symm⟩
  refine ⟨some x, len, cap, (List.range len).map X, rfl, by simp, Nat.le_trans hl hm, fun y hy => ?_, ⟨some x, cap, rfl, hl, fun hk => ?_⟩, ?_⟩
  ·obtain ⟨i, hi1, rfl⟩ := List.mem_map.1 hy
   exact (hX i (List.mem_range.1 hi1)).2
  ·obtain ⟨b, off, spot⟩ := x
   have hsp : spot = none := by
    have hp : 0 < (cell (X 0)).length := by rw [hlen]; exact h0
    have := (hX 0 hk).1 0 _ (List.getElem?_eq_getElem hp)
    simpa [Addr.add] using World.cell?_spot this
   subst hsp
   refine ⟨b, off, rfl, cels_flat hlen _ _ fun i y hy => ?_⟩
   obtain ⟨hi1, rfl⟩ := hget i y hy
   intro j v hv
   have := (cel_of ((hX i hi1).1 j v hv)).2
   rw [add_none, add_none] at this
   exact this
  ·have h1 := hwe _ (List.mem_cons_self ..)
   exact Nat.le_trans (Nat.mul_le_mul_right _ (by omega)) h1
def Parts : List (List Value → Prop) → List Value → Prop
 | [], cs => cs = []
 | R :: Rs, cs => ∃ a b, cs = a ++ b ∧ R a ∧ Parts Rs b
def consec (P : Program) : Nat → List Field → Nat → Bool
 | o, [], tot => o == tot
 | o, f :: r, tot => f.offset == o && consec P (o + P.cellsOf f.type) r tot
section
variable {H : Type} {enc : TypeId × Value → H} {P : Program} {w : World} {spare : Nat → Bool} {held : Bool} {m : Nat} {t : TypeId}
theorem Opn.imp {R R' : List Value → Prop} (h : Opn enc P w spare held m t R) (hi : ∀ cs, R cs → R' cs) : Opn enc P w spare held m t R' := fun f cs d p h1 h2 h3 => hi _ (h f cs d p h1 h2 h3)
theorem opn_int {k : IntKind} (ht : P.underlying t = some (.int k)) : Opn enc P w spare held m t (fun cs => ∃ n, cs = [.int k n] ∧ (Lit.int k n).wf = true) := fun f cs d p _ h _ => by
 obtain ⟨n, h1, _, h2⟩ := DataW.trod_int ht h
 exact ⟨n, h1, h2⟩
theorem opn_string (ht : P.underlying t = some .string) : Opn enc P w spare held m t (fun cs => ∃ s : List UInt8, cs = [.string (bs s)] ∧ s.length ≤ 140737488355328) := fun f cs d p _ h hw => by
 obtain ⟨s, h1, h2, _⟩ := DataW.trod_string ht h
 obtain ⟨rfl, -⟩ := Prod.mk.inj h2
 refine ⟨s.data.toList, h1, ?_⟩
 have hr : reachBytes ≤ 140737488355328 := by decide
 have h3 := List.all_eq_true.1 hw s.data.toList.length (by simp [DataW.weights])
 have h4 : s.data.toList.length ≤ reachBytes := by simpa using h3
 omega
theorem weightsEach_mem' {ts : List TypeId} {ds : List (DataW H)} : ∀ {i : Nat} {u : TypeId} {d : DataW H}, ts[i]? = some u → ds[i]? = some d → ∀ q ∈ d.weights P u, q ∈ DataW.weightsEach P ts ds := by
 induction ts generalizing ds with
 | nil => intro i u d h; simp at h
 | cons x ts ih =>
  intro i u d h1 h2 q hq
  cases ds with
  | nil => simp at h2
  | cons y ds =>
   unfold DataW.weightsEach
   cases i with
   | zero => cases h1; cases h2; exact List.mem_append_left _ hq
   | succ i => exact List.mem_append_right _ (ih h1 h2 q hq)
theorem parts_of {cs : List Value} : ∀ (fs : List Field) (Rs : List (List Value → Prop)) (o : Nat), OpnAll enc P w spare held m fs Rs → consec P o fs cs.length = true → o ≤ cs.length →
    (∀ (i : Nat) (f : Field), fs[i]? = some f → ∃ n d p, SizeOf.sizeOf d < m ∧ DataW.trod enc P w 0 spare held n f.type ((cs.drop f.offset).take (P.cellsOf f.type)) = some (d, p) ∧ (d.weights P f.type).all (· ≤ reachBytes) = true) → Parts Rs (cs.drop o)
  | [], [], o, _, hc, ho, _ => by
    have h1 : o = cs.length := by simpa [consec] using hc
    subst h1
    exact List.drop_length ..
  | [], _ :: _, o, h, _, _, _ => nomatch h
  | _ :: _, [], o, h, _, _, _ => nomatch h
  | f :: fs, R :: Rs, o, .cons hh hr, hc, ho, hf => by
    unfold consec at hc
    rw [Bool.and_eq_true] at hc
    obtain ⟨hc1, hc2⟩ := hc
    have hco : f.offset = o := by simpa using hc1
    obtain ⟨n, d, p, h1, h2, h3⟩ := hf 0 f rfl
    have hle : o + P.cellsOf f.type ≤ cs.length := by
      have : ∀ (fs : List Field) (o tot : Nat), consec P o fs tot = true → o ≤ tot := by
        intro fs
        induction fs with
        | nil => intro o tot h; have : o = tot := by simpa [consec] using h
                 omega
        | cons f fs ih => intro o tot h; unfold consec at h; rw [Bool.and_eq_true] at h; have := ih _ _ h.2; omega
      exact this _ _ _ hc2
    refine ⟨(cs.drop o).take (P.cellsOf f.type), cs.drop (o + P.cellsOf f.type), ?_, ?_, parts_of fs Rs _ hr hc2 hle fun i f' hf' => hf (i + 1) f' hf'⟩
    · rw [← List.drop_drop, List.take_append_drop]
    · rw [← hco]; exact hh _ _ _ _ h1 h2 h3
theorem opn_struct {fs : Array Field} {Rs : List (List Value → Prop)} (ht : P.underlying t = some (.struct fs)) (hc : consec P 0 fs.toList (P.cellsOf t) = true) (hf : OpnAll enc P w spare held m fs.toList Rs) : Opn enc P w spare held (m + 1) t (Parts Rs) := fun fuel cs d p hd h hw => by
 obtain ⟨xs, n, _, hx, hl, hlen, hg⟩ := DataW.trod_struct ht h
 obtain ⟨rfl, -⟩ := Prod.mk.inj hx
 rw [← hl] at hc
 have := parts_of (cs := cs) fs.toList Rs 0 hf hc (Nat.zero_le _) fun i f hi => by
  have hi' : fs[i]? = some f := by simpa using hi
  have h1 := hg i f hi'
  have hlt : i < xs.length := by rw [hlen]; exact (Array.getElem?_eq_some_iff.1 hi').1
  rw [List.getElem?_eq_getElem hlt] at h1
  have hmem : xs[i].1 ∈ xs.map (·.1) := List.mem_map.2 ⟨xs[i], List.getElem_mem hlt, rfl⟩
  refine ⟨n, xs[i].1, xs[i].2, ?_, h1, ?_⟩
  ·have := List.sizeOf_lt_of_mem hmem
   simp only [DataW.agg.sizeOf_spec] at hd
   omega
  ·rw [List.all_eq_true] at hw ⊢
   intro q hq
   refine hw q ?_
   simp only [DataW.weights, ht]
   exact weightsEach_mem' (i := i) (by rw [List.getElem?_map, hi]; rfl) (by rw [List.getElem?_map, List.getElem?_eq_getElem hlt]; rfl) q hq
 simpa using this
theorem lic_flat {α : Type} {F : Heap} {sz : Nat} {R : Heap → α → List Value → Prop} : ∀ {l : List {cs : List Value // cs.length = sz}}, (∀ x ∈ l, ∃ y, R F y x.1) → ∃ ys : List α, ys.length = l.length ∧ LiC F sz R (l.flatMap Subtype.val) ys
 | [], _ => ⟨[], rfl, rfl⟩
 | x :: l, h => by
  obtain ⟨y, hy⟩ := h x (List.mem_cons_self ..)
  obtain ⟨ys, h1, h2⟩ := lic_flat fun z hz => h z (List.mem_cons_of_mem _ hz)
  exact ⟨y :: ys, by simp [h1], x.1, _, rfl, x.2, hy, h2⟩
theorem lim_slc {α : Type} {F : Heap} {sz n : Nat} {R : Heap → α → List Value → Prop} {v : Value} {xs : List Value} {l : List α} (h : SlC F v n xs) (hl : LiC F sz R xs l) (hn : l.length = n) (hm : n ≤ 140737488355328) : LiM F sz R v l := by
 obtain ⟨ao, cap, rfl, h1, h2⟩ := h
 subst hn
 refine ⟨ao, cap, rfl, ⟨h1, hm⟩, fun hp => ?_⟩
 obtain ⟨b, o, e, h3⟩ := h2 hp
 refine ⟨b, o, e, fun k x hx => ?_⟩
 obtain ⟨cs, h5, h6, h7⟩ := LiC.get hl hx
 exact ⟨cs, fun j u hj => by rw [Nat.add_assoc]; exact h3 _ u (h5 j u hj), h6, h7⟩
instance {sz : Nat} : Inhabited {cs : List Value // cs.length = sz} := ⟨⟨List.replicate sz .nilIface, by simp⟩⟩
theorem opn_slice {α : Type} {e : TypeId} {sz : Nat} {R : Heap → α → List Value → Prop} (ht : P.underlying t = some (.slice e)) (hc : P.cellsOf e = sz) (h0 : 0 < sz) (hb : Nat.ble 1 (P.bytesOf e) = true) (he : Opn enc P w spare held m e (fun cs => cs.length = sz ∧ ∃ x, R (heapOf w) x cs)) :
  Opn enc P w spare held m t (fun cs => ∃ v l, cs = [v] ∧ LiM (heapOf w) sz R v l) := fun fuel cs d p hd h hw => by
 obtain ⟨a, len, cap, l, e1, h1, h2, h3, h4, h5⟩ := open_listW (α := {cs : List Value // cs.length = sz}) Subtype.val (fun x => ∃ y, R (heapOf w) y x.1) ht hc h0 (fun x => x.2) h hw fun n cs d' p hh hs hw' => by
  obtain ⟨hl, x, hx⟩ := he n cs d' p (by omega) hh hw'
  exact ⟨⟨cs, hl⟩, rfl, x, hx⟩
 obtain ⟨ys, h6, h7⟩ := lic_flat h3
 have hr : reachBytes ≤ 140737488355328 := by decide
 have h8 : len ≤ len * P.bytesOf e := Nat.le_mul_of_pos_right _ (Nat.le_of_ble_eq_true hb)
 exact ⟨_, ys, e1, lim_slc h4 h7 (by rw [h6, h1]) (by omega)⟩
end
end Go.De
namespace Go.Proofs.YtbhipiepfclneaaGreatDoor
open Go Go.Wk Go.Un Go.De Go.ChangeShapes Go.WideShapes Go.ChangeAt Go.RowKit Go.Num
set_option linter.unusedSimpArgs false
set_option linter.unusedVariables false
attribute [local irreducible] Go.wpList Go.Code.wp Go.wpStill Go.Wk.wpPre Go.bodyPost Go.Calls Go.Wk.Ct Go.Wk.OwnS Go.Wk.wpG Go.Wk.wpM
theorem lim_and {α : Type} {F : Heap} {sz : Nat} {R : Heap → α → List Value → Prop} {Q : α → Prop} {v : Value} {l : List α} (h : LiM F sz (fun F x cs => R F x cs ∧ Q x) v l) : LiM F sz R v l ∧ ∀ x ∈ l, Q x := by
 obtain ⟨ao, cap, rfl, hc, hpos⟩ := h
 refine ⟨⟨ao, cap, rfl, hc, fun hp => ?_⟩, fun x hx => ?_⟩
 ·obtain ⟨b, o, e, h⟩ := hpos hp
  refine ⟨b, o, e, fun k x hx => ?_⟩
  obtain ⟨cs, h1, h2, h3⟩ := h k x hx
  exact ⟨cs, h1, h2, h3.1⟩
 ·obtain ⟨k, hk, rfl⟩ := List.mem_iff_getElem.1 hx
  obtain ⟨b, o, e, h⟩ := hpos (by omega)
  obtain ⟨cs, h1, h2, h3⟩ := h k _ (List.getElem?_eq_getElem hk)
  exact h3.2
section
variable {H : Type} {enc : TypeId × Value → H} {w : World} {spare : Nat → Bool} {held : Bool}
theorem o_i64 (m : Nat) : Opn enc Tryz.prog w spare held m 2 (fun cs => ∃ n, cs = [.int .i64 n] ∧ (Lit.int .i64 n).wf = true) := opn_int Tryz.underlying2
end
section
variable {β : Type}
theorem alG_append {x y : List (List UInt8 × β)} {k : List UInt8} (h : alG x k = none) : alG (x ++ y) k = alG y k := by
 induction x with
 | nil => rfl
 | cons p r ih =>
  obtain ⟨a, u⟩ := p
  unfold alG at h
  by_cases hk : k = a
  ·rw [if_pos hk] at h; cases h
  ·rw [if_neg hk] at h
   show (if k = a then some u else alG (r ++ y) k) = _
   rw [if_neg hk, ih h]
theorem alG_mid {x1 x2 : List (List UInt8 × β)} {k : List UInt8} {e : β} (h : ∀ p ∈ x1, p.1 ≠ k) : alG (x1 ++ (k, e) :: x2) k = some e := by
 rw [alG_append (alG_none.2 h)]
 unfold alG; rw [if_pos rfl]
end
theorem alD_sub {β : Type} : ∀ {x : List (List UInt8 × β)} {k : List UInt8}, (alD x k).Sublist x
 | [], _ => List.Sublist.slnil
 | (a, u) :: r, k => by
  unfold alD
  split
  ·exact List.sublist_cons_self _ _
  ·exact alD_sub.cons_cons _
theorem gDel_inv {aggs : List (List UInt8)} {x : GA} {key way : Vf} (hI : GInv aggs x) : GInv aggs (gDel x key way) := by
 unfold gDel
 by_cases h0 : delE x key way = 0
 ·rw [if_pos h0]
  generalize (txtG key).getD [] = k
  generalize (txtG way).getD [] = w
  unfold delG
  by_cases hn : alD (waysE x k) w = []
  ·rw [if_pos hn]
   exact ⟨hI.nd.sublist (alD_sub.map _), fun p hp => hI.all p (alD_sub.subset hp)⟩
  ·rw [if_neg hn]
   unfold waysE at hn
   cases hx : alG x k with
   | none => rw [hx] at hn; exact absurd rfl hn
   | some e =>
    rw [hx] at hn
    obtain ⟨x1, x2, rfl, h1, h2, -⟩ := alG_split hx
    have hE := hI.all (k, e) (by simp)
    rw [h2]
    refine ⟨by have := hI.nd; simpa using this, fun p hp => ?_⟩
    rcases List.mem_append.1 hp with hp | hp
    ·exact hI.all p (List.mem_append_left _ hp)
    ·rcases List.mem_cons.1 hp with rfl | hp
     ·have hs : ∀ v ∈ alD e.ways w, v ∈ e.ways := fun v hv => alD_sub.subset hv
      exact ⟨hn, hE.nd.sublist (alD_sub.map _), fun v hv => hE.len v (hs v hv), fun v hv v' hv' => hE.kind v (hs v hv) v' (hs v' hv'), fun v hv => hE.num v (hs v hv), fun v hv => hE.may v (hs v hv), fun v hv => hE.row v (hs v hv), hE.key, hE.krow⟩
     ·exact hI.all p (List.mem_append_right _ (List.mem_cons_of_mem _ hp))
 ·rw [if_neg h0]; exact hI
section
variable {α : Type}
variable {lt : α → α → Bool}
theorem Srt.cross {A B : List α} (h : Srt lt (A ++ B)) : ∀ x ∈ A, ∀ y ∈ B, lt y x = false := (List.pairwise_append.1 h).2.2
theorem Srt.last (h : Lt lt) {A : List α} {z : α} (hA : Srt lt A) (hz : A.getLast? = some z) : ∀ x ∈ A, lt z x = false := fun x hx => by
 obtain ⟨B, rfl⟩ := List.getLast?_eq_some_iff.1 hz
 rcases List.mem_append.1 hx with hx | hx
 ·exact hA.cross x hx z (List.mem_singleton.2 rfl)
 ·obtain rfl := List.mem_singleton.1 hx
  exact refl_lt h _
theorem parts_le (h : Lt lt) {A1 A2 B1 B2 : List α} (hA : Srt lt (A1 ++ A2)) (hB : Srt lt (B1 ++ B2))
  (h1 : ∀ x y, A1.getLast? = some x → B2.head? = some y → lt y x = false) (h2 : ∀ x y, B1.getLast? = some x → A2.head? = some y → lt x y = true) :
  ∀ x ∈ A1 ++ B1, ∀ y ∈ A2 ++ B2, lt y x = false := by
 have ends : ∀ {P Q : List α}, Srt lt P → Srt lt Q → (∀ x y, P.getLast? = some x → Q.head? = some y → lt y x = false) → ∀ x ∈ P, ∀ y ∈ Q, lt y x = false := by
  intro P Q hP hQ hc x hx y hy
  cases hl : P.getLast? with
  | none => rw [List.getLast?_eq_none_iff] at hl; subst hl; cases hx
  | some p =>
   cases hf : Q.head? with
   | none => rw [List.head?_eq_none_iff] at hf; subst hf; cases hy
   | some q => exact h.tr (h.tr (hP.last h hl x hx) (hc p q hl hf)) (hQ.first h hf y hy)
 intro x hx y hy
 rcases List.mem_append.1 hx with hx | hx <;> rcases List.mem_append.1 hy with hy | hy
 ·exact hA.cross x hx y hy
 ·exact ends hA.left hB.right h1 x hx y hy
 ·exact ends hB.left hA.right (fun x y a b => h.asy (h2 x y a b)) x hx y hy
 ·exact hB.cross x hx y hy
theorem merge_le (h : Lt lt) {A1 A2 B1 B2 C1 C2 : List α} (hA : Srt lt (A1 ++ A2)) (hB : Srt lt (B1 ++ B2))
  (h1 : ∀ x y, A1.getLast? = some x → B2.head? = some y → lt y x = false) (h2 : ∀ x y, B1.getLast? = some x → A2.head? = some y → lt x y = true)
  (p1 : C1.Perm (A1 ++ B1)) (p2 : C2.Perm (A2 ++ B2)) (s1 : Srt lt C1) (s2 : Srt lt C2) : Srt lt (C1 ++ C2) ∧ (C1 ++ C2).Perm ((A1 ++ A2) ++ (B1 ++ B2)) := by
 refine ⟨s1.app s2 fun x hx y hy => parts_le h hA hB h1 h2 x (p1.mem_iff.1 hx) y (p2.mem_iff.1 hy), ?_⟩
 refine (p1.append p2).trans ?_
 rw [List.append_assoc, List.append_assoc, ← List.append_assoc B1, ← List.append_assoc A2]
 exact List.Perm.append_left _ (List.Perm.append_right _ List.perm_append_comm)
theorem put_le (h : Lt lt) {x : α} {B1 B2 : List α} (hB : Srt lt (B1 ++ B2)) (h1 : ∀ z, B1.getLast? = some z → lt x z = false) (h2 : ∀ z, B2.head? = some z → lt z x = false) : Srt lt (B1 ++ x :: B2) := by
 refine hB.left.app (List.pairwise_cons.2 ⟨fun y hy => ?_, hB.right⟩) fun z hz y hy => ?_
 ·cases hf : B2.head? with
  | none => rw [List.head?_eq_none_iff] at hf; subst hf; cases hy
  | some q => exact h.tr (h2 q hf) (hB.right.first h hf y hy)
 ·rcases List.mem_cons.1 hy with rfl | hy
  ·cases hl : B1.getLast? with
   | none => rw [List.getLast?_eq_none_iff] at hl; subst hl; cases hz
   | some p => exact h.tr (hB.left.last h hl z hz) (h1 p hl)
  ·exact hB.cross z hz y hy
theorem set_at {P S : List α} {x y : α} {i : Nat} (hi : i = P.length) : (P ++ x :: S).set i y = P ++ y :: S := by
 subst hi; simp
theorem swap_at {P Q S : List α} {x y : α} {i j : Nat} (hi : i = P.length) (hj : j = P.length + 1 + Q.length) : ((P ++ x :: (Q ++ y :: S)).set i y).set j x = P ++ y :: (Q ++ x :: S) := by
 rw [set_at hi]
 have := set_at (P := P ++ y :: Q) (S := S) (x := y) (y := x) (i := j) (by simp; omega)
 simpa using this
end
def swC (P X M Y S : List Value) (k : Nat) : List Value := (P ++ Y.take k) ++ (X.drop k ++ ((M ++ X.take k) ++ (Y.drop k ++ S)))
theorem swC_zero (P X M Y S : List Value) : swC P X M Y S 0 = P ++ (X ++ (M ++ (Y ++ S))) := by simp [swC]
theorem swC_end {P X M Y S : List Value} {k : Nat} (h : k = X.length) (h2 : k = Y.length) : swC P X M Y S k = P ++ (Y ++ (M ++ (X ++ S))) := by
 unfold swC
 rw [List.take_of_length_le (by omega), List.take_of_length_le (by omega), List.drop_of_length_le (by omega), List.drop_of_length_le (by omega)]
 simp
theorem swC_form {P X M Y S : List Value} {k : Nat} (h : k < X.length) (h2 : X.length = Y.length) : ∃ x y, x ∈ X ∧ y ∈ Y ∧
  swC P X M Y S k = (P ++ Y.take k) ++ x :: ((X.drop (k + 1) ++ (M ++ X.take k)) ++ y :: (Y.drop (k + 1) ++ S)) ∧
  swC P X M Y S (k + 1) = (P ++ Y.take k) ++ y :: ((X.drop (k + 1) ++ (M ++ X.take k)) ++ x :: (Y.drop (k + 1) ++ S)) := by
 refine ⟨X[k], Y[k], List.getElem_mem h, List.getElem_mem (by omega), ?_, ?_⟩
 ·unfold swC
  rw [List.drop_eq_getElem_cons h, List.drop_eq_getElem_cons (show k < Y.length by omega)]
  simp only [List.append_assoc, List.cons_append]
 ·unfold swC
  rw [List.take_succ_eq_append_getElem h, List.take_succ_eq_append_getElem (show k < Y.length by omega)]
  simp only [List.append_assoc, List.cons_append, List.nil_append]
theorem swC_get {P X M Y S : List Value} {k : Nat} (h : k < X.length) (h2 : X.length = Y.length) : ∃ x y, x ∈ X ∧ y ∈ Y ∧ (swC P X M Y S k)[P.length + k]? = some x ∧ (swC P X M Y S k)[P.length + X.length + M.length + k]? = some y ∧
  ((swC P X M Y S k).set (P.length + k) y).set (P.length + X.length + M.length + k) x = swC P X M Y S (k + 1) := by
 obtain ⟨x, y, hx, hy, e1, e2⟩ := swC_form (P := P) (M := M) (S := S) h h2
 have l1 : (P ++ Y.take k).length = P.length + k := by rw [List.length_append, List.length_take]; omega
 have l2 : (X.drop (k + 1) ++ (M ++ X.take k)).length = X.length - (k + 1) + M.length + k := by rw [List.length_append, List.length_append, List.length_take, List.length_drop]; omega
 refine ⟨x, y, hx, hy, ?_, ?_, ?_⟩
 ·rw [e1, List.getElem?_append_right (by omega), l1]; simp
 ·rw [e1, List.getElem?_append_right (by omega), l1, show P.length + X.length + M.length + k - (P.length + k) = (X.drop (k + 1) ++ (M ++ X.take k)).length + 1 by omega, List.getElem?_cons_succ, List.getElem?_append_right (by omega)]; simp
 ·rw [e1, e2]
  exact swap_at l1.symm (by omega)
theorem swC_len (P X M Y S : List Value) (k : Nat) (h : X.length = Y.length) : (swC P X M Y S k).length = P.length + X.length + M.length + Y.length + S.length := by
 unfold swC
 simp only [List.length_append, List.length_take, List.length_drop]
 omega
theorem swapRCt (F : Heap) (bd n cap : Nat) (T : TypeId) (P X M Y D : List Value) (cv : Value) (hn : X.length = Y.length) (hX : OneC X) (hY : OneC Y) (hl : P.length + X.length + M.length + Y.length ≤ n) (hl2 : n ≤ P.length + X.length + M.length + Y.length + D.length) (hm : n ≤ 1000000000000) :
  Ct Tryz.prog 183 [.slice (some ⟨bd, 0, none⟩) n cap, .int .i64 (P.length : Nat), .int .i64 ((P.length + X.length + M.length : Nat) : Int), .int .i64 (X.length : Nat), cv] F [[(bd, .cells ⟨P ++ (X ++ (M ++ (Y ++ D)))⟩ T (0, 0))]]
   (fun _ G' u => G' = [[(bd, .cells ⟨P ++ (Y ++ (M ++ (X ++ D)))⟩ T (0, 0))]]) := by
 rw [← swC_zero]
 generalize hb : P.length + X.length + M.length = b at *
 refine Ct.enter Tryz.func183 rfl Tryz.ntmps183 rfl fun w0 a S => ?_
 (revert S a; refine go 5 ?_; intro a S)
 refine wpc_loop (fun q a w' => ∃ (k : Nat), q = X.length - k ∧ k ≤ X.length ∧ St 38 [(0, .slice (some ⟨bd, 0, none⟩) n cap), (1, .int .i64 (P.length : Nat)), (2, .int .i64 (b : Nat)), (3, .int .i64 (X.length : Nat)), (10, .int .i64 (k : Nat))] w0 F (keys [[(bd, .cells ⟨swC P X M Y D 0⟩ T (0, 0))]]) F [[(bd, .cells ⟨swC P X M Y D k⟩ T (0, 0))]] a w') ?_ ?_
 ·(refine ⟨X.length, 0, by omega, Nat.zero_le _, ?_⟩; refine S.keep ?_; exact zk)
 (clear S; rintro q a w ⟨k, rfl, hk, S⟩)
 (revert S a; refine go 7 ?_; intro Z hZ a S)
 refine wpc_sp S rfl ?_ ?_ <;> intro h
 ·(revert S a; revert hZ Z; refine go 4 ?_; intro Z hZ a S)
  (obtain ⟨x, y, hxm, hym, hx, hy, hsw⟩ := swC_get (P := P) (M := M) (S := D) (show k < X.length by omega) hn; rw [hb] at hy hsw; have hsl := swC_len P X M Y D k hn)
  (refine wpc_mixM [0, 1, 2, 3, 4, 5, 6, 7, 8, 9, 10, 11, 12, 13, 14, 15, 16, 17, 18, 19, 20, 22] [13, 19] [21, 23] (.one 0 (.one 1 (.one 2 (.one 3 (.one 4 (.one 5 (.one 6 (.one 7 (.one 8 (.one 9 (.one 10 (.one 11 (.one 12 (.one 13 (.one 14 (.one 15 (.one 16 (.one 17 (.one 18 (.one 19 (.one 20 (.one 21 (.one 22 (.one 23 .nil)))))))))))))))))))))))) [bd] S mixed (by kernel_rfl) ?_; clear S; intro w S)
  (revert S a; refine go 13 ?_; intro a S)
  (refine wpm_lateO bd S rfl rfl rfl (want_none _ rfl) rfl rfl (fun w' S => sv_loadO S rfl rfl (by simpa using hy)) ?_; clear S a; intro a S)
  (revert S a; refine go 5 ?_; intro a S)
  (refine wpm_lateO bd S rfl rfl rfl (want_none _ rfl) rfl rfl (fun w' S => sv_loadO S rfl rfl (by simpa using hx)) ?_; clear S a; intro a S)
  (revert S a; refine go 2 ?_; intro a S)
  (refine wpl_store1 S rfl rfl rfl rfl rfl (hY _ hym) (by rw [hsl]; omega) ?_; clear S; intro w S)
  (revert S a; refine go 2 ?_; intro a S)
  refine wpm_eff rfl rfl (fun h => absurd h (by decide)) ?_
  (refine wpl_store1 S rfl rfl rfl rfl rfl (hX _ hxm) (by rw [List.length_set, hsl]; omega) ?_; clear S; intro w S; (simp only [Nat.zero_add, Nat.mul_one] at S); rw [hsw] at S)
  refine wpList_nil ?_
  refine wpm_nil (fun h => absurd h (by decide)) ?_
  (revert S a; revert hZ Z; refine go 6 ?_; intro a S)
  change ∃ m', _ ∧ _
  (refine ⟨X.length - (k + 1), by omega, k + 1, rfl, by omega, ?_⟩; (refine S.keep ?_; exact zk))
 (refine wp_exit ?_; conv => whnf)
 refine fin_end S (results0 Tryz.results183) ?_
 (have hk2 : k = X.length := (by omega); rw [hk2, swC_end rfl hn])
theorem swapNCt (F : Heap) (bd n cap : Nat) (T : TypeId) (P X M Y D : List Value) (cv : Value) (a b q : Nat) (ha : a = P.length) (hb : b = P.length + X.length + M.length) (hq : q = X.length) (hn : X.length = Y.length) (hX : OneC X) (hY : OneC Y) (hl : P.length + X.length + M.length + Y.length ≤ n) (hl2 : n ≤ P.length + X.length + M.length + Y.length + D.length) (hm : n ≤ 1000000000000) :
  Ct Tryz.prog 183 [.slice (some ⟨bd, 0, none⟩) n cap, .int .i64 (a : Nat), .int .i64 (b : Nat), .int .i64 (q : Nat), cv] F [[(bd, .cells ⟨P ++ (X ++ (M ++ (Y ++ D)))⟩ T (0, 0))]]
   (fun _ G' u => G' = [[(bd, .cells ⟨P ++ (Y ++ (M ++ (X ++ D)))⟩ T (0, 0))]]) := by
 subst ha; subst hb; subst hq
 exact swapRCt F bd n cap T P X M Y D cv hn hX hY hl hl2 hm
theorem RotI.gt {m n : Nat} {G L A B R : List Value} (h : RotI m n G L A B R) (hg : B.length < A.length) : ∃ X Y, A = X ++ Y ∧ X.length = B.length ∧ Y.length = A.length - B.length ∧ RotI m n G (L ++ B) Y X R := by
 have e : A = A.take B.length ++ A.drop B.length := (List.take_append_drop _ _).symm
 have e1 : (A.take B.length).length = B.length := by rw [List.length_take]; omega
 have e2 : (A.drop B.length).length = A.length - B.length := List.length_drop
 have ho := h.oa
 rw [e] at ho
 have h1 := h.l1
 have h2 := h.l2
 have h3 := h.m
 refine ⟨_, _, e, e1, e2, ⟨?_, ?_, ?_, ho.right, ho.left, ?_, ?_, ?_⟩⟩
 ·rw [List.length_append, e2]; omega
 ·omega
 ·have := h.b; omega
 ·rw [List.length_append, e1, e2]; omega
 ·rw [List.length_append, e1, e2]; omega
 ·rw [← h.g]
  conv => rhs; rw [e]
  simp only [List.append_assoc]
theorem zzSo0 {p : Prop} (h : p := by (first | (have e3 : A1.length - B1.length = Y.length := (by omega); have e4 : B1.length = X.length := (by omega); refine ⟨Y.length + X.length, by omega, L1 ++ B1, Y, X, R1, rfl, hIg, ?_⟩; rw [List.append_assoc L1 B1, ← e3, hx]; (refine S.keep ?_; exact zk); done) | (have e3 : B1.length - A1.length = X.length := (by omega); have e4 : A1.length = Y.length := (by omega); refine ⟨Y.length + X.length, by omega, L1, Y, X, A1 ++ R1, rfl, hIl, ?_⟩; rw [← e3, hx]; (refine S.keep ?_; exact zk); done) | trace_state)) : p := h
theorem rotCt (F : Heap) (bd n cap : Nat) (T : TypeId) (P A B D : List Value) (cv : Value) (pa m pb : Nat) (ha : pa = P.length) (hb : pb = P.length + A.length + B.length) (hm : n ≤ 1000000000000) (hI : RotI m n (P ++ (B ++ (A ++ D))) P A B D) :
  Ct Tryz.prog 168 [.slice (some ⟨bd, 0, none⟩) n cap, .int .i64 (pa : Nat), .int .i64 (m : Nat), .int .i64 (pb : Nat), cv] F [[(bd, .cells ⟨P ++ (A ++ (B ++ D))⟩ T (0, 0))]]
   (fun _ G' u => G' = [[(bd, .cells ⟨P ++ (B ++ (A ++ D))⟩ T (0, 0))]]) := by
 have hmm := hI.m
 have hm1 := hI.l1
 have hm2 := hI.l2
 generalize hgg : P ++ (B ++ (A ++ D)) = Gf at *
 refine Ct.enter Tryz.func168 rfl Tryz.ntmps168 rfl fun w0 a S => ?_
 (revert S a; refine go 3 ?_; intro Z hZ a S)
 first | (refine wv S (sv_subN S rfl rfl rfl (by omega)) ?_; clear S a; intro a S) | (refine wv S (sv_sub S rfl rfl rfl (by omega)) ?_; clear S a; intro a S)
 (revert S a; revert hZ Z; refine go 6 ?_; intro Z hZ a S)
 first | (refine wv S (sv_subN S rfl rfl rfl (by omega)) ?_; clear S a; intro a S) | (refine wv S (sv_sub S rfl rfl rfl (by omega)) ?_; clear S a; intro a S)
 (revert S a; revert hZ Z; refine go 5 ?_; intro Z hZ a S)
 refine wpc_loop (fun q a' w' => ∃ (L A B R : List Value), q = A.length + B.length ∧ RotI m n Gf L A B R ∧ St 58 [(0, .slice (some ⟨bd, 0, none⟩) n cap), (2, .int .i64 (m : Nat)), (4, cv), (10, .int .i64 (A.length : Nat)), (11, .int .i64 (B.length : Nat))] w0 F (keys [[(bd, .cells ⟨P ++ (A ++ (B ++ D))⟩ T (0, 0))]]) F [[(bd, .cells ⟨L ++ (A ++ (B ++ R))⟩ T (0, 0))]] a' w') ?_ ?_
 ·(have e1 : m - pa = A.length := (by omega); have e2 : pb - m = B.length := (by omega); rw [e1, e2] at S; refine ⟨_, P, A, B, D, rfl, hI, ?_⟩; refine S.keep ?_; exact zk)
 (clear S; rintro q a w ⟨L1, A1, B1, R1, rfl, hI1, S⟩; have q1 := hI1.m; have q2 := hI1.l1; have q3 := hI1.l2; have q4 := hI1.a; have q5 := hI1.b)
 (revert S a; refine go 7 ?_; intro Z hZ a S)
 refine wpc_sp S rfl ?_ ?_ <;> intro h
 ·(revert S a; revert hZ Z; refine go 9 ?_; intro a S)
  refine wpc_sp S rfl ?_ ?_ <;> intro h
  ·(revert S a; refine go 4 ?_; intro Z hZ a S)
   first | (refine wv S (sv_subN S rfl rfl rfl (by omega)) ?_; clear S a; intro a S) | (refine wv S (sv_sub S rfl rfl rfl (by omega)) ?_; clear S a; intro a S)
   (revert S a; refine go 3 ?_; intro a S)
   (obtain ⟨X, Y, eA, hx, hy, hIg⟩ := hI1.gt (by omega); have hXY := hI1.oa; rw [eA] at hXY; have e9 : L1 ++ (A1 ++ (B1 ++ R1)) = L1 ++ (X ++ (Y ++ (B1 ++ R1))) := (by rw [eA, List.append_assoc]); rw [e9] at S; refine wpl_callOwn (Gs := [[(bd, .cells ⟨L1 ++ (X ++ (Y ++ (B1 ++ R1)))⟩ T (0, 0))]]) (Gr := []) S rfl rfl rfl rfl rfl rfl (swapNCt F bd n cap T L1 X Y B1 R1 cv _ _ _ (by omega) (by omega) (by omega) (by omega) hXY.left hI1.ob (by omega) (by omega) hm) rfl (by simp) ?_; clear S a; intro v31 G9 a w hv S; subst hv)
   (revert S a; revert hZ Z; refine go 5 ?_; intro a S)
   first | (refine wv S (sv_subN S rfl rfl rfl (by omega)) ?_; clear S a; intro a S) | (refine wv S (sv_sub S rfl rfl rfl (by omega)) ?_; clear S a; intro a S)
   (revert S a; refine go 2 ?_; intro a S)
   change ∃ m', _ ∧ _
   exact zzSo0
  (revert S a; refine go 4 ?_; intro Z hZ a S)
  first | (refine wv S (sv_subN S rfl rfl rfl (by omega)) ?_; clear S a; intro a S) | (refine wv S (sv_sub S rfl rfl rfl (by omega)) ?_; clear S a; intro a S)
  (revert S a; refine go 4 ?_; intro a S)
  first | (refine wv S (sv_subN S rfl rfl rfl (by omega)) ?_; clear S a; intro a S) | (refine wv S (sv_sub S rfl rfl rfl (by omega)) ?_; clear S a; intro a S)
  (revert S a; refine go 2 ?_; intro a S)
  (obtain ⟨X, Y, eB, hx, hy, hIl⟩ := hI1.lt (by omega); have hXY := hI1.ob; rw [eB] at hXY; have e9 : L1 ++ (A1 ++ (B1 ++ R1)) = L1 ++ (A1 ++ (X ++ (Y ++ R1))) := (by rw [eB, List.append_assoc]); rw [e9] at S; refine wpl_callOwn (Gs := [[(bd, .cells ⟨L1 ++ (A1 ++ (X ++ (Y ++ R1)))⟩ T (0, 0))]]) (Gr := []) S rfl rfl rfl rfl rfl rfl (swapNCt F bd n cap T L1 A1 X Y R1 cv _ _ _ (by omega) (by omega) (by omega) (by omega) hI1.oa hXY.right (by omega) (by omega) hm) rfl (by simp) ?_; clear S a; intro v46 G9 a w hv S; subst hv)
  (revert S a; revert hZ Z; refine go 5 ?_; intro a S)
  first | (refine wv S (sv_subN S rfl rfl rfl (by omega)) ?_; clear S a; intro a S) | (refine wv S (sv_sub S rfl rfl rfl (by omega)) ?_; clear S a; intro a S)
  (revert S a; refine go 2 ?_; intro a S)
  change ∃ m', _ ∧ _
  exact zzSo0
 (refine wp_exit ?_; conv => whnf)
 clear hZ Z
 (revert S a; revert hZ Z; refine go 5 ?_; intro a S)
 first | (refine wv S (sv_subN S rfl rfl rfl (by omega)) ?_; clear S a; intro a S) | (refine wv S (sv_sub S rfl rfl rfl (by omega)) ?_; clear S a; intro a S)
 (revert S a; refine go 3 ?_; intro a S)
 (refine wpl_callOwn (Gs := [[(bd, .cells ⟨L1 ++ (A1 ++ ([] ++ (B1 ++ R1)))⟩ T (0, 0))]]) (Gr := []) S rfl rfl rfl rfl rfl rfl (swapNCt F bd n cap T L1 A1 [] B1 R1 cv _ _ _ (by omega) (by simp only [List.length_nil]; omega) (by omega) (by omega) hI1.oa hI1.ob (by simp only [List.length_nil]; omega) (by simp only [List.length_nil]; omega) hm) rfl (by simp) ?_; clear S a; intro v57 G9 a w hv S; subst hv)
 refine wpList_nil ?_
 refine fin_end S (results0 Tryz.results168) ?_
 (rw [← hI1.g]; rfl)
end Go.Proofs.YtbhipiepfclneaaGreatDoor
