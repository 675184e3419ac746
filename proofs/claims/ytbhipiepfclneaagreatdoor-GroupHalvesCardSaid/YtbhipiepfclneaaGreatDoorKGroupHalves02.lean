/- Walks. -/
import Derived.Test.YtbhipiepfclneaaGreatDoorQ13
import Derived.Test.YtbhipiepfclneaaGreatDoorQ12
import Derived.Test.YtbhipiepfclneaaGreatDoorKGroupHalves01
import Derived.Test.YtbhipiepfclneaaGreatDoorQ09
import Derived.Test.YtbhipiepfclneaaGreatDoorQ06
import Derived.Test.YtbhipiepfclneaaGreatDoorQ05
import Derived.Test.YtbhipiepfclneaaGreatDoorQ04
import Derived.Test.YtbhipiepfclneaaGreatDoorQ03
import Derived.Test.YtbhipiepfclneaaGreatDoorQ02
import Derived.Test.YtbhipiepfclneaaGreatDoorQ01
import Derived.Lib.SlTrimSet
import Derived.Shelf.Strings.Prefix
import Derived.Lib.Bytealg
import Derived.Test.YtbhipiepfclneaaGreatDoorQ15
import Derived.OpenShut
import Derived.Below
import Derived.Carry
import Derived.SizedLaws
import Derived.Deep.Slices
import Derived.Deep.Strs
import Derived.Test.YtbhipiepfclneaaGreatDoorQ17
import Derived.Test.YtbhipiepfclneaaGreatDoorQ14
import Derived.ChangeSame
import Derived.Test.YtbhipiepfclneaaGreatDoorQ16
import Derived.Test.YtbhipiepfclneaaGreatDoorQ11
import Derived.Test.YtbhipiepfclneaaGreatDoorKGroupHalvesTy
import Derived.Test.YtbhipiepfclneaaGreatDoorQ10
import Derived.Test.YtbhipiepfclneaaGreatDoorQShelf
import Derived.Test.YtbhipiepfclneaaGreatDoorRows
import Derived.Test.YtbhipiepfclneaaGreatDoorCards
import Derived.Test.YtbhipiepfclneaaGreatDoorTie
import Derived.WalkKit
import Derived.ProofKit
import Derived.LaidMore
import Derived.LaidHandle
import Derived.Lay
import Derived.ShutString
import Derived.Stop.Joined
import Derived.ChangeOld
import Derived.SevenTiedAt
import Derived.Test.YtbhipiepfclneaaGreatDoorQ18
import Derived.Test.YtbhipiepfclneaaGreatDoorQ29
import Derived.Test.YtbhipiepfclneaaGreatDoorQ28
import Derived.Test.YtbhipiepfclneaaGreatDoorQ27
import Derived.Test.YtbhipiepfclneaaGreatDoorQ26
import Derived.Test.YtbhipiepfclneaaGreatDoorQ25
import Derived.Test.YtbhipiepfclneaaGreatDoorQ24
import Derived.Test.YtbhipiepfclneaaGreatDoorQ23
import Derived.Test.YtbhipiepfclneaaGreatDoorQ22
import Derived.Test.YtbhipiepfclneaaGreatDoorQ21
import Derived.Test.YtbhipiepfclneaaGreatDoorQ20
import Derived.Test.YtbhipiepfclneaaGreatDoorQ19
namespace Go.De
open Go Go.Wk Go.Un
set_option linter.unusedSimpArgs false
set_option linter.unusedVariables false
def eq2 {α : Type} (p : VH → Vf → α → Bool) : Vf → List α → Bool
 | .nil, [] => true
 | .cons h L r, t :: ts => p h L t && eq2 p r ts
 | _, _ => false
end Go.De
namespace Go.Proofs.YtbhipiepfclneaaGreatDoor
open Go Go.Wk Go.Un Go.De
set_option linter.unusedSimpArgs false
set_option linter.unusedVariables false
theorem sameH_iff {h h2 : VH} : sameH h h2 = true ↔ h = h2 := by
 unfold sameH
 simp only [Bool.and_eq_true, decide_eq_true_eq]
 obtain ⟨a, b, c⟩ := h
 obtain ⟨a2, b2, c2⟩ := h2
 simp
theorem sameL_iff : ∀ {l m : Vf}, sameL l m = true ↔ l = m
 | .nil, .nil => by simp [sameL]
 | .nil, .cons _ _ _ => by simp [sameL]
 | .cons _ _ _, .nil => by simp [sameL]
 | .cons h L r, .cons h2 L2 r2 => by
  unfold sameL
  rw [Bool.and_eq_true, Bool.and_eq_true, sameH_iff, sameL_iff (l := L), sameL_iff (l := r)]
  constructor
  ·rintro ⟨⟨rfl, rfl⟩, rfl⟩; rfl
  ·intro e; cases e; exact ⟨⟨rfl, rfl⟩, rfl⟩
theorem sameV_iff {x y : Vv} : sameV x y = true ↔ x = y := by
 unfold sameV
 rw [Bool.and_eq_true, sameH_iff, sameL_iff]
 exact ⟨fun h => Prod.ext h.1 h.2, fun h => by rw [h]; exact ⟨rfl, rfl⟩⟩
end Go.Proofs.YtbhipiepfclneaaGreatDoor
namespace Go.Wk
open Go Go.ChangeShapes Go.WideShapes
set_option linter.unusedSimpArgs false
set_option linter.unusedVariables false
theorem at_heapOf (w : World) : At w (heapOf w) [] := ⟨fun _ _ h => h, fun p h => by simp at h, by simp [keys]⟩
theorem below_of {W W' : World} {F' : Heap} {G' : List Grp} (h : Tr W (heapOf W) [] W' F' G') : Go.RowKit.Below W.heap.size W W' :=
 ⟨h.os, h.tape, h.output, h.size, fun k hk => h.old k hk (by simp)⟩
theorem cel_of {W : World} {a : Addr} {v : Value} (h : W.cell? a = some v) : a.spot = none ∧ Cel (heapOf W) a.block a.off v := by
 refine ⟨World.cell?_spot h, ?_⟩
 unfold World.cell? at h
 split at h
 ·rename_i c e f hc
  split at h
  ·cases h
  ·exact ⟨c, e, f, hc, h⟩
 ·cases h
theorem cels_flat {α : Type} {cell : α → List Value} {sz : Nat} (hlen : ∀ x, (cell x).length = sz) {F : Heap} {b : Nat} : ∀ (l : List α) (off : Nat), (∀ i x, l[i]? = some x → Cels F b (off + i * sz) (cell x)) → Cels F b off (l.flatMap cell)
 | [], _, _ => fun _ _ h => by simp at h
 | x :: r, off, h => by
  rw [List.flatMap_cons]
  refine Cels.append (by have := h 0 x rfl; simpa using this) ?_
  rw [hlen]
  refine cels_flat hlen r _ fun i y hy => ?_
  have := h (i + 1) y hy
  rw [show off + sz + i * sz = off + (i + 1) * sz by rw [Nat.add_mul]; omega]
  exact this
end Go.Wk
namespace Go.De
open Go Go.Wk Go.Un Go.ChangeShapes Go.WideShapes
set_option linter.unusedSimpArgs false
set_option linter.unusedVariables false
theorem weightsAll_mem' {H : Type} {P : Program} {e : TypeId} {d : DataW H} : ∀ {l : List (DataW H)}, d ∈ l → ∀ q ∈ d.weights P e, q ∈ DataW.weightsAll P e l
 | x :: l, hd, q, hq => by
  unfold DataW.weightsAll
  rcases List.mem_cons.1 hd with rfl | hd
  ·exact List.mem_append_left _ hq
  ·exact List.mem_append_right _ (weightsAll_mem' hd q hq)
theorem open_listW {α : Type} [Inhabited α] {H : Type} {enc : TypeId × Value → H} {P : Program} {w : World} {spare : Nat → Bool} {held : Bool} {t e : TypeId} (cell : α → List Value) {sz : Nat} (good : α → Prop)
  (ht : P.underlying t = some (.slice e)) (hc : P.cellsOf e = sz) (h0 : 0 < sz) (hlen : ∀ x, (cell x).length = sz)
  {cs0 : List Value} {d : DataW H} {p : List MemPlace} {fuel : Nat} (h : DataW.trod enc P w 0 spare held fuel t cs0 = some (d, p)) (hw : (d.weights P t).all (· ≤ reachBytes) = true)
  (hel : ∀ n cs d' p, DataW.trod enc P w 0 spare held n e cs = some (d', p) → SizeOf.sizeOf d' < SizeOf.sizeOf d → (d'.weights P e).all (· ≤ reachBytes) = true → ∃ x, cs = cell x ∧ good x) :
  ∃ (a : Option Addr) (len cap : Nat) (l : List α), cs0 = [.slice a len cap] ∧ l.length = len ∧ len ≤ maxLen ∧ (∀ x ∈ l, good x) ∧ SlC (heapOf w) (.slice a len cap) len (l.flatMap cell) ∧ len * P.bytesOf e ≤ reachBytes := by
 rcases Go.Deep.open_slice ht h with ⟨rfl, _⟩ | ⟨x, len, cap, m, n, D, Pl, rfl, -, hl, hm, hmm, hx, hi⟩
 ·exact ⟨none, 0, 0, [], rfl, rfl, Nat.zero_le _, by simp, ⟨none, 0, rfl, Nat.le_refl _, fun h => absurd h (by omega)⟩, by rw [Nat.zero_mul]; exact Nat.zero_le _⟩
 ·obtain ⟨hd, -⟩ := Prod.mk.inj hx
  have hlm : len ≤ m := by rw [hmm]; split <;> omega
  have hwe : ∀ q, q ∈ (len + (m - len)) * P.bytesOf e :: (DataW.weightsAll P e ((List.range len).map D) ++ DataW.weightsAll P e ((List.range (m - len)).map fun j => D (len + j))) → q ≤ reachBytes := fun q hq => by
   have h1 := List.all_eq_true.1 hw q (by rw [hd]; simp only [DataW.weights, ht, List.length_map, List.length_range]; exact hq)
   simpa using h1
  have hch : ∀ i, i < len → ∃ y, (∀ j v, (cell y)[j]? = some v → w.cell? ((x.add (i * sz)).add j) = some v) ∧ good y := fun i hi' => by
   obtain ⟨cs, h1, h2⟩ := hi i (by omega)
   rw [hc] at h1
   obtain ⟨y, rfl, hy⟩ := hel _ _ _ _ h2 (by
    rw [hd]
    have := List.sizeOf_lt_of_mem (List.mem_map.2 ⟨i, List.mem_range.2 hi', rfl⟩ : D i ∈ (List.range len).map D)
    simp only [DataW.slice.sizeOf_spec]
    omega) (by
    rw [List.all_eq_true]
    intro q hq
    have := hwe q (List.mem_cons_of_mem _ (List.mem_append_left _ (weightsAll_mem' (List.mem_map.2 ⟨i, List.mem_range.2 hi', rfl⟩) q hq)))
    simpa using this)
   refine ⟨y, fun j v hj => ?_, hy⟩
   obtain ⟨_, _, h3⟩ := World.cells?_some h1
   have hj2 := (List.getElem?_eq_some_iff.1 hj).1
   rw [hlen] at hj2
   exact (h3 j hj2).trans hj
  obtain ⟨X, hX⟩ := Go.Deep.choose_lt hch
  have hget : ∀ i y, ((List.range len).map X)[i]? = some y → i < len ∧ y = X i := fun i y hy => by
   have := (List.getElem?_eq_some_iff.1 hy).1
   simp only [List.length_map, List.length_range] at this
   rw [List.getElem?_map, List.getElem?_range this] at hy
   exact ⟨this, by simpa using hy.symm⟩
  refine ⟨some x, len, cap, (List.range len).map X, rfl, by simp, Nat.le_trans hl hm, fun y hy => ?_, ⟨some x, cap, rfl, hl, fun hk => ?_⟩, ?_⟩
  ·obtain ⟨i, hi1, rfl⟩ := List.mem_map.1 hy
   exact (hX i (List.mem_range.1 hi1)).2
  ·obtain ⟨b, off, spot⟩ := x
   have hsp : spot = none := by
    have hp : 0 < (cell (X 0)).length := by rw [hlen]; exact h0
    have := (hX 0 hk).1 0 _ (List.getElem?_eq_getElem hp)
    simpa [Addr.add] using World.cell?_spot this
   subst hsp
   refine ⟨b, off, rfl, cels_flat hlen _ _ fun i y hy => ?_⟩
   obtain ⟨hi1, rfl⟩ := hget i y hy
   intro j v hv
   have := (cel_of ((hX i hi1).1 j v hv)).2
   rw [add_none, add_none] at this
   exact this
  ·have h1 := hwe _ (List.mem_cons_self ..)
   exact Nat.le_trans (Nat.mul_le_mul_right _ (by omega)) h1
section
variable {H : Type} {enc : TypeId × Value → H} {P : Program} {w : World} {spare : Nat → Bool} {held : Bool} {m : Nat} {t : TypeId}
theorem Opn.imp {R R' : List Value → Prop} (h : Opn enc P w spare held m t R) (hi : ∀ cs, R cs → R' cs) : Opn enc P w spare held m t R' := fun f cs d p h1 h2 h3 => hi _ (h f cs d p h1 h2 h3)
theorem opn_int {k : IntKind} (ht : P.underlying t = some (.int k)) : Opn enc P w spare held m t (fun cs => ∃ n, cs = [.int k n] ∧ (Lit.int k n).wf = true) := fun f cs d p _ h _ => by
 obtain ⟨n, h1, _, h2⟩ := DataW.trod_int ht h
 exact ⟨n, h1, h2⟩
theorem lic_flat {α : Type} {F : Heap} {sz : Nat} {R : Heap → α → List Value → Prop} : ∀ {l : List {cs : List Value // cs.length = sz}}, (∀ x ∈ l, ∃ y, R F y x.1) → ∃ ys : List α, ys.length = l.length ∧ LiC F sz R (l.flatMap Subtype.val) ys
 | [], _ => ⟨[], rfl, rfl⟩
 | x :: l, h => by
  obtain ⟨y, hy⟩ := h x (List.mem_cons_self ..)
  obtain ⟨ys, h1, h2⟩ := lic_flat fun z hz => h z (List.mem_cons_of_mem _ hz)
  exact ⟨y :: ys, by simp [h1], x.1, _, rfl, x.2, hy, h2⟩
theorem lim_slc {α : Type} {F : Heap} {sz n : Nat} {R : Heap → α → List Value → Prop} {v : Value} {xs : List Value} {l : List α} (h : SlC F v n xs) (hl : LiC F sz R xs l) (hn : l.length = n) (hm : n ≤ 140737488355328) : LiM F sz R v l := by
 obtain ⟨ao, cap, rfl, h1, h2⟩ := h
 subst hn
 refine ⟨ao, cap, rfl, ⟨h1, hm⟩, fun hp => ?_⟩
 obtain ⟨b, o, e, h3⟩ := h2 hp
 refine ⟨b, o, e, fun k x hx => ?_⟩
 obtain ⟨cs, h5, h6, h7⟩ := LiC.get hl hx
 exact ⟨cs, fun j u hj => by rw [Nat.add_assoc]; exact h3 _ u (h5 j u hj), h6, h7⟩
instance {sz : Nat} : Inhabited {cs : List Value // cs.length = sz} := ⟨⟨List.replicate sz .nilIface, by simp⟩⟩
theorem opn_slice {α : Type} {e : TypeId} {sz : Nat} {R : Heap → α → List Value → Prop} (ht : P.underlying t = some (.slice e)) (hc : P.cellsOf e = sz) (h0 : 0 < sz) (hb : Nat.ble 1 (P.bytesOf e) = true) (he : Opn enc P w spare held m e (fun cs => cs.length = sz ∧ ∃ x, R (heapOf w) x cs)) :
  Opn enc P w spare held m t (fun cs => ∃ v l, cs = [v] ∧ LiM (heapOf w) sz R v l) := fun fuel cs d p hd h hw => by
 obtain ⟨a, len, cap, l, e1, h1, h2, h3, h4, h5⟩ := open_listW (α := {cs : List Value // cs.length = sz}) Subtype.val (fun x => ∃ y, R (heapOf w) y x.1) ht hc h0 (fun x => x.2) h hw fun n cs d' p hh hs hw' => by
  obtain ⟨hl, x, hx⟩ := he n cs d' p (by omega) hh hw'
  exact ⟨⟨cs, hl⟩, rfl, x, hx⟩
 obtain ⟨ys, h6, h7⟩ := lic_flat h3
 have hr : reachBytes ≤ 140737488355328 := by decide
 have h8 : len ≤ len * P.bytesOf e := Nat.le_mul_of_pos_right _ (Nat.le_of_ble_eq_true hb)
 exact ⟨_, ys, e1, lim_slc h4 h7 (by rw [h6, h1]) (by omega)⟩
end
end Go.De
namespace Go.Proofs.YtbhipiepfclneaaGreatDoor
open Go Go.Wk Go.Un Go.De Go.ChangeShapes Go.WideShapes Go.ChangeAt Go.RowKit Go.Num
set_option linter.unusedSimpArgs false
set_option linter.unusedVariables false
attribute [local irreducible] Go.wpList Go.Code.wp Go.wpStill Go.Wk.wpPre Go.bodyPost Go.Calls Go.Wk.Ct Go.Wk.OwnS Go.Wk.wpG Go.Wk.wpM
theorem lim_and {α : Type} {F : Heap} {sz : Nat} {R : Heap → α → List Value → Prop} {Q : α → Prop} {v : Value} {l : List α} (h : LiM F sz (fun F x cs => R F x cs ∧ Q x) v l) : LiM F sz R v l ∧ ∀ x ∈ l, Q x := by
 obtain ⟨ao, cap, rfl, hc, hpos⟩ := h
 refine ⟨⟨ao, cap, rfl, hc, fun hp => ?_⟩, fun x hx => ?_⟩
 ·obtain ⟨b, o, e, h⟩ := hpos hp
  refine ⟨b, o, e, fun k x hx => ?_⟩
  obtain ⟨cs, h1, h2, h3⟩ := h k x hx
  exact ⟨cs, h1, h2, h3.1⟩
 ·obtain ⟨k, hk, rfl⟩ := List.mem_iff_getElem.1 hx
  obtain ⟨b, o, e, h⟩ := hpos (by omega)
  obtain ⟨cs, h1, h2, h3⟩ := h k _ (List.getElem?_eq_getElem hk)
  exact h3.2
section
variable {H : Type} {enc : TypeId × Value → H} {w : World} {spare : Nat → Bool} {held : Bool}
theorem o_i64 (m : Nat) : Opn enc Tryz.prog w spare held m 2 (fun cs => ∃ n, cs = [.int .i64 n] ∧ (Lit.int .i64 n).wf = true) := opn_int Tryz.underlying2
theorem o_i64s (m : Nat) : Opn enc Tryz.prog w spare held m 42 (fun cs => ∃ v l, cs = [v] ∧ LiM (heapOf w) 1 IntR v l ∧ ∀ n ∈ l, -9223372036854775808 ≤ n ∧ n ≤ 9223372036854775807) :=
 (opn_slice (R := fun F n cs => IntR F n cs ∧ (-9223372036854775808 ≤ n ∧ n ≤ 9223372036854775807)) Tryz.underlying42 (by kernel_rfl) (by decide) (by kernel_rfl) ((o_i64 m).imp fun cs ⟨n, h, hw⟩ => by subst h; exact ⟨rfl, n, rfl, bounds_i64 hw⟩)).imp
  fun cs ⟨v, l, h1, h2⟩ => ⟨v, l, h1, lim_and h2⟩
end
theorem dropW_all {α : Type} {p : α → Bool} : ∀ {l : List α}, (∀ x ∈ l, p x = true) → l.dropWhile p = []
 | [], _ => rfl
 | x :: r, h => by
  rw [List.dropWhile_cons, h x (List.mem_cons_self ..), if_pos rfl]
  exact dropW_all fun y hy => h y (List.mem_cons_of_mem _ hy)
theorem isD_has {c : UInt8} (h : isD c = true) : digS.contains c = true := by
 unfold isD at h
 rw [Bool.and_eq_true, decide_eq_true_eq, decide_eq_true_eq] at h
 have : ∀ n : Nat, 48 ≤ n → n ≤ 57 → ∀ c : UInt8, c.toNat = n → digS.contains c = true := by
  intro n h1 h2 c hc
  have e : c = UInt8.ofNat n := by rw [← hc]; simp
  subst e
  have : n = 48 ∨ n = 49 ∨ n = 50 ∨ n = 51 ∨ n = 52 ∨ n = 53 ∨ n = 54 ∨ n = 55 ∨ n = 56 ∨ n = 57 := by omega
  rcases this with rfl | rfl | rfl | rfl | rfl | rfl | rfl | rfl | rfl | rfl <;> decide
 exact this _ h.1 h.2 c rfl
theorem trim_dig {d : List UInt8} (h : d.all isD = true) : Lib.trimS d digS = [] := by
 have h1 : d.reverse.dropWhile (digS.contains ·) = [] := dropW_all fun x hx => isD_has (List.all_eq_true.1 h x (List.mem_reverse.1 hx))
 unfold Lib.trimS Lib.trimRightS
 rw [h1]; rfl
theorem check_num {s : List UInt8} (h : checkS s = 0) : numOK s = true ∧ numN s ≤ 200 := by
 obtain ⟨h1, h2, h3⟩ := check_digits h
 have h4 : ¬ ((bodyS s).head? = some 48 ∧ s ≠ [48]) := fun e => by
  unfold checkS at h
  rw [if_pos (.inr e)] at h
  cases h
 have h5 : numOK s = true := by
  unfold numOK
  rw [numD_body, trim_dig h1, decide_eq_false h3]
  by_cases h0 : ((bodyS s).getD 0 0).toNat = 48
  ·have : s = [48] := Classical.byContradiction fun hs => h4 ⟨by
    cases hb : bodyS s with
    | nil => exact absurd hb h3
    | cons c r =>
     rw [hb] at h0
     show some c = some 48
     congr 1
     exact UInt8.toNat_inj.1 h0, hs⟩
   simp [this]
  ·rw [decide_eq_false h0]; rfl
 refine ⟨h5, ?_⟩
 unfold numN
 rw [if_pos h5, numD_body]
 omega
theorem checkV_leaf {h : VH} (h1 : formH h 0 = true) (h2 : fitsH h 0 = true) : checkV h .nil = 0 := by
 unfold checkV
 rw [if_neg (show ¬ (64 : Int) < depV .nil 0 65 + 1 by decide)]
 rw [show (formH h Rose.nil.len && formL .nil) = true by rw [show Rose.nil.len (α := VH) = 0 from rfl, h1]; rfl, if_neg (by decide)]
 rw [show (fitsH h Rose.nil.len && fitsL .nil) = true by rw [show Rose.nil.len (α := VH) = 0 from rfl, h2]; rfl, if_neg (by decide)]
def bigN (n : Int) : Vv := (bigH n, .nil)
def wayR (i : Nat) : Vf := rwH [hN (i : Int)]
theorem big_check {n : Int} (h : i64 n) : checkV (bigH n) .nil = 0 := by
 obtain ⟨h1, h2⟩ := check_num (show_ok (i64_show h)).1
 refine checkV_leaf ?_ ?_
 ·show (numOK (showZ n).1 && decide ((0 : Int) = 0 ∧ 0 = 0)) = true
  rw [h1]; rfl
 ·exact decide_eq_true h2
theorem big_may {n : Int} (h : i64 n) : mayV (bigN n) = true := decide_eq_true (big_check h)
theorem way_txt (i : Nat) : txtG (wayR i) = some (wtT i) := by
 show (if checkV (hN (i : Int)) .nil = 0 then _ else _) = _
 rw [if_pos (checkV_leaf (by rfl) (by rfl))]
 show some ((Lib.itoa (i : Int) ++ [59]) ++ []) = _
 rw [List.append_nil]; rfl
theorem arg_txt {n : Int} (h : i64 n) : (txtG (argR n)).isSome = true := by
 have h1 := big_check h
 show (txtG (.cons (bigH n) .nil (.cons (bigH n) .nil (.cons (bigH n) .nil (.cons (bigH n) .nil .nil))))).isSome = true
 simp only [txtG, if_pos h1]
 rfl
theorem arg_b {n : Int} (h : i64 n) : RowB (argR n) := by
 have h1 := check_len (show_ok (i64_show h)).1
 refine rowb_lit ?_ (by show 4 ≤ 100; decide)
 have : (decide (-9223372036854775808 ≤ (0 : Int)) && decide ((0 : Int) ≤ 9223372036854775807) && decide ((showZ n).1.length ≤ 5000)) = true := by
  rw [decide_eq_true (show (showZ n).1.length ≤ 5000 by omega)]; rfl
 unfold smL
 simp only [List.all_cons, List.all_nil, this, Bool.and_true]
theorem way_b {i : Nat} (h : i ≤ 1000) : RowB (wayR i) := by
 refine rowb_lit ?_ (by show 1 ≤ 100; decide)
 unfold smL
 have : (decide (-9223372036854775808 ≤ (i : Int)) && decide ((i : Int) ≤ 9223372036854775807) && decide (([] : List UInt8).length ≤ 5000)) = true := by
  rw [decide_eq_true (show -9223372036854775808 ≤ (i : Int) by omega), decide_eq_true (show (i : Int) ≤ 9223372036854775807 by omega)]; rfl
 simp only [List.all_cons, List.all_nil, this, Bool.and_true]
theorem wt_inj {i j : Nat} (hi : i ≤ 1000) (hj : j ≤ 1000) (h : wtT i = wtT j) : i = j := by
 have h1 : Lib.itoa (i : Int) = Lib.itoa (j : Int) := List.append_cancel_right h
 rw [show_itoa (by omega) (by omega), show_itoa (by omega) (by omega)] at h1
 have h2 := (show_ok (i64_show (n := (i : Int)) ⟨by omega, by omega⟩)).2
 have h3 := (show_ok (i64_show (n := (j : Int)) ⟨by omega, by omega⟩)).2
 rw [h1, h3] at h2
 omega
theorem ws_snoc (n : Int) : ∀ (l : List Int) (k : Nat), wsF k (l ++ [n]) = wsF k l ++ [(wtT (k + l.length), argR n)]
 | [], k => rfl
 | m :: r, k => by
  show (wtT k, argR m) :: wsF (k + 1) (r ++ [n]) = _
  rw [ws_snoc n r (k + 1)]
  show _ = (wtT k, argR m) :: (wsF (k + 1) r ++ [(wtT (k + (r.length + 1)), argR n)])
  rw [show k + 1 + r.length = k + (r.length + 1) by omega]
theorem ws_mem : ∀ (l : List Int) (k : Nat), ∀ p ∈ wsF k l, ∃ j n, k ≤ j ∧ j < k + l.length ∧ n ∈ l ∧ p = (wtT j, argR n)
 | [], _, p, h => by cases h
 | m :: r, k, p, h => by
  rcases List.mem_cons.1 h with rfl | h
  ·exact ⟨k, m, Nat.le_refl _, by show k < k + (r.length + 1); omega, List.mem_cons_self .., rfl⟩
  ·obtain ⟨j, n, h1, h2, h3, h4⟩ := ws_mem r (k + 1) p h
   exact ⟨j, n, by omega, by show j < k + (r.length + 1); omega, List.mem_cons_of_mem _ h3, h4⟩
theorem ws_len : ∀ (l : List Int) (k : Nat), (wsF k l).length = l.length
 | [], _ => rfl
 | m :: r, k => by show (wsF (k + 1) r).length + 1 = _; rw [ws_len r]; rfl
theorem ways_grp (ws : List (List UInt8 × Vf)) : waysE (grp ws) [] = ws := by
 unfold waysE grp
 by_cases h : ws = []
 ·subst h; rfl
 ·rw [if_neg h]; rfl
theorem ty_ok {n : Int} {ws : List (List UInt8 × Vf)} (h : ∀ p ∈ ws, kAt p.2 1 = 3) : typeB agH (argR n) ws = false := by
 have e1 : tyBad agH (argR n) ws 1 = false := by
  unfold tyBad
  cases ws with
  | nil => rfl
  | cons w r =>
   have h1 := h w (List.mem_cons_self ..)
   show (decide (sSum = sSum) && (decide ((3 : Nat) ≠ 2 ∧ (3 : Nat) ≠ 3) || decide (kAt w.2 1 ≠ 3))) = false
   rw [h1]; rfl
 unfold typeB
 show ([0, 1, 2, 3].any (tyBad agH (argR n) ws)) = false
 simp only [List.any_cons, List.any_nil, e1]
 rfl
theorem add_grp {n : Int} {i : Nat} {ws : List (List UInt8 × Vf)} (hn : i64 n) (hf : ∀ p ∈ ws, p.1 ≠ wtT i) (h : ∀ p ∈ ws, kAt p.2 1 = 3) :
  addE agH (grp ws) .nil (wayR i) (argR n) = 0 ∧ gAdd agH (grp ws) .nil (wayR i) (argR n) = grp (ws ++ [(wtT i, argR n)]) := by
 obtain ⟨ta, hta⟩ := Option.isSome_iff_exists.1 (arg_txt hn)
 have e0 : addE agH (grp ws) .nil (wayR i) (argR n) = 0 := by
  unfold addE
  rw [way_txt, hta, show txtG .nil = some [] from rfl]
  dsimp only
  rw [if_neg (show ¬ (argR n).len ≠ agH.length from fun e => e rfl), ways_grp, alG_none.2 hf, if_neg (by decide), ty_ok h, if_neg (by decide)]
 refine ⟨e0, ?_⟩
 unfold gAdd
 rw [if_pos e0, way_txt]
 show addG (grp ws) [] (wtT i) .nil (argR n) = _
 unfold addG grp
 rw [if_neg (show ¬ ws ++ [(wtT i, argR n)] = [] by simp)]
 by_cases h0 : ws = []
 ·subst h0; rfl
 ·rw [if_neg h0]; rfl
theorem col_ws {j : Nat} (hj : j < 4) : ∀ (l : List Int) (k : Nat), colV (wsF k l) j = l.map bigN
 | [], _ => rfl
 | m :: r, k => by
  have := col_ws hj r (k + 1)
  unfold colV at this ⊢
  show ((argR m).get? j).getD zV :: (wsF (k + 1) r).map _ = _
  rw [this]
  match j, hj with
  | 0, _ => rfl
  | 1, _ => rfl
  | 2, _ => rfl
  | 3, _ => rfl
theorem val_big {n : Int} (h : i64 n) : valN (bigN n) = n := (show_ok (i64_show h)).2
theorem val_bigs {l : List Int} (h : ∀ n ∈ l, i64 n) : (l.map bigN).map valN = l := by
 rw [List.map_map]
 conv => rhs; rw [← List.map_id l]
 exact List.map_congr_left fun n hn => val_big (h n hn)
theorem sum_big {l : List Int} (h : ∀ n ∈ l, i64 n) : l.sum.natAbs ≤ l.length * 9223372036854775808 := by
 induction l with
 | nil => exact Nat.zero_le _
 | cons n r ih =>
  have h1 := ih fun x hx => h x (List.mem_cons_of_mem _ hx)
  have h2 := h n (List.mem_cons_self ..)
  rw [List.sum_cons, List.length_cons]
  omega
theorem sum_show {l : List Int} (h : ∀ n ∈ l, i64 n) (hl : l.length ≤ 1000) : (showZ l.sum).2 = 0 := by
 refine (showZ_err _ 200 rfl).2 ?_
 have h1 := sum_big h
 have h2 : l.length * 9223372036854775808 < 10 ^ 200 := Nat.lt_of_le_of_lt (Nat.mul_le_mul_right _ hl) (by decide)
 omega
def mmN (sg : Int) (l : List Int) : Vv := maxF (sgF sg) ((l.map bigN).headD zV) ((l.map bigN).drop 1)
theorem row_ws {l : List Int} (k : Nat) (h : ∀ n ∈ l, i64 n) (h0 : l ≠ []) (hl : l.length ≤ 1000) :
  rowA agH (wsF k l) 0 = (0, intV l.length) ∧ rowA agH (wsF k l) 1 = (0, bigN l.sum) ∧ rowA agH (wsF k l) 2 = (0, mmN (-1) l) ∧ rowA agH (wsF k l) 3 = (0, mmN 1 l) := by
 refine ⟨?_, ?_, ?_, ?_⟩
 ·unfold rowA
  rw [col_ws (by decide)]
  show ((0 : Int), intV ((l.map bigN).length : Int)) = _
  rw [List.length_map]
 ·unfold rowA
  rw [col_ws (by decide)]
  show sumF (l.map bigN) = _
  unfold sumF
  rw [val_bigs h, sum_show h hl]
  cases l with
  | nil => exact absurd rfl h0
  | cons n r => rfl
 ·unfold rowA
  rw [col_ws (by decide)]
  rfl
 ·unfold rowA
  rw [col_ws (by decide)]
  rfl
theorem bigs_may {l : List Int} (h : ∀ n ∈ l, i64 n) : ∀ x ∈ l.map bigN, mayV x = true := fun x hx => by
 obtain ⟨n, hn, rfl⟩ := List.mem_map.1 hx
 exact big_may (h n hn)
theorem mm_best {sg : Int} (hs : sg = 1 ∨ sg = -1) {l : List Int} (h : ∀ n ∈ l, i64 n) (h0 : l ≠ []) : IsBest sg (l.map bigN) (mmN sg l) :=
 best_of hs (fun e => h0 (List.map_eq_nil_iff.1 e)) (bigs_may h)
theorem mm_leaf {sg : Int} (hs : sg = 1 ∨ sg = -1) {l : List Int} (h : ∀ n ∈ l, i64 n) (h0 : l ≠ []) : ∃ n, i64 n ∧ mmN sg l = bigN n := by
 obtain ⟨n, hn, e⟩ := List.mem_map.1 (mm_best hs h h0).1
 exact ⟨n, h n hn, e.symm⟩
theorem mm_both {sg : Int} (hs : sg = 1 ∨ sg = -1) {l m : List Int} (hl : ∀ n ∈ l, i64 n) (hm : ∀ n ∈ m, i64 n) (l0 : l ≠ []) (m0 : m ≠ []) :
  mmN sg (l ++ m) = if 0 < sg * cmpV2 (mmN sg m) (mmN sg l) then mmN sg m else mmN sg l := by
 have hlm : ∀ n ∈ l ++ m, i64 n := fun n hn => (List.mem_append.1 hn).elim (hl n) (hm n)
 have b1 := mm_best hs hl l0
 have b2 := mm_best hs hm m0
 have b3 := mm_best hs hlm (by simp [l0])
 have y1 := bigs_may hl _ b1.1
 have y2 := bigs_may hm _ b2.1
 refine best_unique hs (bigs_may hlm) (fun x => Iff.rfl) b3 ?_
 rw [List.map_append]
 have a1 := cmpV_anti y2 y1
 have a0 := cmpV_anti y1 y1
 split
 ·refine ⟨List.mem_append.2 (.inr b2.1), fun x hx => ?_⟩
  rcases List.mem_append.1 hx with hx | hx
  ·have h1 := b1.2 x hx
   have y := bigs_may hl x hx
   have t1 := cmpV_tri y y1 y2
   have t2 := cmpV_tri y2 y1 y
   have a2 := cmpV_anti y y1
   have a3 := cmpV_anti y y2
   rcases hs with rfl | rfl
   ·have := t1.t (by omega) (by omega); omega
   ·have := t2.t (by omega) (by omega); omega
  ·exact b2.2 x hx
 ·refine ⟨List.mem_append.2 (.inl b1.1), fun x hx => ?_⟩
  rcases List.mem_append.1 hx with hx | hx
  ·exact b1.2 x hx
  ·have h1 := b2.2 x hx
   have y := bigs_may hm x hx
   have t1 := cmpV_tri y y2 y1
   have t2 := cmpV_tri y1 y2 y
   have a2 := cmpV_anti y y2
   have a3 := cmpV_anti y y1
   rcases hs with rfl | rfl
   ·have := t1.t (by omega) (by omega); omega
   ·have := t2.t (by omega) (by omega); omega
theorem bnil : RowB .nil := ⟨trivial, Nat.zero_le _, trivial, Nat.zero_le _⟩
theorem big_sl (n : Int) : (bigH n).s.length ≤ 140737488355328 := Nat.le_trans (showZ_len n) (by decide)
theorem bigs_sl (n : Int) : ∀ h ∈ [bigH n, bigH n, bigH n, bigH n], h.s.length ≤ 140737488355328 := fun h hh => by
 have : h = bigH n := by simpa using hh
 subst this
 exact big_sl n
theorem way_sl (k : Nat) : ∀ h ∈ [hN (k : Int)], h.s.length ≤ 140737488355328 := fun h hh => by
 obtain rfl := List.mem_singleton.1 hh
 exact Nat.zero_le _
theorem ws_kind (l : List Int) (k : Nat) : ∀ p ∈ wsF k l, kAt p.2 1 = 3 := fun p hp => by
 obtain ⟨j, n, -, -, -, rfl⟩ := ws_mem l k p hp
 rfl
theorem ws_fresh {l : List Int} {k : Nat} (h : k + l.length ≤ 1000) : ∀ p ∈ wsF k l, p.1 ≠ wtT (k + l.length) := fun p hp e => by
 obtain ⟨j, n, h1, h2, -, rfl⟩ := ws_mem l k p hp
 have := wt_inj (by omega) h e
 omega
theorem hv_add {l : List Int} {k : Nat} {n : Int} (hn : i64 n) (h : k + l.length ≤ 1000) :
  addE agH (grp (wsF k l)) .nil (wayR (k + l.length)) (argR n) = 0 ∧ gAdd agH (grp (wsF k l)) .nil (wayR (k + l.length)) (argR n) = grp (wsF k (l ++ [n])) := by
 rw [ws_snoc]
 exact add_grp hn (ws_fresh h) (ws_kind l k)
theorem take_snoc {α : Type} {l : List α} {k : Nat} {x : α} (h : l[k]? = some x) : l.take (k + 1) = l.take k ++ [x] := by
 obtain ⟨h1, rfl⟩ := List.getElem?_eq_some_iff.1 h
 rw [List.take_succ_eq_append_getElem h1]
theorem ginv_ws {l : List Int} {k : Nat} (hl : ∀ n ∈ l, i64 n) (h : k + l.length ≤ 1000) : GInv agH (grp (wsF k l)) := by
 have key : ∀ j, j ≤ l.length → GInv agH (grp (wsF k (l.take j))) := by
  intro j
  induction j with
  | zero => intro _; rw [List.take_zero]; exact gInv_nil _
  | succ j ih =>
   intro hj
   have h1 := ih (by omega)
   have hx : l[j]? = some l[j] := List.getElem?_eq_getElem (by omega)
   have hn := hl _ (List.getElem_mem (by omega : j < l.length))
   have h2 := gAdd_inv (key := .nil) (way := wayR (k + (l.take j).length)) (args := argR l[j]) h1 bnil (arg_b hn)
   rw [(hv_add hn (by rw [List.length_take]; omega)).2, ← take_snoc hx] at h2
   exact h2
 have := key l.length (Nat.le_refl _)
 rwa [List.take_length] at this
def HvX (l m : List Int) (F : Heap) (k : Nat) (n : Int) (ba bb : Nat) (va vb : Value) (bX : Nat) (vX : Value) (gX gY : Grp) : Prop :=
 ∃ k0 ns, k0 + ns.length = k ∧ (∀ x ∈ ns, i64 x) ∧ GO F bX vX (grp (wsF k0 ns)) gX ∧ LiM F 1 StR vX agH ∧
  ∀ F' g', (∀ b o, F b = some o → F' b = some o) → GO F' bX vX (grp (wsF k0 (ns ++ [n]))) g' → ∃ ga gb, (g' ++ gY).Perm (ga ++ gb) ∧ GO F' ba va (grp (wsF 0 (l.take (k + 1)))) ga ∧ GO F' bb vb (grp (wsF l.length (m.take (k + 1 - l.length)))) gb
section
variable {l m : List Int} {v0 v1 : Value} {F : Heap} {k : Nat} {ba bb bc : Nat} {va vb vc : Value} {ga gb gc : Grp} {n : Int}
theorem hvx_a (hl : ∀ n ∈ l, i64 n) (hI : HvI l m v0 v1 F k ba bb bc va vb vc ga gb gc) (hk : k < l.length) (hn : l[k]? = some n) : HvX l m F k n ba bb va vb ba va ga gb := by
 refine ⟨0, l.take k, by rw [List.length_take]; omega, fun x hx => hl x (List.mem_of_mem_take hx), hI.a, hI.A, fun F' g' hF hO => ⟨g', gb, List.Perm.refl _, ?_, ?_⟩⟩
 ·rw [take_snoc hn]; exact hO
 ·have h := hI.b.mono hF
  rw [show k - l.length = 0 by omega] at h
  rw [show k + 1 - l.length = 0 by omega]; exact h
theorem hvx_b (hm : ∀ n ∈ m, i64 n) (hI : HvI l m v0 v1 F k ba bb bc va vb vc ga gb gc) (hk : ¬ k < l.length) (hn : m[k - l.length]? = some n) : HvX l m F k n ba bb va vb bb vb gb ga := by
 have h1 : k - l.length < m.length := (List.getElem?_eq_some_iff.1 hn).1
 refine ⟨l.length, m.take (k - l.length), by rw [List.length_take]; omega, fun x hx => hm x (List.mem_of_mem_take hx), hI.b, hI.B, fun F' g' hF hO => ⟨ga, g', List.perm_append_comm, ?_, ?_⟩⟩
 ·have h := hI.a.mono hF
  rw [List.take_of_length_le (by omega)] at h
  rw [List.take_of_length_le (by omega)]; exact h
 ·rw [show k + 1 - l.length = (k - l.length) + 1 by omega, take_snoc hn]; exact hO
theorem stp {n : Sz} {L : List (Nat × Value)} {w0 : World} {F0 : Heap} {K0 : List Nat} {F : Heap} {G G' : List Grp} {a : Act} {w : World} (S : St n L w0 F0 K0 F G a w) (h : G.flatten.Perm G'.flatten) : St n L w0 F0 K0 F G' a w := ⟨S.fr, S.tr.perm h⟩
theorem pm_r {A B C : Grp} : [A, B, C].flatten.Perm [C, B, A].flatten := by
 simp only [List.flatten_cons, List.flatten_nil, List.append_nil]
 rw [← List.append_assoc]
 exact List.perm_append_comm.trans (List.Perm.append_left _ List.perm_append_comm)
theorem pm_s {A B C : Grp} : [A, B, C].flatten.Perm [B, A, C].flatten := by
 simp only [List.flatten_cons, List.flatten_nil, List.append_nil]
 rw [← List.append_assoc, ← List.append_assoc]
 exact List.Perm.append_right _ List.perm_append_comm
theorem pm_b {A B C : Grp} : [A, B, C].flatten.Perm [B, C, A].flatten := by
 simp only [List.flatten_cons, List.flatten_nil, List.append_nil]
 rw [← List.append_assoc B C A]
 exact List.perm_append_comm
theorem pm_c {A B C : Grp} : [A, B, C].flatten.Perm [C, A, B].flatten := pm_b.trans pm_b
theorem pm_2 {X Y C A B : Grp} (h : (X ++ Y).Perm (A ++ B)) : [X, Y, C].flatten.Perm [A, B, C].flatten := by
 simp only [List.flatten_cons, List.flatten_nil, List.append_nil]
 rw [← List.append_assoc, ← List.append_assoc]
 exact List.Perm.append_right _ h
end
def RecC (F : Heap) (b off : Nat) (h : VH) : Prop := ∃ a c, Cels F b off (vcs ((h, .nil) : Vv) a c) ∧ RoR 4 VhR F ((h, .nil) : Vv) (vcs ((h, .nil) : Vv) a c)
theorem row_rec {F : Heap} {b o : Nat} {ao : Option Addr} {l : Vf} (hpos : 0 < l.len → ∃ b o, ao = some ⟨b, o, none⟩ ∧ TrM F 4 VhR l b o) (e : ao = some ⟨b, o, none⟩) {k : Nat} {h : VH} (hx : l.get? k = some (h, .nil)) (hk : k < l.len) : RecC F b (o + k * 4) h := by
 obtain ⟨b', o', e', x, cs, v, h1, h2, h3, h4⟩ := TrM.pos hpos hk
 rw [e] at e'
 cases e'
 rw [hx] at h1
 cases h1
 obtain ⟨a, c, rfl, h5⟩ := id h4
 obtain ⟨rfl, h6⟩ := h3
 exact ⟨a, c, h2, [_, _, _], _, rfl, rfl, ⟨rfl, h6⟩, h4⟩
theorem row4 {F : Heap} {v : Value} {x0 x1 x2 x3 : VH} (h : TrS F 4 VhR v (rwH [x0, x1, x2, x3])) : ∃ b o cap, v = .slice (some ⟨b, o, none⟩) 4 cap ∧ RecC F b (o + 0 * 4) x0 ∧ RecC F b (o + 1 * 4) x1 ∧ RecC F b (o + 2 * 4) x2 ∧ RecC F b (o + 3 * 4) x3 := by
 obtain ⟨ao, cap, rfl, hcap, hpos⟩ := h
 obtain ⟨b, o, rfl, -⟩ := id (hpos (show 0 < 4 by decide))
 exact ⟨b, o, cap, rfl, row_rec hpos rfl rfl (show 0 < 4 by decide), row_rec hpos rfl rfl (show 1 < 4 by decide), row_rec hpos rfl rfl (show 2 < 4 by decide), row_rec hpos rfl rfl (show 3 < 4 by decide)⟩
def rowH (l : List Int) (p q : Int) : Vf := rwH [hN (l.length : Int), bigH l.sum, bigH p, bigH q]
theorem row_hv {l : List Int} (k : Nat) {p q : Int} (h : ∀ n ∈ l, i64 n) (h0 : l ≠ []) (hl : l.length ≤ 1000) (hp : mmN (-1) l = bigN p) (hq : mmN 1 l = bigN q) :
  (∀ i, i < agH.length → (rowA agH (wsF k l) i).1 = 0) ∧ roseOf ((List.range agH.length).map fun i => (rowA agH (wsF k l) i).2) = rowH l p q := by
 obtain ⟨e0, e1, e2, e3⟩ := row_ws k h h0 hl
 refine ⟨fun i hi => ?_, ?_⟩
 ·match i, hi with
  | 0, _ => rw [e0]
  | 1, _ => rw [e1]
  | 2, _ => rw [e2]
  | 3, _ => rw [e3]
 ·show roseOf ([0, 1, 2, 3].map fun i => (rowA agH (wsF k l) i).2) = rowH l p q
  simp only [List.map_cons, List.map_nil, e0, e1, e2, e3, hp, hq]
  rfl
theorem grp_at {ws : List (List UInt8 × Vf)} (h : ws ≠ []) : alG (grp ws) [] = some ⟨.nil, ws⟩ := by
 unfold grp
 rw [if_neg h]; rfl
theorem ways_len {ws : List (List UInt8 × Vf)} (h : ws.length ≤ 1000) : ∀ p ∈ grp ws, p.2.ways.length ≤ 1000000000 := fun p hp => by
 unfold grp at hp
 split at hp
 ·cases hp
 ·obtain rfl := List.mem_singleton.1 hp
  exact Nat.le_trans h (by decide)
theorem ws_ne {l : List Int} {k : Nat} (h : l ≠ []) : wsF k l ≠ [] := fun e => h (List.length_eq_zero_iff.1 (by rw [← ws_len l k, e]; rfl))
theorem add_sum {l m : List Int} (hl : ∀ n ∈ l, i64 n) (hm : ∀ n ∈ m, i64 n) (h : l.length + m.length ≤ 1000) : addA (showZ l.sum).1 (showZ m.sum).1 = ((showZ (l ++ m).sum).1, 0) := by
 have h1 := show_ok (sum_show hl (by omega))
 have h2 := show_ok (sum_show hm (by omega))
 have h3 := sum_show (l := l ++ m) (fun n hn => (List.mem_append.1 hn).elim (hl n) (hm n)) (by rw [List.length_append]; exact h)
 rw [addA_eq, h1.2, h2.2]
 unfold bothE ansZ
 rw [if_pos h1.1, h2.1, if_pos rfl, ← List.sum_append]
 exact Prod.ext rfl h3
theorem last4 {F : Heap} {b : Nat} {e : TypeId} {n0 s p q : Int} {a a2 : Option Addr} {c c2 : Nat} {cs : List Value} (hb : F b = some (.cells ⟨cs⟩ e (0, 0))) (hc : cs = vcl (hN n0) ++ (vcl (bigH s) ++ (vcs (bigN p) a c ++ vcs (bigN q) a2 c2)))
  (r1 : RoR 4 VhR F (bigN p) (vcs (bigN p) a c)) (r2 : RoR 4 VhR F (bigN q) (vcs (bigN q) a2 c2)) : TrS F 4 VhR (.slice (some ⟨b, 0, none⟩) 4 4) (rwH [hN n0, bigH s, bigH p, bigH q]) := by
 subst hc
 have h1 : LiC F 4 (RoR 4 VhR) (vcl (hN n0) ++ (vcl (bigH s) ++ (vcs (bigN p) a c ++ vcs (bigN q) a2 c2))) [((hN n0, .nil) : Vv), (bigH s, .nil), bigN p, bigN q] :=
  ⟨vcl (hN n0), _, rfl, rfl, ror_vcl F _ (Nat.zero_le _), vcl (bigH s), _, rfl, rfl, ror_vcl F _ (big_sl s), vcs (bigN p) a c, _, rfl, rfl, r1, vcs (bigN q) a2 c2, [], (List.append_nil _).symm, rfl, r2, rfl⟩
 exact trs_lim (lim_of hb h1 (show 4 ≤ 140737488355328 by decide))
theorem rowH_self (l : Vf) : sameL l l = true := by
 have := sameV_iff (x := ((⟨0, 0, []⟩, l) : Vv)) (y := (⟨0, 0, []⟩, l))
 have h := this.2 rfl
 unfold sameV at h
 rw [Bool.and_eq_true] at h
 exact h.2
end Go.Proofs.YtbhipiepfclneaaGreatDoor
