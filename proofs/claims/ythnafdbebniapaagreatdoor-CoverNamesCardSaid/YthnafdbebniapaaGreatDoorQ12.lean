/- Walks. -/
import Derived.Test.YthnafdbebniapaaGreatDoorQ09
import Derived.Test.YthnafdbebniapaaGreatDoorQ11
set_option maxHeartbeats 8000000
set_option maxRecDepth 20000
namespace Go.De
open Go Go.Wk Go.Un
set_option linter.unusedSimpArgs false
set_option linter.unusedVariables false
def Sq (F : Heap) (sz : Nat) (v : Value) (n : Nat) (C : Nat → List Value → Prop) : Prop :=
 ∃ ao cap, v = .slice ao n cap ∧ (n ≤ cap ∧ n ≤ 140737488355328) ∧ (0 < n → ∃ b o, ao = some ⟨b, o, none⟩ ∧ ∀ k, k < n → ∃ cs, Cels F b (o + k * sz) cs ∧ cs.length = sz ∧ C k cs)
theorem LiM.sq {α : Type} {F : Heap} {sz : Nat} {R : Heap → α → List Value → Prop} {v : Value} {l : List α} (h : LiM F sz R v l) : Sq F sz v l.length (fun k cs => ∃ x, l[k]? = some x ∧ R F x cs) := by
 obtain ⟨ao, cap, rfl, hc, hpos⟩ := h
 refine ⟨ao, cap, rfl, hc, fun hp => ?_⟩
 obtain ⟨b, o, e, h1⟩ := hpos hp
 refine ⟨b, o, e, fun k hk => ?_⟩
 obtain ⟨cs, h2, h3, h4⟩ := h1 k _ (List.getElem?_eq_getElem hk)
 exact ⟨cs, h2, h3, _, List.getElem?_eq_getElem hk, h4⟩
theorem TrS.sq {α : Type} {F : Heap} {sz : Nat} {R : Heap → α → List Value → Prop} {v : Value} {l : Rose α} (h : TrS F sz R v l) : Sq F sz v l.len (fun k cs => ∃ x c1 u, l.get? k = some x ∧ cs = c1 ++ [u] ∧ R F x.1 c1 ∧ TrS F sz R u x.2) := by
 obtain ⟨ao, cap, rfl, hc, hpos⟩ := h
 refine ⟨ao, cap, rfl, hc, fun hp => ?_⟩
 obtain ⟨b, o, e, h1⟩ := hpos hp
 refine ⟨b, o, e, fun k hk => ?_⟩
 obtain ⟨x, hx⟩ := Rose.get_lt hk
 obtain ⟨cs, u, h2, h3, h4, h5⟩ := h1.at hx
 exact ⟨cs ++ [u], h2, by simp [h3], x, cs, u, hx, rfl, h4, h5⟩
theorem Sq.pos {F : Heap} {sz : Nat} {ao : Option Addr} {n : Nat} {C : Nat → List Value → Prop} {k : Nat} (hpos : 0 < n → ∃ b o, ao = some ⟨b, o, none⟩ ∧ ∀ k, k < n → ∃ cs, Cels F b (o + k * sz) cs ∧ cs.length = sz ∧ C k cs) (hk : k < n) :
  ∃ b o, ao = some ⟨b, o, none⟩ ∧ ∃ cs, Cels F b (o + k * sz) cs ∧ cs.length = sz ∧ C k cs := by
 obtain ⟨b, o, e, h⟩ := hpos (by omega)
 exact ⟨b, o, e, h k hk⟩
def RoR {α : Type} (sz : Nat) (R : Heap → α → List Value → Prop) (F : Heap) (x : α × Rose α) (cells : List Value) : Prop := ∃ cs v, cells = cs ++ [v] ∧ cs.length + 1 = sz ∧ R F x.1 cs ∧ TrS F sz R v x.2
def roseOf {α : Type} : List (α × Rose α) → Rose α
 | [] => .nil
 | x :: r => .cons x.1 x.2 (roseOf r)
theorem roseOf_len {α : Type} : ∀ l : List (α × Rose α), (roseOf l).len = l.length
 | [] => rfl
 | x :: r => by show (roseOf r).len + 1 = r.length + 1; rw [roseOf_len r]
theorem trm_lic {α : Type} {sz : Nat} {R : Heap → α → List Value → Prop} {F : Heap} {b : Nat} : ∀ {l : List (α × Rose α)} {xs : List Value} {off : Nat}, LiC F sz (RoR sz R) xs l → Cels F b off xs → TrM F sz R (roseOf l) b off
 | [], xs, off, _, _ => trivial
 | x :: r, xs, off, ⟨cs, ys, h1, h2, ⟨c0, v, h3, h4, h5, ao, cap, h6, h7, h8⟩, h9⟩, hc => by
  subst h1; subst h3; subst h6
  refine ⟨⟨c0, ao, cap, h5, h4, fun j u hj => hc j u ?_, h7, h8⟩, trm_lic h9 fun j u hj => ?_⟩
  ·rw [List.getElem?_append_left (List.getElem?_eq_some_iff.1 hj).1]; exact hj
  ·have := hc (sz + j) u (by rw [List.getElem?_append_right (by omega), show sz + j - (c0 ++ [Value.slice ao x.2.len cap]).length = j by omega]; exact hj)
   rw [Nat.add_assoc]; exact this
theorem trs_lim {α : Type} {sz : Nat} {R : Heap → α → List Value → Prop} {F : Heap} {v : Value} {l : List (α × Rose α)} (h : LiM F sz (RoR sz R) v l) : TrS F sz R v (roseOf l) := by
 obtain ⟨ao, cap, xs, rfl, h1, h2⟩ := h.flat
 obtain ⟨_, _, e, h3, _⟩ := h
 cases e
 refine ⟨ao, cap, by rw [roseOf_len], ⟨by rw [roseOf_len]; exact h3.1, by rw [roseOf_len]; exact h3.2⟩, fun hp => ?_⟩
 obtain ⟨b, o, e, h4⟩ := h2 (by rw [roseOf_len] at hp; exact hp)
 exact ⟨b, o, e, trm_lic h1 h4⟩
instance {α : Type} {sz : Nat} {R : Heap → α → List Value → Prop} [hR : Mon R] : Mon (RoR sz R) := ⟨fun hF ⟨cs, v, h1, h2, h3, h4⟩ => ⟨cs, v, h1, h2, hR.h hF h3, h4.mono hF⟩⟩
def kids {α : Type} : Rose α → List (α × Rose α)
 | .nil => []
 | .cons a L r => (a, L) :: kids r
theorem roseOf_kids {α : Type} : ∀ l : Rose α, roseOf (kids l) = l
 | .nil => rfl
 | .cons a L r => by show Rose.cons a L (roseOf (kids r)) = _; rw [roseOf_kids r]
theorem kids_len {α : Type} : ∀ l : Rose α, (kids l).length = l.len
 | .nil => rfl
 | .cons a L r => by show (kids r).length + 1 = r.len + 1; rw [kids_len r]
theorem kids_get {α : Type} : ∀ (l : Rose α) (k : Nat), (kids l)[k]? = l.get? k
 | .nil, k => by show ([] : List (α × Rose α))[k]? = none; simp
 | .cons a L r, 0 => rfl
 | .cons a L r, k + 1 => by show ((a, L) :: kids r)[k + 1]? = r.get? k; rw [List.getElem?_cons_succ, kids_get r k]
theorem trs_kids {α : Type} {sz : Nat} {R : Heap → α → List Value → Prop} {F : Heap} {v : Value} {l : Rose α} (h : LiM F sz (RoR sz R) v (kids l)) : TrS F sz R v l := by
 have := trs_lim h
 rwa [roseOf_kids] at this
def idxF (p : Nat → Bool) : Nat → Nat → Int
 | _, 0 => -1
 | k, m + 1 => if p k = true then (k : Int) else idxF p (k + 1) m
def idxN (p : Nat → Bool) (n : Nat) : Int := idxF p 0 n
def anyN (p : Nat → Bool) (n : Nat) : Bool := decide (0 ≤ idxN p n)
theorem idxF_at {p : Nat → Bool} {k n : Nat} (hk : k < n) : idxF p k (n - k) = if p k = true then (k : Int) else idxF p (k + 1) (n - (k + 1)) := by
 rw [show n - k = (n - (k + 1)) + 1 by omega]; rfl
theorem idxF_end {p : Nat → Bool} {k n : Nat} (hk : n ≤ k) : idxF p k (n - k) = -1 := by rw [Nat.sub_eq_zero_of_le hk]; rfl
theorem idxF_spec {p : Nat → Bool} : ∀ (m k : Nat), (∃ j, k ≤ j ∧ j < k + m ∧ p j = true ∧ (∀ i, k ≤ i → i < j → p i = false) ∧ idxF p k m = (j : Int)) ∨ ((∀ j, k ≤ j → j < k + m → p j = false) ∧ idxF p k m = -1)
 | 0, k => .inr ⟨fun j h1 h2 => by omega, rfl⟩
 | m + 1, k => by
  by_cases h : p k = true
  ·exact .inl ⟨k, Nat.le_refl _, by omega, h, fun i h1 h2 => by omega, by show (if p k = true then (k : Int) else _) = _; rw [if_pos h]⟩
  ·have e : idxF p k (m + 1) = idxF p (k + 1) m := by show (if p k = true then (k : Int) else _) = _; rw [if_neg h]
   have hf : p k = false := by simpa using h
   rcases idxF_spec (p := p) m (k + 1) with ⟨j, h1, h2, h3, h4, h5⟩ | ⟨h1, h2⟩
   ·refine .inl ⟨j, by omega, by omega, h3, fun i h6 h7 => ?_, by rw [e]; exact h5⟩
    by_cases h8 : i = k
    ·subst h8; exact hf
    ·exact h4 i (by omega) h7
   ·refine .inr ⟨fun j h3 h4 => ?_, by rw [e]; exact h2⟩
    by_cases h8 : j = k
    ·subst h8; exact hf
    ·exact h1 j (by omega) (by omega)
theorem idxN_spec (p : Nat → Bool) (n : Nat) : (∃ j, j < n ∧ p j = true ∧ (∀ i, i < j → p i = false) ∧ idxN p n = (j : Int)) ∨ ((∀ j, j < n → p j = false) ∧ idxN p n = -1) := by
 rcases idxF_spec (p := p) n 0 with ⟨j, h1, h2, h3, h4, h5⟩ | ⟨h1, h2⟩
 ·exact .inl ⟨j, by omega, h3, fun i hi => h4 i (Nat.zero_le _) hi, h5⟩
 ·exact .inr ⟨fun j hj => h1 j (Nat.zero_le _) (by omega), h2⟩
theorem anyN_true {p : Nat → Bool} {n : Nat} : anyN p n = true ↔ ∃ k, k < n ∧ p k = true := by
 unfold anyN
 rw [decide_eq_true_eq]
 rcases idxN_spec p n with ⟨j, h1, h2, h3, h4⟩ | ⟨h1, h2⟩
 ·rw [h4]; exact ⟨fun _ => ⟨j, h1, h2⟩, fun _ => by omega⟩
 ·rw [h2]
  exact ⟨fun h => absurd h (by decide), fun ⟨k, hk, hp⟩ => by rw [h1 k hk] at hp; cases hp⟩
theorem anyN_list {α : Type} {l : List α} {q : α → Bool} {p : Nat → Bool} (h : ∀ k x, l[k]? = some x → p k = q x) : anyN p l.length = l.any q := by
 rw [Bool.eq_iff_iff, anyN_true, List.any_eq_true]
 constructor
 ·rintro ⟨k, hk, hp⟩
  exact ⟨l[k], List.getElem_mem hk, by rw [← h k _ (List.getElem?_eq_getElem hk)]; exact hp⟩
 ·rintro ⟨x, hx, hq⟩
  obtain ⟨k, hk, rfl⟩ := List.mem_iff_getElem.1 hx
  exact ⟨k, hk, by rw [h k _ (List.getElem?_eq_getElem hk)]; exact hq⟩
def anyR {α : Type} (q : α → Rose α → Bool) : Rose α → Bool
 | .nil => false
 | .cons a L r => q a L || anyR q r
theorem anyR_iff {α : Type} {q : α → Rose α → Bool} : ∀ {l : Rose α}, anyR q l = true ↔ ∃ (k : Nat) (x : α × Rose α), l.get? k = some x ∧ q x.1 x.2 = true
 | .nil => ⟨fun h => (by cases h), fun ⟨k, x, h, _⟩ => (by cases h)⟩
 | .cons a L r => by
  show (q a L || anyR q r) = true ↔ _
  rw [Bool.or_eq_true, anyR_iff (l := r)]
  constructor
  ·intro hh
   rcases hh with h | ⟨k, x, h1, h2⟩
   ·exact ⟨0, (a, L), rfl, h⟩
   ·exact ⟨k + 1, x, h1, h2⟩
  ·rintro ⟨k, x, h1, h2⟩
   cases k with
   | zero => cases h1; exact .inl h2
   | succ k => exact .inr ⟨k, x, h1, h2⟩
theorem anyN_rose {α : Type} {l : Rose α} {q : α → Rose α → Bool} {p : Nat → Bool} (h : ∀ k x, l.get? k = some x → p k = q x.1 x.2) : anyN p l.len = anyR q l := by
 rw [Bool.eq_iff_iff, anyN_true, anyR_iff]
 constructor
 ·rintro ⟨k, hk, hp⟩
  obtain ⟨x, hx⟩ := Rose.get_lt hk
  exact ⟨k, x, hx, by rw [← h k x hx]; exact hp⟩
 ·rintro ⟨k, x, hx, hq⟩
  exact ⟨k, Rose.lt_get hx, by rw [h k x hx]; exact hq⟩
end Go.De
namespace Go.Proofs.YthnafdbebniapaaGreatDoor
open Go Go.Wk Go.Un Go.De
set_option linter.unusedSimpArgs false
set_option linter.unusedVariables false
attribute [local irreducible] Go.wpList Go.Code.wp Go.wpStill Go.Wk.wpPre Go.bodyPost Go.Calls Go.Wk.Ct Go.Wk.OwnS Go.Wk.wpG Go.Wk.wpM
class PullB (G : List Grp) (b : Nat) (o : outParam Obj) (R : outParam (List Grp)) : Prop where h : ∃ G1 G2, G = G1 ++ [(b, o)] :: G2 ∧ R = G1 ++ G2
instance {b : Nat} {o : Obj} {G : List Grp} : PullB ([(b, o)] :: G) b o G := ⟨[], G, rfl, rfl⟩
instance {b : Nat} {o : Obj} {g : Grp} {G R : List Grp} [h : PullB G b o R] : PullB (g :: G) b o (g :: R) := by
 obtain ⟨G1, G2, e, hR⟩ := h.h
 exact ⟨g :: G1, G2, by rw [e]; rfl, by rw [hR]; rfl⟩
section
variable {n : Sz} {L : List (Nat × Value)} {w0 : World} {F0 : Heap} {K0 : List Nat} {a : Act} {w : World}
theorem St.pullB (b : Nat) {G R : List Grp} {F : Heap} {o : Obj} [h : PullB G b o R] (S : St n L w0 F0 K0 F G a w) : St n L w0 F0 K0 F ([(b, o)] :: R) a w := by
 obtain ⟨G1, G2, rfl, rfl⟩ := h.h
 exact ⟨S.fr, S.tr.perm (by first | exact List.Perm.flatten List.perm_middle | exact (List.Perm.flatten List.perm_middle).symm)⟩
theorem frzAll {G2 : List Grp} : ∀ (l : List (Nat × Obj)) {F : Heap}, St n L w0 F0 K0 F ((l.map fun p => [p]) ++ G2) a w → ∃ F', (∀ b o, F b = some o → F' b = some o) ∧ (∀ p ∈ l, F' p.1 = some p.2) ∧ St n L w0 F0 K0 F' G2 a w
 | [], F, S => ⟨F, fun _ _ h => h, fun p hp => (by cases hp), S⟩
 | p :: l, F, S => by
  have hle := add_le (G1 := []) S
  have S2 := St.freeze (G1 := []) S
  obtain ⟨F', h1, h2, S3⟩ := frzAll l S2
  refine ⟨F', fun b o h => h1 _ _ (hle _ _ h), fun q hq => ?_, S3⟩
  rcases List.mem_cons.1 hq with rfl | hq
  ·exact h1 _ _ (Heap.add_new (p := q) (List.mem_singleton.2 rfl) (by simp))
  ·exact h2 q hq
theorem frz1 {G2 : List Grp} {p : Nat × Obj} {F : Heap} (S : St n L w0 F0 K0 F ([p] :: G2) a w) : ∃ F', (∀ b o, F b = some o → F' b = some o) ∧ F' p.1 = some p.2 ∧ St n L w0 F0 K0 F' G2 a w :=
 ⟨_, add_le (G1 := []) S, Heap.add_new (p := p) (List.mem_singleton.2 rfl) (by simp), St.freeze (G1 := []) S⟩
end
theorem cels_of {F : Heap} {b : Nat} {cs : List Value} {e : TypeId} (h : F b = some (.cells ⟨cs⟩ e (0, 0))) : Cels F b 0 cs := fun j u hj => ⟨_, _, _, h, by simpa using hj⟩
theorem lim_of {α : Type} {F : Heap} {b sz : Nat} {cs : List Value} {e : TypeId} {R : Heap → α → List Value → Prop} {l : List α} (h : F b = some (.cells ⟨cs⟩ e (0, 0))) (hl : LiC F sz R cs l) (hn : l.length ≤ 140737488355328) : LiM F sz R (.slice (some ⟨b, 0, none⟩) l.length l.length) l :=
 ⟨some ⟨b, 0, none⟩, l.length, rfl, ⟨Nat.le_refl _, hn⟩, fun hp => ⟨b, 0, rfl, fun k x hx => by
  obtain ⟨cs2, h5, h6, h7⟩ := hl.get hx
  exact ⟨cs2, fun j u hj => ⟨_, _, _, h, by have := h5 j u hj; simpa [Nat.zero_add] using this⟩, h6, h7⟩⟩⟩
theorem drop_at {α : Type} {l : List α} {k : Nat} {x : α} (h : l[k]? = some x) : l.drop k = x :: l.drop (k + 1) := by
 obtain ⟨h1, h2⟩ := List.getElem?_eq_some_iff.1 h
 rw [List.drop_eq_getElem_cons h1, h2]
theorem zzDeI0 {p : Prop} (h : p := by (first | (have h9 := hown; rw [List.flatMap_nil, List.nil_append, Nat.zero_add] at hown; exact ⟨_, _, rfl, hown, hxc⟩) | (have hz : l = [] := (by cases l with | nil => rfl | cons x r => (exfalso; obtain ⟨b, o, e, -⟩ := hxp (by simp); have hno : ao.isNone = true := (by assumption); rw [e] at hno; cases hno)); subst hz; exact ⟨[], [], rfl, OwnS.nil _ _, rfl⟩) | trace_state)) : p := h
theorem cloneSCt (F : Heap) (v : Value) (l : List (List UInt8)) (h : LiM F 1 StR v l) (hl : l.length ≤ 1000000) : Ct Tryz.prog 48 [v] F [] (fun _ G' u => ∃ g xs, G' = [g] ∧ OwnS 9 1 u l.length xs g ∧ LiC F 1 StR xs l) := by
 obtain ⟨ao, cap, xs, rfl, hxc, hxp⟩ := h.flat
 have hxl := hxc.len
 have hx1 := hxc.one'
 refine Ct.enter Tryz.func48 rfl Tryz.ntmps48 rfl fun w0 a S => ?_
 (revert S a; refine go 10 ?_; intro Z hZ a S)
 refine wpc_sp S rfl ?_ ?_ <;> intro h
 ·(revert S a; refine go 4 ?_; intro a S)
  refine wp_ret ?_
  (first | (have h9 := hown; skip) | (replace S := S.nilg))
  refine fin_ret S (results1 Tryz.results48 (RV.tmp S rfl)) ?_
  exact zzDeI0
 (revert S a; revert hZ Z; refine go 3 ?_; intro Z hZ a S)
 (refine wpl_buildSlice S rfl rfl rfl rfl rfl rfl (by rfl) (by simp [Value.cells, splice, splice]) rfl (by rfl) (by rfl) ?_; clear S a; intro b5 a w hown S)
 (revert S a; refine go 1 ?_; intro a S)
 (refine wpl_appendSl S rfl rfl rfl rfl rfl rfl hown (by rfl) hxl hxp hx1 (by omega) (by omega) ?_; clear hown S a; intro v g a w hown S)
 (revert S a; revert hZ Z; refine go 3 ?_; intro a S)
 refine wp_ret ?_
 (first | (have h9 := hown; skip) | (replace S := S.nilg))
 refine fin_ret S (results1 Tryz.results48 (RV.tmp S rfl)) ?_
 exact zzDeI0
theorem cloneTCt (F : Heap) (v : Value) (l : List TD) (h : LiM F 6 TdR v l) (hl : l.length ≤ 1000000) : Ct Tryz.prog 46 [v] F [] (fun _ G' u => ∃ g xs, G' = [g] ∧ OwnS 69 6 u l.length xs g ∧ LiC F 6 TdR xs l) := by
 obtain ⟨ao, cap, xs, rfl, hxc, hxp⟩ := h.flat
 have hxl := hxc.len
 have hx1 := hxc.one'
 refine Ct.enter Tryz.func46 rfl Tryz.ntmps46 rfl fun w0 a S => ?_
 (revert S a; refine go 10 ?_; intro Z hZ a S)
 refine wpc_sp S rfl ?_ ?_ <;> intro h
 ·(revert S a; refine go 4 ?_; intro a S)
  refine wp_ret ?_
  (first | (have h9 := hown; skip) | (replace S := S.nilg))
  refine fin_ret S (results1 Tryz.results46 (RV.tmp S rfl)) ?_
  exact zzDeI0
 (revert S a; revert hZ Z; refine go 3 ?_; intro Z hZ a S)
 (refine wpl_buildSlice S rfl rfl rfl rfl rfl rfl (by rfl) (by simp [Value.cells, splice, splice]) rfl (by rfl) (by rfl) ?_; clear S a; intro b5 a w hown S)
 (revert S a; refine go 1 ?_; intro a S)
 (refine wpl_appendSl S rfl rfl rfl rfl rfl rfl hown (by rfl) hxl hxp hx1 (by omega) (by omega) ?_; clear hown S a; intro v g a w hown S)
 (revert S a; revert hZ Z; refine go 3 ?_; intro a S)
 refine wp_ret ?_
 (first | (have h9 := hown; skip) | (replace S := S.nilg))
 refine fin_ret S (results1 Tryz.results46 (RV.tmp S rfl)) ?_
 exact zzDeI0
theorem cloneRCt (F : Heap) (v : Value) (l : List RD) (h : LiM F 6 RdR v l) (hl : l.length ≤ 1000000) : Ct Tryz.prog 47 [v] F [] (fun _ G' u => ∃ g xs, G' = [g] ∧ OwnS 107 6 u l.length xs g ∧ LiC F 6 RdR xs l) := by
 obtain ⟨ao, cap, xs, rfl, hxc, hxp⟩ := h.flat
 have hxl := hxc.len
 have hx1 := hxc.one'
 refine Ct.enter Tryz.func47 rfl Tryz.ntmps47 rfl fun w0 a S => ?_
 (revert S a; refine go 10 ?_; intro Z hZ a S)
 refine wpc_sp S rfl ?_ ?_ <;> intro h
 ·(revert S a; refine go 4 ?_; intro a S)
  refine wp_ret ?_
  (first | (have h9 := hown; skip) | (replace S := S.nilg))
  refine fin_ret S (results1 Tryz.results47 (RV.tmp S rfl)) ?_
  exact zzDeI0
 (revert S a; revert hZ Z; refine go 3 ?_; intro Z hZ a S)
 (refine wpl_buildSlice S rfl rfl rfl rfl rfl rfl (by rfl) (by simp [Value.cells, splice, splice]) rfl (by rfl) (by rfl) ?_; clear S a; intro b5 a w hown S)
 (revert S a; refine go 1 ?_; intro a S)
 (refine wpl_appendSl S rfl rfl rfl rfl rfl rfl hown (by rfl) hxl hxp hx1 (by omega) (by omega) ?_; clear hown S a; intro v g a w hown S)
 (revert S a; revert hZ Z; refine go 3 ?_; intro a S)
 refine wp_ret ?_
 (first | (have h9 := hown; skip) | (replace S := S.nilg))
 refine fin_ret S (results1 Tryz.results47 (RV.tmp S rfl)) ?_
 exact zzDeI0
theorem cloneCCt (F : Heap) (v : Value) (l : List CD) (h : LiM F 2 CdR v l) (hl : l.length ≤ 1000000) : Ct Tryz.prog 49 [v] F [] (fun _ G' u => ∃ g xs, G' = [g] ∧ OwnS 92 2 u l.length xs g ∧ LiC F 2 CdR xs l) := by
 obtain ⟨ao, cap, xs, rfl, hxc, hxp⟩ := h.flat
 have hxl := hxc.len
 have hx1 := hxc.one'
 refine Ct.enter Tryz.func49 rfl Tryz.ntmps49 rfl fun w0 a S => ?_
 (revert S a; refine go 10 ?_; intro Z hZ a S)
 refine wpc_sp S rfl ?_ ?_ <;> intro h
 ·(revert S a; refine go 4 ?_; intro a S)
  refine wp_ret ?_
  (first | (have h9 := hown; skip) | (replace S := S.nilg))
  refine fin_ret S (results1 Tryz.results49 (RV.tmp S rfl)) ?_
  exact zzDeI0
 (revert S a; revert hZ Z; refine go 3 ?_; intro Z hZ a S)
 (refine wpl_buildSlice S rfl rfl rfl rfl rfl rfl (by rfl) (by simp [Value.cells, splice, splice]) rfl (by rfl) (by rfl) ?_; clear S a; intro b5 a w hown S)
 (revert S a; refine go 1 ?_; intro a S)
 (refine wpl_appendSl S rfl rfl rfl rfl rfl rfl hown (by rfl) hxl hxp hx1 (by omega) (by omega) ?_; clear hown S a; intro v g a w hown S)
 (revert S a; revert hZ Z; refine go 3 ?_; intro a S)
 refine wp_ret ?_
 (first | (have h9 := hown; skip) | (replace S := S.nilg))
 refine fin_ret S (results1 Tryz.results49 (RV.tmp S rfl)) ?_
 exact zzDeI0
def FThin (l : List FD) : Prop := ∀ x ∈ l, x.ta.len * 40 ≤ 140737488355328 ∧ Thin x.ta
theorem ownedCt (F : Heap) (l : List FD) (v : Value) (h : LiM F 3 FdR v l) (hl : l.length ≤ 1000000) (hth : FThin l) : Ct Tryz.prog 50 [v] F [] (fun F' _ u => LiM F' 3 FdR u l) := by
 obtain ⟨ao, cap, rfl, hcap, hpos⟩ := h
 refine Ct.enter Tryz.func50 rfl Tryz.ntmps50 rfl fun w0 a S => ?_
 (revert S a; refine go 16 ?_; intro Z hZ a S)
 refine wpc_loop (fun m a w' => ∃ (i : Nat) (v : Value) (g : Grp) (xs : List Value) (F3 : Heap), m = l.length - i ∧ i ≤ l.length ∧ (∀ b o, F b = some o → F3 b = some o) ∧ OwnS 94 3 v i xs g ∧ LiC F3 3 FdR xs (l.take i) ∧ St 23 [(3, v), (6, .slice ao l.length cap), (7, .int .i64 l.length), (8, .int .i64 i)] w0 F [] F3 [g] a w') ?_ ?_
 ·(replace S := S.nilg; refine ⟨l.length, 0, .slice none 0 0, [], [], F, by omega, Nat.zero_le _, fun _ _ h => h, OwnS.nil _ _, rfl, ?_⟩; refine S.keep ?_; exact zk)
 (clear S; rintro m a w ⟨i, v, g, xs, F3, rfl, hil, hF3, hown, hfc, S⟩)
 (revert S a; refine go 5 ?_; intro Z hZ a S)
 refine wpc_sp S rfl ?_ ?_ <;> intro h
 ·(revert S a; revert hZ Z; refine go 4 ?_; intro Z hZ a S)
  (refine wp_seq_k ?_; intro Z hZ)
  (obtain ⟨b8, o8, hao, x, cs1, hx, hc1, ⟨v1, rfl, hT1⟩⟩ := LiM.pos hpos (k := i) (by omega); rw [hao] at S; replace hc1 := Cels.mono hF3 hc1; replace hT1 := hT1.mono hF3; have hT1c := hT1; obtain ⟨a91, c91, rfl, -⟩ := hT1c; obtain ⟨hx40, hxth⟩ := hth x (List.mem_of_getElem? hx))
  (revert S a; refine go 3 ?_; intro a S)
  (refine wpl_alloc S rfl rfl rfl rfl ?_; clear S a; intro b5 a w S)
  (refine wso S rfl rfl ?_; clear S; intro w S)
  (revert S a; revert hZ Z; refine go 2 ?_; intro a S)
  (refine wpc_mixM [0, 1, 2, 3, 4, 6] [2, 4] [] (.one 0 (.one 1 (.one 2 (.one 3 (.one 4 (.one 5 (.one 6 (.one 7 (.one 8 (.one 9 .nil)))))))))) [b5] S mixed (by kernel_rfl) ?_; clear S; intro w S)
  (revert S a; refine go 6 ?_; intro a S)
  (refine wpl_call (Gs := []) (Gr := [[(b5, _)], g]) S rfl rfl rfl rfl rfl rfl (ownDCt (x.ta.size + 1) F3 x.tn x.ta _ (Nat.lt_succ_self _) ⟨_, rfl, hT1⟩ hx40 hxth) rfl (by exact List.Perm.refl _) ?_; clear S a; intro u9 F4 G4 a w hv hF4 S; obtain ⟨a4, q4, c4, rfl, hs4⟩ := hv; replace S : St _ _ _ _ _ F4 ([(b5, _)] :: g :: []) _ _ := ⟨S.fr, S.tr.sub (by rw [List.flatten_append]; exact List.sublist_append_right _ _)⟩)
  (revert S a; refine go 3 ?_; intro a S)
  (refine wpl_buildSlice S rfl rfl rfl rfl rfl rfl (by rfl) (by simp [Value.cells, splice, splice]) rfl (by rfl) (by rfl) ?_; clear S a; intro b19 a w hown2 S)
  (revert S a; refine go 2 ?_; intro a S)
  (refine wpl_appendOwn S rfl rfl rfl rfl rfl rfl hown hown2 (by rfl) (by simp [Value.cells, Value.oneCell', splice, splice]) (by omega) (by omega) ?_; clear hown S a; intro v g a w hown S)
  (revert S a; revert hZ Z; refine go 10 ?_; intro a S)
  change ∃ m', _ ∧ _
  (rw [← hao] at S; replace S := S.drop1; refine ⟨l.length - (i + 1), by omega, i + 1, _, _, _, F4, rfl, by omega, fun b o h => hF4 _ _ (hF3 _ _ h), hown, ?_, ?_⟩; rotate_left 1; (refine S.keep ?_; exact zk); (rw [List.take_add_one, hx]; exact LiC.app (hfc.mono hF4) (LiC.one rfl ⟨_, rfl, hs4⟩)))
 (refine wp_exit ?_; conv => whnf)
 clear hZ Z
 (revert S a; revert hZ Z; refine go 6 ?_; intro a S)
 refine wp_ret ?_
 (have hii : i = l.length := (by omega); have h9 := hown; have hle := add_le (G1 := []) S; replace S := St.freeze (G1 := []) S; (simp only [List.nil_append] at S hle))
 refine fin_ret S (results1 Tryz.results50 (RV.tmp S rfl)) ?_
 (rw [List.take_of_length_le (by omega)] at hfc; exact LiC.lim hown hfc (by omega) hle (by omega))
theorem zzDeI1 {p : Prop} (h : p := by (first | (have hpf : p (l.take k) x = true := (by assumption); have e9 : anyP p [] l = true := (by rw [hfp, drop_at hx]; show (p (l.take k) x || _) = true; rw [hpf, Bool.true_or]); rw [e9]; exact ⟨_, rfl, by simp⟩) | (have e9 : anyP p [] l = false := (by rw [hfp, List.drop_eq_nil_of_le (by omega)]; rfl); rw [e9]; exact ⟨_, rfl, by simp⟩) | trace_state)) : p := h
theorem indexDCt (F : Heap) (l : List FD) (v : Value) (h : LiM F 3 FdR v l) (fid : FuncId) (fi ca : List Value) [hfn : HasFn Tryz.prog fid] (p : List FD → FD → Bool) (Iv : List FD → List Grp → Prop) (G0 : List Grp) (h0 : Iv [] G0)
  (hcl : ∀ (k : Nat) (x : FD) (cs : List Value) (G : List Grp), l[k]? = some x → FdR F x cs → Iv (l.take k) G → Ct Tryz.prog fid (fi ++ [.agg ⟨cs⟩] ++ ca) F G (fun _ G' u => u = .bool (p (l.take k) x) ∧ Iv (l.take k ++ [x]) G')) :
  Ct Tryz.prog 228 [v, .func (.func fid) ⟨fi⟩ ⟨ca⟩] F G0 (fun _ G' u => ∃ i : Int, u = .int .i64 i ∧ decide (0 ≤ i) = anyP p [] l) := by
 obtain ⟨ao, cap, rfl, hcap, hpos⟩ := h
 refine Ct.enter Tryz.func228 rfl Tryz.ntmps228 rfl fun w0 a S => ?_
 (revert S a; refine go 12 ?_; intro Z hZ a S)
 refine wpc_loop (fun m a w' => ∃ (k : Nat) (GG : List Grp), m = l.length - k ∧ k ≤ l.length ∧ anyP p [] l = anyP p (l.take k) (l.drop k) ∧ Iv (l.take k) GG ∧ St 19 [(0, .slice ao l.length cap), (1, .func (.func fid) ⟨fi⟩ ⟨ca⟩), (7, .int .i64 l.length), (8, .int .i64 k)] w0 F (keys G0) F GG a w') ?_ ?_
 ·(refine ⟨l.length, 0, G0, by omega, Nat.zero_le _, rfl, h0, ?_⟩; refine S.keep ?_; exact zk)
 (clear S; rintro m a w ⟨k, GG, rfl, hkl, hfp, hI, S⟩)
 (revert S a; refine go 5 ?_; intro Z hZ a S)
 refine wpc_sp S rfl ?_ ?_ <;> intro h
 ·(revert S a; revert hZ Z; refine go 9 ?_; intro Z hZ a S)
  (refine wp_seq_k ?_; intro Z hZ)
  (obtain ⟨b8, o8, hao, x, cs1, hx, hc1, ⟨v1, rfl, hT1⟩⟩ := LiM.pos hpos (k := k) (by omega); rw [hao] at S)
  (revert S a; refine go 6 ?_; intro a S)
  (refine wpl_callOwn (Gs := GG) (Gr := []) S rfl rfl rfl rfl rfl rfl (hcl k x _ GG hx ⟨_, rfl, hT1⟩ hI) rfl (by simp) ?_; clear S a; intro u9 G9 a w hv S; obtain ⟨rfl, hI9⟩ := hv; rw [List.append_nil] at S)
  (revert S a; revert hZ Z; refine go 2 ?_; intro a S)
  refine wpc_sp S rfl ?_ ?_ <;> intro h
  ·(revert S a; refine go 5 ?_; intro a S)
   refine wp_ret (fr1 S Tryz.results228 ?_)
   exact zzDeI1
  (revert S a; revert hZ Z; refine go 6 ?_; intro a S)
  change ∃ m', _ ∧ _
  (rw [← hao] at S; have hpf : p (l.take k) x = false := (by assumption); refine ⟨l.length - (k + 1), by omega, k + 1, G9, rfl, by omega, ?_, ?_, ?_⟩; rotate_left 2; (refine S.keep ?_; exact zk); (rw [hfp, drop_at hx]; rw [show l.take (k + 1) = l.take k ++ [x] by rw [List.take_add_one, hx]; rfl]; show (p (l.take k) x || _) = _; rw [hpf, Bool.false_or]); (rw [show l.take (k + 1) = l.take k ++ [x] by rw [List.take_add_one, hx]; rfl]; exact hI9))
 (refine wp_exit ?_; conv => whnf)
 clear hZ Z
 (revert S a; revert hZ Z; refine go 5 ?_; intro a S)
 refine wp_ret (fr1 S Tryz.results228 ?_)
 exact zzDeI1
theorem containsDCt (F : Heap) (l : List FD) (v : Value) (h : LiM F 3 FdR v l) (fid : FuncId) (fi ca : List Value) [hfn : HasFn Tryz.prog fid] (p : List FD → FD → Bool) (Iv : List FD → List Grp → Prop) (G0 : List Grp) (h0 : Iv [] G0)
  (hcl : ∀ (k : Nat) (x : FD) (cs : List Value) (G : List Grp), l[k]? = some x → FdR F x cs → Iv (l.take k) G → Ct Tryz.prog fid (fi ++ [.agg ⟨cs⟩] ++ ca) F G (fun _ G' u => u = .bool (p (l.take k) x) ∧ Iv (l.take k ++ [x]) G')) :
  Ct Tryz.prog 186 [v, .func (.func fid) ⟨fi⟩ ⟨ca⟩] F G0 (fun _ _ u => u = .bool (anyP p [] l)) := by
 have hc := indexDCt F l v h fid fi ca p Iv G0 h0 hcl
 obtain ⟨ao, cap, rfl, hcap, hpos⟩ := h
 refine Ct.enter Tryz.func186 rfl Tryz.ntmps186 rfl fun w0 a S => ?_
 (revert S a; refine go 7 ?_; intro Z hZ a S)
 (refine wpl_callOwn (Gs := G0) (Gr := []) S rfl rfl rfl rfl rfl rfl hc rfl (by simp) ?_; clear S a; intro u9 G9 a w hv S; obtain ⟨i9, rfl, hi9⟩ := hv; rw [List.append_nil] at S)
 (revert S a; revert hZ Z; refine go 4 ?_; intro a S)
 refine wp_ret (fr1 S Tryz.results186 ?_)
 (rw [← hi9])
def CntE (es : List (List UInt8 × Value)) (k : List (List UInt8)) : Prop := ∀ nm, (mGet es nm).getD (.int .i64 0) = .int .i64 ((k.count nm : Nat) : Int)
theorem CntE.set {es : List (List UInt8 × Value)} {k : List (List UInt8)} (h : CntE es k) (nm : List UInt8) : CntE (mSet es nm (.int .i64 ((k.count nm + 1 : Nat) : Int))) (k ++ [nm]) := fun x => by
 rw [List.count_append, List.count_singleton]
 by_cases e : nm = x
 ·subst e
  rw [mGet_set, if_pos rfl]
  simp
 ·rw [mGet_set, if_neg (fun h2 => e h2.symm), h x]
  have : (nm == x) = false := by simpa using e
  rw [this]; simp
def TwI (bm mb : Nat) (pre : List FD) (G : List Grp) : Prop := ∃ es, G = [[(bm, .cells ⟨[.map (some mb)]⟩ 237 (0, 0))], [(mb, mObj kS es)]] ∧ CntE es (pre.map FD.nm)
theorem zzDeI2 {p : Prop} (h : p := by (have hE9 := hE.set x.nm; refine ⟨?_, _, rfl, (by rw [List.map_append]; exact hE9)⟩; congr 1; unfold twP; first | (have hne : ¬ x.nm = [] := (by assumption); rw [show decide (x.nm ≠ []) = true from decide_eq_true hne, Bool.true_and]; rw [Bool.eq_iff_iff, decide_eq_true_eq, decide_eq_true_eq, List.count_append, List.count_singleton]; simp only [BEq.rfl, if_true]; rw [← List.count_pos_iff]; omega) | (have hne : x.nm = [] := (by assumption); rw [show decide (x.nm ≠ []) = false from decide_eq_false (fun h9 => h9 hne), Bool.false_and]) | trace_state)) : p := h
theorem twice1Ct (F : Heap) (bm mb : Nat) (pre : List FD) (x : FD) (cs : List Value) (G : List Grp) (hR : FdR F x cs) (hpl : pre.length ≤ 1000000) (hI : TwI bm mb pre G) : Ct Tryz.prog 187 ([] ++ [.agg ⟨cs⟩] ++ [.pointer (some ⟨bm, 0, none⟩)]) F G (fun _ G' u => u = .bool (twP pre x) ∧ TwI bm mb (pre ++ [x]) G') := by
 obtain ⟨es, rfl, hE⟩ := hI
 obtain ⟨v, rfl, hs⟩ := hR
 obtain ⟨ao, cap, rfl, -, -⟩ := hs
 have hct : (pre.map FD.nm).count x.nm ≤ pre.length := by have := List.count_le_length (a := x.nm) (l := pre.map FD.nm); rw [List.length_map] at this; exact this
 refine Ct.enter Tryz.func187 rfl Tryz.ntmps187 rfl fun w0 a S => ?_
 refine wp_sr fun Z hZ => ?_
 (refine wbx S ?_; clear S a; intro b2 a w S)
 (revert S a; revert hZ Z; refine go 7 ?_; intro Z hZ a S)
 first | (refine wv S (sv_lookupO (enc := kS) S rfl rfl rfl) ?_; clear S a; intro a S) | (refine wv S (sv_lookupF (enc := kS) S rfl rfl rfl (by assumption)) ?_; clear S a; intro a S)
 (rw [if_neg (by decide), hE x.nm] at S)
 (revert S a; refine go 1 ?_; intro a S)
 (rw [show ((((pre.map FD.nm).count x.nm : Nat) : Int) + 1) = (((pre.map FD.nm).count x.nm + 1 : Nat) : Int) from rfl] at S)
 (refine wpl_mapSet (enc := kS) S rfl rfl rfl rfl rfl rfl ?_; clear S; intro w S)
 (revert S a; revert hZ Z; refine go 7 ?_; intro Z hZ a S)
 refine wgd S ?_ ?_
 ·(clear S; intro h S)
  (revert S a; refine go 6 ?_; intro a S)
  first | (refine wv S (sv_lookupO (enc := kS) S rfl rfl rfl) ?_; clear S a; intro a S) | (refine wv S (sv_lookupF (enc := kS) S rfl rfl rfl (by assumption)) ?_; clear S a; intro a S)
  (have hE2 := hE.set x.nm; rw [if_neg (by decide), hE2 x.nm] at S)
  (revert S a; revert hZ Z; refine go 6 ?_; intro a S)
  refine wp_ret ?_
  (replace S := S.drop1)
  refine fin_ret S (results1 Tryz.results187 (RV.tmp S rfl)) ?_
  exact zzDeI2
 (clear S a; intro h a S)
 (revert S a; revert hZ Z; refine go 8 ?_; intro a S)
 refine wp_ret ?_
 (replace S := S.drop1)
 refine fin_ret S (results1 Tryz.results187 (RV.tmp S rfl)) ?_
 exact zzDeI2
theorem twiceCt (F : Heap) (l : List FD) (v : Value) (h : LiM F 3 FdR v l) (hl : l.length ≤ 1000000) : Ct Tryz.prog 138 [v] F [] (fun _ _ u => u = .bool (twiceD l)) := by
 have h0 := h
 obtain ⟨ao, cap, rfl, hcap, hpos⟩ := h
 refine Ct.enter Tryz.func138 rfl Tryz.ntmps138 rfl fun w0 a S => ?_
 (revert S a; refine go 5 ?_; intro Z hZ a S)
 (refine wpl_makeMap kS S rfl rfl rfl rfl ?_; clear S a; intro b4 a w S)
 (refine wpl_alloc S rfl rfl rfl rfl ?_; clear S a; intro b3 a w S)
 (refine wpl_store1 S rfl rfl rfl rfl rfl rfl (by first | (simp; done) | (simp [Value.cells]; done) | exact Nat.le_of_ble_eq_true rfl) ?_; clear S; intro w S)
 (revert S a; revert hZ Z; refine go 5 ?_; intro Z hZ a S)
 (refine wpl_callOwn (Gs := [[(b3, _)], [(b4, _)]]) (Gr := []) S rfl rfl rfl rfl rfl rfl (containsDCt F l _ h0 187 [] [.pointer (some ⟨b3, 0, none⟩)] twP (TwI b3 b4) _ ⟨[], rfl, fun nm => rfl⟩ (fun k x cs G hx hR hI => twice1Ct F b3 b4 (l.take k) x cs G hR (by rw [List.length_take]; omega) hI)) rfl (by exact List.Perm.refl _) ?_; clear S a; intro u9 G9 a w hv S; subst hv)
 (revert S a; revert hZ Z; refine go 3 ?_; intro a S)
 refine wp_ret (fr1 S Tryz.results138 ?_)
 rfl
end Go.Proofs.YthnafdbebniapaaGreatDoor
