/- Walks. -/
import Derived.Test.YthnafdbebniapaaGreatDoorQ17
import Derived.Lib.IndexMore
namespace Go.Cv
open Go Go.Wk Go.Un Go.De
set_option linter.unusedSimpArgs false
set_option linter.unusedVariables false
abbrev By := List UInt8
def appR {α : Type} : Rose α → Rose α → Rose α
 | .nil, m => m
 | .cons a L r, m => .cons a L (appR r m)
theorem appR_len {α : Type} : ∀ (l m : Rose α), (appR l m).len = l.len + m.len
 | .nil, m => by show m.len = 0 + m.len; omega
 | .cons a L r, m => by show (appR r m).len + 1 = r.len + 1 + m.len; rw [appR_len r m]; omega
def sUnit : By := [40, 41]
structure Frm (τ : Type) where
  nm : By
  tys : List τ
def anyE : EH := ⟨3, 0, 0, [], ⟨0, 0, []⟩, .nil⟩
def anys : Nat → Ef → Ef
 | 0, r => r
 | n + 1, r => .cons anyE .nil (anys n r)
section
variable {τ : Type} (sh : VH → By) (allO : τ → Option (List (Frm τ))) (kid : EH → Nat → τ → List τ)
def hdO (h : EH) : Option By := if h.k = 1 then some (sh h.v) else if h.k = 5 then some h.nm else if h.k = 4 then some sUnit else none
def asR (f : Frm τ) : Ef → Ef × Bool
 | .nil => (.nil, true)
 | .cons h L r => match hdO sh h with
  | none => (anys f.tys.length r, true)
  | some s => (appR L r, decide (s = f.nm))
def specR (f : Frm τ) (rows : List Ef) : List Ef := (rows.filter fun r => (asR sh f r).2).map fun r => (asR sh f r).1
def hdR : Ef → Option By
 | .nil => none
 | .cons h _ _ => hdO sh h
def tlR {α : Type} : Rose α → Rose α
 | .nil => .nil
 | .cons _ _ r => r
def seenR (rows : List Ef) : List By := rows.filterMap (hdR sh)
def restR (rows : List Ef) : List Ef := (rows.filter fun r => (hdR sh r).isNone).map tlR
def useF : Nat → List τ → List Ef → Ef → Bool
 | 0, _, _, _ => false
 | n + 1, [], rows, q => decide (rows.length = 0)
 | n + 1, x :: xs, rows, .nil => false
 | n + 1, x :: xs, rows, .cons h L r => match hdO sh h with
  | some s => useF n (kid h L.len x ++ xs) (specR sh ⟨s, kid h L.len x⟩ rows) (appR L r)
  | none => match allO x with
   | none => useF n xs (restR sh rows) r
   | some fs => if fs.all (fun f => decide (f.nm ∈ seenR sh rows)) = true then fs.any fun f => useF n (f.tys ++ xs) (specR sh f rows) (anys f.tys.length r) else useF n xs (restR sh rows) r
abbrev Tms := Rose By
inductive HT : List τ → Tms → Prop
  | nil : HT [] .nil
  | lit {x : τ} {xs : List τ} {r : Tms} (s : By) (h : allO x = none) (hr : HT xs r) : HT (x :: xs) (.cons s .nil r)
  | form {x : τ} {xs : List τ} {L r : Tms} {fs : List (Frm τ)} {f : Frm τ} (h : allO x = some fs) (hf : f ∈ fs) (hL : HT f.tys L) (hr : HT xs r) : HT (x :: xs) (.cons f.nm L r)
def mt : Ef → Tms → Bool
 | .nil, .nil => true
 | .cons h L r, .cons s M t => (match hdO sh h with | none => true | some u => decide (u = s) && mt L M) && mt r t
 | _, _ => false
inductive FT : List τ → Ef → Prop
  | nil : FT [] .nil
  | any {x : τ} {xs : List τ} {h : EH} {L r : Ef} (hn : hdO sh h = none) (hr : FT xs r) : FT (x :: xs) (.cons h L r)
  | lit {x : τ} {xs : List τ} {h : EH} {s : By} {r : Ef} (hn : hdO sh h = some s) (ha : allO x = none) (hk : kid h 0 x = []) (hr : FT xs r) : FT (x :: xs) (.cons h .nil r)
  | form {x : τ} {xs : List τ} {h : EH} {L r : Ef} {fs : List (Frm τ)} {f : Frm τ} (ha : allO x = some fs) (hf : f ∈ fs) (hn : hdO sh h = some f.nm) (hk : kid h L.len x = f.tys) (hL : FT f.tys L) (hr : FT xs r) : FT (x :: xs) (.cons h L r)
variable {sh allO kid}
theorem as_none {f : Frm τ} {h : EH} {L r : Ef} (hn : hdO sh h = none) : asR sh f (.cons h L r) = (anys f.tys.length r, true) := by
 show (match hdO sh h with | none => _ | some s => _) = _
 rw [hn]
theorem as_some {f : Frm τ} {h : EH} {L r : Ef} {s : By} (hn : hdO sh h = some s) : asR sh f (.cons h L r) = (appR L r, decide (s = f.nm)) := by
 show (match hdO sh h with | none => _ | some s => _) = _
 rw [hn]
theorem HT.len {xs : List τ} {v : Tms} (h : HT allO xs v) : v.len = xs.length := by
 induction h with
 | nil => rfl
 | lit s h hr ih => show _ + 1 = _; rw [ih]; rfl
 | form h hf hL hr ih1 ih2 => show _ + 1 = _; rw [ih2]; rfl
theorem FT.len {xs : List τ} {v : Ef} (h : FT sh allO kid xs v) : v.len = xs.length := by
 induction h with
 | nil => rfl
 | any hn hr ih => show _ + 1 = _; rw [ih]; rfl
 | lit hn ha hk hr ih => show _ + 1 = _; rw [ih]; rfl
 | form ha hf hn hk hL hr ih1 ih2 => show _ + 1 = _; rw [ih2]; rfl
theorem HT.app {xs ys : List τ} {v w : Tms} (h : HT allO xs v) (h2 : HT allO ys w) : HT allO (xs ++ ys) (appR v w) := by
 induction h with
 | nil => exact h2
 | lit s h hr ih => exact .lit s h ih
 | form h hf hL hr ih1 ih2 => exact .form h hf hL ih2
theorem FT.app {xs ys : List τ} {v w : Ef} (h : FT sh allO kid xs v) (h2 : FT sh allO kid ys w) : FT sh allO kid (xs ++ ys) (appR v w) := by
 induction h with
 | nil => exact h2
 | any hn hr ih => exact .any hn ih
 | lit hn ha hk hr ih => exact .lit hn ha hk ih
 | form ha hf hn hk hL hr ih1 ih2 => exact .form ha hf hn hk hL ih2
theorem HT.split {ys : List τ} : ∀ {xs : List τ} {v : Tms}, HT allO (xs ++ ys) v → ∃ a b, v = appR a b ∧ HT allO xs a ∧ HT allO ys b
 | [], v, h => ⟨.nil, v, rfl, .nil, h⟩
 | x :: xs, _, h => by
  cases h with
  | lit s h hr =>
   obtain ⟨a, b, rfl, h1, h2⟩ := HT.split (xs := xs) hr
   exact ⟨.cons s .nil a, b, rfl, .lit s h h1, h2⟩
  | form h hf hL hr =>
   obtain ⟨a, b, rfl, h1, h2⟩ := HT.split (xs := xs) hr
   exact ⟨.cons _ _ a, b, rfl, .form h hf hL h1, h2⟩
theorem anyE_hd : hdO sh anyE = none := rfl
theorem FT.anys {ys : List τ} {r : Ef} (h : FT sh allO kid ys r) : ∀ xs : List τ, FT sh allO kid (xs ++ ys) (anys xs.length r)
 | [] => h
 | x :: xs => .any anyE_hd (FT.anys h xs)
theorem fresh (l : List By) : ∃ s, s ∉ l := by
 have h : ∃ n, ∀ s ∈ l, s.length < n := by
  induction l with
  | nil => exact ⟨0, fun s hs => by cases hs⟩
  | cons a r ih =>
   obtain ⟨n, hn⟩ := ih
   refine ⟨n + a.length + 1, fun s hs => ?_⟩
   rcases List.mem_cons.1 hs with rfl | hs
   ·omega
   ·have := hn s hs; omega
 obtain ⟨n, hn⟩ := h
 exact ⟨List.replicate n 0, fun hm => by have := hn _ hm; rw [List.length_replicate] at this; omega⟩
theorem seen_mem {rows : List Ef} {h : EH} {L r : Ef} {s : By} (hm : Rose.cons h L r ∈ rows) (hs : hdO sh h = some s) : s ∈ seenR sh rows := List.mem_filterMap.2 ⟨_, hm, hs⟩
def nodes : Ef → Nat
 | .nil => 0
 | .cons h L r => (if h.k = 1 ∨ h.k = 4 ∨ h.k = 5 then 1 else 0) + nodes L + nodes r
theorem nodes_app : ∀ l m : Ef, nodes (appR l m) = nodes l + nodes m
 | .nil, m => by show nodes m = 0 + nodes m; omega
 | .cons h L r, m => by show _ + _ + nodes (appR r m) = _ + _ + nodes r + nodes m; rw [nodes_app r m]; omega
theorem nodes_anys (r : Ef) : ∀ n, nodes (anys n r) = nodes r
 | 0 => rfl
 | n + 1 => by show 0 + 0 + nodes (anys n r) = _; rw [nodes_anys r n]; omega
theorem hd_node {h : EH} {s : By} (hs : hdO sh h = some s) : h.k = 1 ∨ h.k = 4 ∨ h.k = 5 := by
 unfold hdO at hs
 split at hs
 ·exact .inl (by assumption)
 ·split at hs
  ·exact .inr (.inr (by assumption))
  ·split at hs
   ·exact .inr (.inl (by assumption))
   ·cases hs
def nodesR (rows : List Ef) : Nat := (rows.map nodes).sum
theorem as_nodes (f : Frm τ) (r : Ef) : nodes (asR sh f r).1 ≤ nodes r ∧ (hdR sh r ≠ none → nodes (asR sh f r).1 < nodes r) := by
 cases r with
 | nil => exact ⟨Nat.le_refl _, fun h => absurd rfl h⟩
 | cons h L r =>
  cases hh : hdO sh h with
  | none => rw [as_none hh]; exact ⟨by show nodes (anys _ r) ≤ _ + _ + nodes r; rw [nodes_anys]; omega, fun h9 => absurd hh h9⟩
  | some s =>
   have : nodes (.cons h L r) = 1 + nodes L + nodes r := by show _ + _ + _ = _; rw [if_pos (hd_node hh)]
   rw [as_some hh]
   exact ⟨by show nodes (appR L r) ≤ _; rw [nodes_app, this]; omega, fun _ => by show nodes (appR L r) < _; rw [nodes_app, this]; omega⟩
theorem specR_nodes (f : Frm τ) : ∀ rows : List Ef, nodesR (specR sh f rows) ≤ nodesR rows ∧ (f.nm ∈ seenR sh rows → nodesR (specR sh f rows) < nodesR rows)
 | [] => ⟨Nat.le_refl _, fun h => by cases h⟩
 | r :: rows => by
  have ih := specR_nodes f rows
  have h1 := as_nodes (sh := sh) f r
  unfold specR nodesR at *
  rw [List.filter_cons, List.map_cons, List.sum_cons]
  have e : f.nm ∈ seenR sh (r :: rows) → hdR sh r = some f.nm ∨ f.nm ∈ seenR sh rows := fun hm => by
   unfold seenR at hm
   obtain ⟨x, hx, he⟩ := List.mem_filterMap.1 hm
   rcases List.mem_cons.1 hx with rfl | hx
   ·exact .inl he
   ·exact .inr (List.mem_filterMap.2 ⟨x, hx, he⟩)
  split
  ·rw [List.map_cons, List.map_cons, List.sum_cons]
   refine ⟨by omega, fun hm => ?_⟩
   rcases e hm with h2 | h2
   ·have := h1.2 (by rw [h2]; exact Option.some_ne_none _); omega
   ·have := ih.2 h2; omega
  ·rename_i hb
   refine ⟨by omega, fun hm => ?_⟩
   rcases e hm with h2 | h2
   ·exfalso
    apply hb
    cases r with
    | nil => rfl
    | cons h L r => rw [as_some (show hdO sh h = some f.nm from h2)]; exact decide_eq_true rfl
   ·have := ih.2 h2; omega
theorem restR_nodes : ∀ rows : List Ef, nodesR (restR sh rows) ≤ nodesR rows
 | [] => Nat.le_refl _
 | r :: rows => by
  have ih := restR_nodes rows
  unfold restR nodesR at *
  rw [List.filter_cons, List.map_cons, List.sum_cons]
  split
  ·rw [List.map_cons, List.map_cons, List.sum_cons]
   have : nodes (tlR r) ≤ nodes r := by cases r with | nil => exact Nat.le_refl _ | cons h L r => show nodes r ≤ _ + _ + nodes r; omega
   omega
  ·omega
structure Ok (W : τ → Prop) (K : Nat) : Prop where
  kids : ∀ {x fs f}, W x → allO x = some fs → f ∈ fs → f.tys.length ≤ K ∧ ∀ y ∈ f.tys, W y
  uniq : ∀ {x fs f g}, W x → allO x = some fs → f ∈ fs → g ∈ fs → f.nm = g.nm → f = g
  inh : ∀ {x}, W x → ∃ v, HT allO [x] v
def msr (K : Nat) (xs : List τ) (rows : List Ef) (q : Ef) : Nat := (nodesR rows + nodes q) * (K + 2) + xs.length
theorem rest_no {rows : List Ef} {s : By} {M t : Tms} (hs : s ∉ seenR sh rows) (hr : ∀ r ∈ restR sh rows, mt sh r t = false) : ∀ r ∈ rows, mt sh r (.cons s M t) = false := by
 intro r hm
 cases r with
 | nil => rfl
 | cons h L r =>
  show (_ && mt sh r t) = false
  cases hh : hdO sh h with
  | none =>
   have := hr r (List.mem_map.2 ⟨_, List.mem_filter.2 ⟨hm, by show (hdO sh h).isNone = true; rw [hh]; rfl⟩, rfl⟩)
   rw [this, Bool.and_false]
  | some u =>
   have hne : u ≠ s := fun e => hs (e ▸ seen_mem hm hh)
   show ((decide (u = s) && mt sh L M) && _) = false
   rw [decide_eq_false hne]; rfl
theorem spec_FT {W : τ → Prop} {K : Nat} {x : τ} {xs : List τ} {fs : List (Frm τ)} {f : Frm τ} {rows : List Ef} (hW : Ok (allO := allO) W K) (hx : W x) (ha : allO x = some fs) (hf : f ∈ fs) (hrows : ∀ r ∈ rows, FT sh allO kid (x :: xs) r) : ∀ r ∈ specR sh f rows, FT sh allO kid (f.tys ++ xs) r := by
 intro r hr
 obtain ⟨r0, h1, rfl⟩ := List.mem_map.1 hr
 obtain ⟨h2, h3⟩ := List.mem_filter.1 h1
 cases hrows r0 h2 with
 | any hn hr2 => rw [as_none hn]; exact FT.anys hr2 _
 | lit hn ha2 hk hr2 => rw [ha] at ha2; cases ha2
 | form ha2 hg hn hk hL hr2 =>
  rw [ha] at ha2
  cases ha2
  rw [as_some hn] at h3 ⊢
  have := hW.uniq hx ha hg hf (of_decide_eq_true h3)
  subst this
  exact hL.app hr2
theorem rest_FT {x : τ} {xs : List τ} {rows : List Ef} (hrows : ∀ r ∈ rows, FT sh allO kid (x :: xs) r) : ∀ r ∈ restR sh rows, FT sh allO kid xs r := by
 intro r hr
 obtain ⟨r0, h1, rfl⟩ := List.mem_map.1 hr
 obtain ⟨h2, h3⟩ := List.mem_filter.1 h1
 cases hrows r0 h2 with
 | any hn hr2 => exact hr2
 | lit hn ha2 hk hr2 => exact hr2
 | form ha2 hg hn hk hL hr2 => exact hr2
theorem lit_FT {x : τ} {xs : List τ} {s : By} {rows : List Ef} (ha : allO x = none) (hrows : ∀ r ∈ rows, FT sh allO kid (x :: xs) r) : ∀ r ∈ specR sh (⟨s, []⟩ : Frm τ) rows, FT sh allO kid xs r := by
 intro r hr
 obtain ⟨r0, h1, rfl⟩ := List.mem_map.1 hr
 obtain ⟨h2, h3⟩ := List.mem_filter.1 h1
 cases hrows r0 h2 with
 | any hn hr2 => rw [as_none hn]; exact hr2
 | lit hn ha2 hk hr2 => rw [as_some hn]; exact hr2
 | form ha2 hg hn hk hL hr2 => rw [ha] at ha2; cases ha2
end
section
variable {τ : Type} (sh : VH → By) (allO : τ → Option (List (Frm τ))) (kid : EH → Nat → τ → List τ) (K : Nat)
def usU (xs : List τ) (rows : List Ef) (q : Ef) : Bool := useF sh allO kid (msr K xs rows q + 1) xs rows q
def covU (xs : List τ) (rows : List Ef) : Bool := !usU sh allO kid K xs rows (anys xs.length .nil)
variable {sh allO kid K} {W : τ → Prop}
end
def putsF (css : List KC) (c : By) (ar : Fo) : List Ty := match findC css c with | some k => k.fs.map fun f => putT k.ps ar (f.tn, f.ta) | none => []
def allF (ts : List TD) (css : List KC) (x : Ty) : Option (List (Frm Ty)) :=
 if x.1 = sInt ∨ x.1 = sBig ∨ x.1 = sText then none
 else if x.1 = sBool then some [⟨sFalse, []⟩, ⟨sTrue, []⟩]
 else if x.1 = sTuple then some [⟨sUnit, tysOf x.2⟩]
 else some (match findT ts x.1 with | some d => d.cs.map fun c => ⟨c.nm, putsF css c.nm x.2⟩ | none => [])
def kidF (css : List KC) (h : EH) (n : Nat) (x : Ty) : List Ty := if h.k = 4 then tysOf x.2 else if h.k = 5 then (match findC css h.nm with | some c => if c.ty = x.1 ∧ c.fs.length = n then c.fs.map fun f => putT c.ps x.2 (f.tn, f.ta) else [] | none => []) else []
def kidOK (ts : List TD) (css : List KC) (h : EH) (n : Nat) (x : Ty) : Bool := if h.k = 1 then isF ts css h.v h.vl x else if h.k = 4 then decide (x.1 = sTuple) && decide (x.2.len = n) else if h.k = 5 then (match findC css h.nm with | some c => decide (c.ty = x.1) && decide (c.fs.length = n) | none => false) else true
def fitL (ts : List TD) (css : List KC) : Ef → List Ty → Bool
 | .nil, [] => true
 | .cons h L r, x :: xs => (kidOK ts css h L.len x && fitL ts css L (kidF css h L.len x)) && fitL ts css r xs
 | _, _ => false
def depE : Ef → Nat
 | .nil => 0
 | .cons h L r => max (depE L + 1) (depE r)
def LitOK : Ef → Prop
 | .nil => True
 | .cons h L r => (h.k = 1 → 1 ≤ h.v.k ∧ h.v.k ≤ 4) ∧ LitOK L ∧ LitOK r
def badN (ts : List TD) (y : Ty) : Bool := (nameT ts y || parS y.1) || !countsT ts y
def Wn (ts : List TD) (x : Ty) : Prop := wiT (badN ts) x = false
theorem wi_cons (p : Ty → Bool) (nm : By) (ar r : Fo) : wiL p (.cons nm ar r) = (wiT p (nm, ar) || wiL p r) := rfl
theorem wi_or (p q : Ty → Bool) : ∀ l : Fo, wiL (fun y => p y || q y) l = (wiL p l || wiL q l)
 | .nil => rfl
 | .cons nm ar r => by
  rw [wi_cons, wi_cons, wi_cons, wi_or p q r]
  unfold wiT
  rw [wi_or p q ar]
  exact (show ∀ a b c d e f : Bool, (((a || b) || (c || d)) || (e || f)) = (((a || c) || e) || ((b || d) || f)) by decide) _ _ _ _ _ _
theorem wiT_or (p q : Ty → Bool) (x : Ty) : wiT (fun y => p y || q y) x = (wiT p x || wiT q x) := by
 unfold wiT
 rw [wi_or p q]
 exact (show ∀ a b c d : Bool, ((a || b) || (c || d)) = ((a || c) || (b || d)) by decide) _ _ _ _
theorem wiL_get {p : Ty → Bool} : ∀ {l : Fo} {k : Nat} {x : Ty}, wiL p l = false → l.get? k = some x → wiT p x = false
 | .cons nm ar r, 0, x, h, e => by cases e; rw [wi_cons, Bool.or_eq_false_iff] at h; exact h.1
 | .cons nm ar r, k + 1, x, h, e => by rw [wi_cons, Bool.or_eq_false_iff] at h; exact wiL_get (l := r) h.2 e
theorem mem_tys : ∀ {l : Fo} {y : Ty}, y ∈ tysOf l → ∃ k, l.get? k = some y
 | .nil, y, h => by cases h
 | .cons nm ar r, y, h => by
  rcases List.mem_cons.1 h with rfl | h
  ·exact ⟨0, rfl⟩
  ·obtain ⟨k, hk⟩ := mem_tys h; exact ⟨k + 1, hk⟩
theorem Wn.arg {ts : List TD} {x y : Ty} (h : Wn ts x) (hy : y ∈ tysOf x.2) : Wn ts y := by
 obtain ⟨k, hk⟩ := mem_tys hy
 unfold Wn wiT at h
 rw [Bool.or_eq_false_iff] at h
 exact wiL_get h.2 hk
theorem Wn.here {ts : List TD} {x : Ty} (h : Wn ts x) : nameT ts x = false ∧ parS x.1 = false ∧ countsT ts x = true := by
 unfold Wn wiT badN at h
 simp only [Bool.or_eq_false_iff, Bool.not_eq_false'] at h
 exact ⟨h.1.1.1, h.1.1.2, h.1.2⟩
def FOk (ts : List TD) (ps : List By) (a : Ty) : Prop := wiT (fun y => (nameT ts y || !countsT ts y) || (parS y.1 && !decide (y.1 ∈ ps))) a = false
theorem idxOf_in {ps : List By} {s : By} (h : s ∈ ps) : 0 ≤ idxOf ps s ∧ idxOf ps s < ps.length := by
 unfold idxOf
 rw [if_pos h]
 have := List.idxOf_lt_length_iff.2 h
 omega
theorem put_Wn {ts : List TD} {ps : List By} {L : Fo} (hl : L.len = ps.length) (hL : wiL (badN ts) L = false) : ∀ l : Fo, wiL (fun y => (nameT ts y || !countsT ts y) || (parS y.1 && !decide (y.1 ∈ ps))) l = false → wiL (badN ts) (putL ps L l) = false
 | .nil, _ => rfl
 | .cons nm ar r, h => by
  rw [wi_cons, Bool.or_eq_false_iff] at h
  rw [putL_cons, wi_cons, Bool.or_eq_false_iff]
  refine ⟨?_, put_Wn hl hL r h.2⟩
  have h1 := h.1
  unfold wiT at h1
  rw [Bool.or_eq_false_iff] at h1
  have ih := put_Wn hl hL ar h1.2
  have h2 := h1.1
  simp only [Bool.or_eq_false_iff, Bool.not_eq_false'] at h2
  show wiT (badN ts) (putT ps L (nm, ar)) = false
  unfold putT putA
  by_cases hp : parS nm = true
  ·have h3 : nm ∈ ps := by
    have := h2.2
    rw [hp, Bool.true_and, Bool.not_eq_false'] at this
    exact of_decide_eq_true this
   have h4 := idxOf_in h3
   rw [if_pos ⟨hp, h4.1, by have := h4.2; show idxOf ps nm < _; omega⟩]
   obtain ⟨x, hx⟩ := Fo.get_lt (l := L) (k := (idxOf ps nm).toNat) (by omega)
   rw [hx]
   exact wiL_get hL hx
  ·rw [if_neg (fun h => hp h.1)]
   show wiT (badN ts) (nm, putL ps L ar) = false
   unfold wiT
   rw [Bool.or_eq_false_iff]
   refine ⟨?_, ih⟩
   have e1 : nameT ts (nm, putL ps L ar) = nameT ts (nm, ar) := rfl
   have e2 : countsT ts (nm, putL ps L ar) = countsT ts (nm, ar) := by unfold countsT; rw [show (nm, putL ps L ar).2.len = (nm, ar).2.len from putL_len ps L ar]
   unfold badN
   rw [e1, e2, h2.1.1, h2.1.2]
   simp only [Bool.false_or, Bool.not_true, Bool.or_false]
   simpa using hp
theorem FOk.put {ts : List TD} {ps : List By} {L : Fo} {a : Ty} (h : FOk ts ps a) (hl : L.len = ps.length) (hL : wiL (badN ts) L = false) : Wn ts (putT ps L a) := by
 have := put_Wn hl hL (.cons a.1 a.2 .nil) (by rw [wi_cons]; show (_ || false) = false; rw [Bool.or_false]; exact h)
 rw [putL_cons, wi_cons, Bool.or_eq_false_iff] at this
 exact this.1
theorem useT_ok {ts : List TD} {a : Ty} (h : useT ts a = 0) : wiT (nameT ts) a = false ∧ wiT (fun y => !countsT ts y) a = false := by
 unfold useT at h
 split at h
 ·cases h
 ·split at h
  ·cases h
  ·split at h
   ·cases h
   ·rename_i h1 h2 h3
    exact ⟨by simpa using h2, by simpa using h3⟩
theorem fieldE_ok {ts : List TD} {ps : List By} {f : FD} (h : fieldE ts (fun s => decide (s ∈ ps)) f = 0) : FOk ts ps (f.tn, f.ta) := by
 unfold fieldE at h
 split at h
 ·cases h
 ·rename_i h1
  have h2 := useT_ok h
  unfold FOk
  rw [wiT_or (fun y => nameT ts y || !countsT ts y), wiT_or, h2.1, h2.2]
  rw [h] at h1
  have h3 : ¬ wiT (fun y => parS y.1 && !decide (y.1 ∈ ps)) (f.tn, f.ta) = true := fun h9 => h1 ⟨by decide, h9⟩
  simpa using h3
theorem fieldsE_ok {ts : List TD} {p : By → Bool} : ∀ {l : List FD}, fieldsE ts p l = 0 → ∀ f ∈ l, fieldE ts p f = 0
 | [], _, f, h => by cases h
 | x :: r, h, f, hf => by
  unfold fieldsE at h
  split at h
  ·rename_i h1; exact absurd h h1
  ·rename_i h1
   rcases List.mem_cons.1 hf with rfl | hf
   ·exact Classical.not_not.1 h1
   ·exact fieldsE_ok h f hf
theorem consFE_ok {ts : List TD} {ps : List By} : ∀ {l : List CD}, consFE ts ps l = 0 → ∀ c ∈ l, fieldsE ts (fun s => decide (s ∈ ps)) c.fs = 0
 | [], _, f, h => by cases h
 | x :: r, h, c, hc => by
  unfold consFE at h
  split at h
  ·rename_i h1; exact absurd h h1
  ·rename_i h1
   rcases List.mem_cons.1 hc with rfl | hc
   ·exact Classical.not_not.1 h1
   ·exact consFE_ok h c hc
theorem typesFE_ok {ts : List TD} : ∀ {l : List TD}, typesFE ts l = 0 → ∀ x ∈ l, consFE ts x.ps x.cs = 0
 | [], _, f, h => by cases h
 | x :: r, h, c, hc => by
  unfold typesFE at h
  split at h
  ·rename_i h1; exact absurd h h1
  ·rename_i h1
   rcases List.mem_cons.1 hc with rfl | hc
   ·exact Classical.not_not.1 h1
   ·exact typesFE_ok h c hc
theorem consBad_no : ∀ {l : List CD} {cn : List By}, consBad cn l = false → (l.map CD.nm).Nodup ∧ ∀ c ∈ l, c.nm ∉ cn
 | [], _, _ => ⟨List.nodup_nil, fun c h => by cases h⟩
 | c :: r, cn, h => by
  unfold consBad at h
  simp only [Bool.or_eq_false_iff, decide_eq_false_iff_not] at h
  obtain ⟨h1, h2⟩ := consBad_no h.2
  rw [List.map_cons, List.nodup_cons]
  refine ⟨⟨fun hm => ?_, h1⟩, fun x hx => ?_⟩
  ·obtain ⟨y, hy, e⟩ := List.mem_map.1 hm
   exact h2 y hy (by rw [e]; exact List.mem_append_right _ (List.mem_singleton.2 rfl))
  ·rcases List.mem_cons.1 hx with rfl | hx
   ·exact h.1.1
   ·exact fun hm => h2 x hx (List.mem_append_left _ hm)
theorem dupE_no : ∀ {l : List TD} {tn cn : List By}, dupE tn cn l = false → (∀ x ∈ l, badT [] x = false ∧ x.nm ∉ tn ∧ (x.cs.map CD.nm).Nodup ∧ ∀ c ∈ x.cs, c.nm ∉ cn) ∧ (l.map TD.nm).Nodup ∧ (cnames l).Nodup
 | [], _, _, _ => ⟨fun x hx => (List.not_mem_nil hx).elim, List.nodup_nil, List.nodup_nil⟩
 | x :: r, tn, cn, h => by
  unfold dupE at h
  rw [Bool.or_eq_false_iff, Bool.or_eq_false_iff] at h
  obtain ⟨h1, h2, h3⟩ := dupE_no h.2
  obtain ⟨h4, h5⟩ := consBad_no h.1.2
  have h6 := h.1.1
  unfold badT at h6
  simp only [Bool.or_eq_false_iff, decide_eq_false_iff_not] at h6
  refine ⟨fun y hy => ?_, ?_, ?_⟩
  ·rcases List.mem_cons.1 hy with rfl | hy
   ·refine ⟨?_, h6.1.1.1, h4, h5⟩
    unfold badT
    simp only [Bool.or_eq_false_iff, decide_eq_false_iff_not]
    exact ⟨⟨⟨List.not_mem_nil, h6.1.1.2⟩, h6.1.2⟩, h6.2⟩
   ·obtain ⟨g1, g2, g3, g4⟩ := h1 y hy
    exact ⟨g1, fun hm => g2 (List.mem_append_left _ hm), g3, fun c hc hm => g4 c hc (List.mem_append_left _ hm)⟩
  ·rw [List.map_cons, List.nodup_cons]
   refine ⟨fun hm => ?_, h2⟩
   obtain ⟨y, hy, e⟩ := List.mem_map.1 hm
   exact (h1 y hy).2.1 (by rw [e]; exact List.mem_append_right _ (List.mem_singleton.2 rfl))
  ·unfold cnames
   rw [List.flatMap_cons, List.nodup_append]
   refine ⟨h4, h3, fun a ha b hb e => ?_⟩
   subst e
   obtain ⟨y, hy, hc⟩ := List.mem_flatMap.1 hb
   obtain ⟨c, hc, e⟩ := List.mem_map.1 hc
   exact (h1 y hy).2.2.2 c hc (by rw [e]; exact List.mem_append_right _ ha)
structure TOk (ts : List TD) : Prop where
  dup : dupE [] [] ts = false
  fe : typesFE ts ts = 0
  full : fullE ts = 0
theorem typedE_ok {ts : List TD} (h : typedE ts = 0) : TOk ts := by
 unfold typedE at h
 split at h
 ·cases h
 ·split at h
  ·rename_i h1 h2; exact absurd h h2
  ·rename_i h1 h2
   exact ⟨by simpa using h1, Classical.not_not.1 h2, h⟩
theorem find_uniq {α : Type} {key : α → By} : ∀ {l : List α} {x : α}, (l.map key).Nodup → x ∈ l → l.find? (fun y => decide (key x = key y)) = some x
 | y :: r, x, hn, hx => by
  rw [List.map_cons, List.nodup_cons] at hn
  rw [List.find?_cons]
  by_cases e : key x = key y
  ·rcases List.mem_cons.1 hx with rfl | hx
   ·rw [decide_eq_true e]
   ·exact absurd (List.mem_map.2 ⟨x, hx, e⟩) hn.1
  ·rw [decide_eq_false e]
   exact find_uniq hn.2 ((List.mem_cons.1 hx).resolve_left fun h => e (by rw [h]))
theorem consFrom_mem {x : TD} : ∀ {i : Nat} {l : List CD} {c : CD}, c ∈ l → ∃ k ∈ consFrom x i l, k.nm = c.nm ∧ k.ty = x.nm ∧ k.ps = x.ps ∧ k.fs = c.fs
 | i, d :: r, c, h => by
  rcases List.mem_cons.1 h with rfl | h
  ·exact ⟨_, List.mem_cons_self .., rfl, rfl, rfl, rfl⟩
  ·obtain ⟨k, hk, h1⟩ := consFrom_mem (i := i + 1) h
   exact ⟨k, List.mem_cons_of_mem _ hk, h1⟩
theorem consFrom_of {x : TD} : ∀ {i : Nat} {l : List CD} {k : KC}, k ∈ consFrom x i l → ∃ c ∈ l, k.nm = c.nm ∧ k.ty = x.nm ∧ k.ps = x.ps ∧ k.fs = c.fs
 | i, d :: r, k, h => by
  rcases List.mem_cons.1 h with rfl | h
  ·exact ⟨d, List.mem_cons_self .., rfl, rfl, rfl, rfl⟩
  ·obtain ⟨c, hc, h1⟩ := consFrom_of (i := i + 1) h
   exact ⟨c, List.mem_cons_of_mem _ hc, h1⟩
theorem TOk.cons {ts : List TD} (h : TOk ts) {d : TD} {c : CD} (hd : d ∈ ts) (hc : c ∈ d.cs) : ∃ k, findC (consOf ts) c.nm = some k ∧ k.ty = d.nm ∧ k.ps = d.ps ∧ k.fs = c.fs := by
 obtain ⟨k, hk, h1, h2⟩ := consFrom_mem (x := d) (i := 0) hc
 have hm : k ∈ consOf ts := List.mem_flatMap.2 ⟨d, hd, hk⟩
 have := find_uniq (key := KC.nm) (by rw [consOf_nm]; exact (dupE_no h.dup).2.2) hm
 rw [h1] at this
 exact ⟨k, this, h2⟩
theorem findC_of {ts : List TD} {s : By} {k : KC} (h : findC (consOf ts) s = some k) : k.nm = s ∧ ∃ d ∈ ts, ∃ c ∈ d.cs, c.nm = s ∧ k.ty = d.nm ∧ k.ps = d.ps ∧ k.fs = c.fs := by
 have h1 : s = k.nm := of_decide_eq_true (List.find?_some (p := fun x : KC => decide (s = x.nm)) h)
 obtain ⟨d, hd, hk⟩ := List.mem_flatMap.1 (List.mem_of_find?_eq_some h)
 obtain ⟨c, hc, h2, h3⟩ := consFrom_of hk
 exact ⟨h1.symm, d, hd, c, hc, by rw [← h2, h1], h3⟩
theorem findT_of {ts : List TD} {s : By} {d : TD} (h : findT ts s = some d) : d ∈ ts ∧ d.nm = s := ⟨List.mem_of_find?_eq_some h, (of_decide_eq_true (List.find?_some (p := fun x : TD => decide (s = x.nm)) h) : s = d.nm).symm⟩
theorem TOk.findT {ts : List TD} (h : TOk ts) {d : TD} (hd : d ∈ ts) : findT ts d.nm = some d := find_uniq (key := TD.nm) (dupE_no h.dup).2.1 hd
theorem TOk.field {ts : List TD} (h : TOk ts) {d : TD} {c : CD} (hd : d ∈ ts) (hc : c ∈ d.cs) : ∀ f ∈ c.fs, FOk ts d.ps (f.tn, f.ta) := fun f hf => fieldE_ok (fieldsE_ok (consFE_ok (typesFE_ok h.fe d hd) c hc) f hf)
theorem rch_of {l : List TD} {k : List By} (h : Rch l k) : ∀ s ∈ k, s ∈ full0 ∨ ∃ x ∈ l, x.nm = s ∧ x.cs ≠ [] := by
 induction h with
 | base => exact fun s hs => .inl hs
 | @step k x hk hx hn ho ih =>
  intro s hs
  rcases List.mem_append.1 hs with hs | hs
  ·exact ih s hs
  ·rw [List.mem_singleton] at hs
   subst hs
   refine .inr ⟨x, hx, rfl, fun e => ?_⟩
   unfold tyOK at ho
   rw [e] at ho
   cases ho
theorem TOk.some {ts : List TD} (h : TOk ts) {d : TD} (hd : d ∈ ts) : d.cs ≠ [] := by
 have h1 := h.full
 unfold fullE at h1
 split at h1
 ·rename_i h2
  have h3 := of_decide_eq_true (List.all_eq_true.1 h2 d hd)
  have h4 := ((dupE_no h.dup).1 d hd).1
  unfold badT at h4
  simp only [Bool.or_eq_false_iff, decide_eq_false_iff_not] at h4
  rcases rch_of (fullK_rch ts) d.nm h3 with h5 | ⟨x, hx, e, h6⟩
  ·exfalso
   have h7 := h4.1.1.2
   unfold plainS at h7
   simp only [Bool.or_eq_false_iff, decide_eq_false_iff_not] at h7
   unfold full0 at h5
   simp only [List.mem_cons, List.not_mem_nil, or_false] at h5
   rcases h5 with h5 | h5 | h5 | h5
   ·exact h7.1.1.1 h5
   ·exact h7.1.1.2 h5
   ·exact h7.1.2 h5
   ·exact h7.2 h5
  ·have e1 := h.findT hx
   have e2 := h.findT hd
   rw [e, e2] at e1
   cases e1
   exact h6
 ·cases h1
def arK (ts : List TD) : Nat := 16 + (ts.flatMap fun d => d.cs.map fun c => c.fs.length).sum
theorem le_sum {l : List Nat} {n : Nat} (h : n ∈ l) : n ≤ l.sum := by
 induction l with
 | nil => cases h
 | cons a r ih =>
  rw [List.sum_cons]
  rcases List.mem_cons.1 h with rfl | h
  ·omega
  ·have := ih h; omega
theorem arK_le {ts : List TD} {d : TD} {c : CD} (hd : d ∈ ts) (hc : c ∈ d.cs) : c.fs.length ≤ arK ts := by
 have : c.fs.length ∈ ts.flatMap fun d => d.cs.map fun c => c.fs.length := List.mem_flatMap.2 ⟨d, hd, List.mem_map.2 ⟨c, hc, rfl⟩⟩
 have := le_sum this
 unfold arK
 omega
theorem contains_iff (s sub : By) : Lib.contains s sub = true ↔ sub <:+: s := by
 unfold Lib.contains
 rw [decide_eq_true_eq]
 constructor
 ·intro h
  rcases Lib.index_spec s sub with ⟨h1, _⟩ | ⟨i, h1, h2, h3, _⟩
  ·omega
  ·unfold Lib.occAt at h3
   have := List.isPrefixOf_iff_prefix.1 h3
   exact this.isInfix.trans (List.drop_suffix i s).isInfix
 ·rintro ⟨a, b, e⟩
  rcases Lib.index_spec s sub with ⟨h1, h2⟩ | ⟨i, h1, _⟩
  ·exfalso
   have h3 := h2 a.length (by rw [← e]; simp only [List.length_append]; omega)
   unfold Lib.occAt at h3
   rw [← e, List.append_assoc, List.drop_left] at h3
   rw [List.isPrefixOf_iff_prefix.2 (List.prefix_append _ _)] at h3
   cases h3
  ·omega
def lineW : List By → By
 | [] => [32]
 | w :: ws => 32 :: (w ++ lineW ws)
theorem lineW_head : ∀ ws : List By, ∃ r, lineW ws = 32 :: r
 | [] => ⟨[], rfl⟩
 | w :: ws => ⟨_, rfl⟩
theorem pre_eq : ∀ {s w r t : By}, (32 : UInt8) ∉ s → (32 : UInt8) ∉ w → s ++ 32 :: t = w ++ 32 :: r → s = w
 | [], [], _, _, _, _, _ => rfl
 | [], y :: w, r, t, _, hw, e => by cases e; exact absurd (List.mem_cons_self ..) hw
 | x :: s, [], r, t, hs, _, e => by cases e; exact absurd (List.mem_cons_self ..) hs
 | x :: s, y :: w, r, t, hs, hw, e => by
  injection e with e1 e2
  rw [e1, pre_eq (fun h => hs (List.mem_cons_of_mem _ h)) (fun h => hw (List.mem_cons_of_mem _ h)) e2]
theorem in_line {s : By} (hs : (32 : UInt8) ∉ s) (hne : s ≠ []) : ∀ ws : List By, (∀ w ∈ ws, (32 : UInt8) ∉ w) → (((32 :: s) ++ [32]) <:+: lineW ws ↔ s ∈ ws)
 | [], _ => by
  constructor
  ·intro h
   have := h.length_le
   simp only [lineW, List.length_append, List.length_cons, List.length_nil] at this
   omega
  ·intro h; cases h
 | w :: ws, hw => by
  have ih := in_line hs hne ws fun x hx => hw x (List.mem_cons_of_mem _ hx)
  have hw0 := hw w (List.mem_cons_self ..)
  obtain ⟨r0, hr0⟩ := lineW_head ws
  constructor
  ·rintro ⟨a, b, e⟩
   cases a with
   | nil =>
    have e0 : lineW (w :: ws) = 32 :: (w ++ lineW ws) := rfl
    rw [List.nil_append, e0, hr0] at e
    simp only [List.cons_append, List.append_assoc, List.cons.injEq, true_and, List.singleton_append, List.nil_append] at e
    rw [pre_eq hs hw0 e]
    exact List.mem_cons_self ..
   | cons x a =>
    have e2 : a ++ ((32 :: s) ++ [32]) ++ b = w ++ lineW ws := by
     injection e
    refine List.mem_cons_of_mem _ (ih.1 ?_)
    by_cases hl : w.length ≤ a.length
    ·refine ⟨a.drop w.length, b, ?_⟩
     have := congrArg (List.drop w.length) e2
     rw [List.drop_left, List.append_assoc, List.drop_append_of_le_length hl] at this
     rw [List.append_assoc]; exact this
    ·exfalso
     have h1 : (w ++ lineW ws)[a.length]? = some 32 := by
      rw [← e2, List.append_assoc, List.getElem?_append_right (Nat.le_refl _), Nat.sub_self]; rfl
     rw [List.getElem?_append_left (by omega)] at h1
     exact hw0 (List.mem_of_getElem? h1)
  ·intro h
   rcases List.mem_cons.1 h with rfl | h
   ·refine ⟨[], r0, ?_⟩
    show _ = 32 :: (s ++ lineW ws)
    rw [hr0]; simp
   ·obtain ⟨a, b, e⟩ := ih.2 h
    exact ⟨32 :: w ++ a, b, by show _ = 32 :: (w ++ lineW ws); rw [← e]; simp [List.append_assoc]⟩
def wordsR : List By := [[109, 111, 100, 117, 108, 101], [105, 109, 112, 111, 114, 116], [112, 117, 98], [116, 121, 112, 101], [105, 110, 112, 117, 116], [114, 101, 108], [110, 101, 118, 101, 114], [110, 111, 116], [97, 110, 100], [111, 114], [105, 102], [116, 104, 101, 110], [101, 108, 115, 101], [116, 114, 117, 101], [102, 97, 108, 115, 101], [99, 111, 117, 110, 116], [115, 117, 109], [109, 105, 110], [109, 97, 120], [110, 101, 103], [108, 101, 110], [98, 105, 103], [105, 110, 116], [98, 111, 111, 108], [116, 101, 120, 116], [116, 117, 112, 108, 101]]
def nmS (s : By) : Bool := nameS s && !decide (s ∈ wordsR)
theorem name_no32 {s : By} (h : nameS s = true) : (32 : UInt8) ∉ s := by
 unfold nameS at h
 rw [Bool.and_eq_true, List.all_eq_true] at h
 intro hm
 have := h.2 32 hm
 cases this
theorem name_ne {s : By} (h : nameS s = true) : s ≠ [] := by
 unfold nameS at h
 rw [Bool.and_eq_true] at h
 exact (of_decide_eq_true h.1).1
theorem words_no32 : ∀ w ∈ wordsR, (32 : UInt8) ∉ w := by decide
theorem resvd_iff {s : By} (h : nameS s = true) : Lib.contains (lineW wordsR) ((32 :: s) ++ [32]) = decide (s ∈ wordsR) := by
 rw [Bool.eq_iff_iff, contains_iff, decide_eq_true_eq]
 exact in_line (name_no32 h) (name_ne h) wordsR words_no32
def longS (s : By) : Bool := nmS (cutA s) && (!cutC s || nmS (cutB s))
def varS (s : By) : Bool := decide (s ≠ [] ∧ s.length ≤ 32 ∧ 65 ≤ (s.getD 0 0).toNat ∧ (s.getD 0 0).toNat ≤ 90) && s.all fun c => nameN c.toNat
def zeroV (v : VH × Vf) : Bool := decide (v.1.k = 0 ∧ v.1.n = 0 ∧ v.1.s = [] ∧ v.2.len = 0)
def goodH (h : EH) (n : Nat) : Bool :=
 if h.k = 1 then ((decide (1 ≤ h.v.k ∧ h.v.k ≤ 4) && decide (checkV h.v h.vl = 0)) && decide (n = 0)) && decide (h.nm = [])
 else (if h.k = 2 then varS h.nm && decide (n = 0) else if h.k = 3 then decide (h.nm = []) && decide (n = 0) else if h.k = 4 then decide (h.nm = []) && decide (n ≠ 1 ∧ n ≤ 16) else if h.k = 5 then longS h.nm && decide (n ≤ 8) else false) && zeroV (h.v, h.vl)
def goodL : Ef → Bool
 | .nil => true
 | .cons h L r => (goodH h L.len && goodL L) && goodL r
theorem goodL_cons (h : EH) (L r : Ef) : goodL (.cons h L r) = ((goodH h L.len && goodL L) && goodL r) := rfl
theorem good_lit : ∀ {l : Ef}, goodL l = true → LitOK l
 | .nil, _ => trivial
 | .cons h L r, f => by
  rw [goodL_cons, Bool.and_eq_true, Bool.and_eq_true] at f
  refine ⟨fun h1 => ?_, good_lit f.1.2, good_lit f.2⟩
  have g := f.1.1
  unfold goodH at g
  rw [if_pos h1] at g
  simp only [Bool.and_eq_true, decide_eq_true_eq] at g
  exact g.1.1.1
end Go.Cv
