/- The plain law of UnifyFresh: the variables of types, in order; variables renamed; names in order. -/
import Derived.Test.YtcjnmehpkcblfaaDoorUnSm
import Derived.Lib.ItoaMem
namespace Go.Proofs.YtcjnmehpkcblfaaDoor
open Go Go.Wk Go.Un
set_option linter.unusedSimpArgs false
set_option linter.unusedVariables false

/-- The variables, in order. -/
def seqL : Fo → List (List UInt8)
  | .nil => []
  | .cons nm ar r => (if varT nm ar = true then [nm] else seqL ar) ++ seqL r
def seqT (a : Ty) : List (List UInt8) := if varT a.1 a.2 = true then [a.1] else seqL a.2
theorem seqL_cons (nm : List UInt8) (ar r : Fo) : seqL (.cons nm ar r) = seqT (nm, ar) ++ seqL r := rfl
theorem seqL_len : ∀ l : Fo, (seqL l).length ≤ l.size
  | .nil => Nat.le_refl _
  | .cons nm ar r => by
    rw [seqL_cons, List.length_append]
    have h1 := seqL_len ar
    have h2 := seqL_len r
    have h3 : (seqT (nm, ar)).length ≤ ar.size + 1 := by
      unfold seqT
      split
      · simp
      · exact Nat.le_succ_of_le h1
    simp only [Fo.size]; omega
theorem seqT_len (a : Ty) : (seqT a).length ≤ a.2.size + 1 := by
  unfold seqT
  split
  · simp
  · exact Nat.le_succ_of_le (seqL_len _)
theorem varT_is {nm : List UInt8} {ar : Fo} (h : varT nm ar = true) : isV nm = true ∧ ar = .nil := by
  rw [varT_isV] at h
  simp only [Bool.and_eq_true, decide_eq_true_eq] at h
  exact ⟨h.1, len0 h.2⟩
theorem seqL_isV : ∀ {l : Fo} {v : List UInt8}, v ∈ seqL l → isV v = true
  | .cons nm ar r, v, h => by
    unfold seqL at h
    rcases List.mem_append.1 h with h | h
    · split at h
      · rename_i hv
        rw [List.mem_singleton] at h; subst h
        exact (varT_is hv).1
      · exact seqL_isV h
    · exact seqL_isV h
theorem seqL_app : ∀ (l m : Fo), seqL (l.app m) = seqL l ++ seqL m
  | .nil, m => rfl
  | .cons nm ar r, m => by
    show seqL (.cons nm ar (r.app m)) = _
    rw [seqL_cons, seqL_app r m, seqL_cons, List.append_assoc]
theorem mayL_app : ∀ (l m : Fo), mayL (l.app m) = (mayL l && mayL m)
  | .nil, m => rfl
  | .cons nm ar r, m => by
    show (may nm ar && mayL (r.app m)) = (may nm ar && mayL r && mayL m)
    rw [mayL_app r m, Bool.and_assoc]

/-! ### each once -/
/-- A text put behind others, if it is none of them. -/
def put1 (a : List (List UInt8)) (x : List UInt8) : List (List UInt8) := if x ∈ a then a else a ++ [x]
def dds (l : List (List UInt8)) : List (List UInt8) := l.foldl put1 []
theorem dds_app1 (l : List (List UInt8)) (x : List UInt8) : dds (l ++ [x]) = put1 (dds l) x := by unfold dds; rw [List.foldl_append]; rfl
theorem snocInd {C : List (List UInt8) → Prop} (h0 : C []) (h1 : ∀ l x, C l → C (l ++ [x])) : ∀ l, C l := fun l => by
  rw [← List.reverse_reverse l]
  induction l.reverse with
  | nil => exact h0
  | cons x r ih => rw [List.reverse_cons]; exact h1 _ _ ih
theorem mem_dds (l : List (List UInt8)) (x : List UInt8) : x ∈ dds l ↔ x ∈ l := by
  refine snocInd (C := fun l => x ∈ dds l ↔ x ∈ l) (Iff.rfl) (fun l y ih => ?_) l
  rw [dds_app1]
  unfold put1
  split
  · rename_i h
    rw [ih, List.mem_append, List.mem_singleton]
    refine ⟨.inl, fun h2 => h2.elim id fun e => ?_⟩
    subst e; exact ih.1 h
  · rw [List.mem_append, List.mem_append, ih]
theorem dds_nodup (l : List (List UInt8)) : (dds l).Nodup := by
  refine snocInd (C := fun l => (dds l).Nodup) List.Pairwise.nil (fun l y ih => ?_) l
  rw [dds_app1]
  unfold put1
  split
  · exact ih
  · rename_i h
    exact List.nodup_append.2 ⟨ih, List.pairwise_singleton _ _, fun a ha b hb e => h (by rw [List.mem_singleton] at hb; subst hb; subst e; exact ha)⟩
theorem dds_len (l : List (List UInt8)) : (dds l).length ≤ l.length := by
  refine snocInd (C := fun l => (dds l).length ≤ l.length) (Nat.le_refl _) (fun l y ih => ?_) l
  rw [dds_app1]
  unfold put1
  split
  · rw [List.length_append]; omega
  · rw [List.length_append, List.length_append]; simp; omega
theorem dds_app (a b : List (List UInt8)) (h : ∀ x ∈ b, x ∉ a) : dds (a ++ b) = dds a ++ dds b := by
  revert h
  refine snocInd (C := fun b => (∀ x ∈ b, x ∉ a) → dds (a ++ b) = dds a ++ dds b) (fun _ => by rw [List.append_nil]; simp [dds]) (fun b y ih h => ?_) b
  rw [← List.append_assoc, dds_app1, dds_app1, ih fun x hx => h x (List.mem_append_left _ hx)]
  have hy : y ∉ dds a := fun hm => h y (by simp) ((mem_dds _ _).1 hm)
  unfold put1
  by_cases hb : y ∈ dds b
  · rw [if_pos hb, if_pos (List.mem_append_right _ hb)]
  · rw [if_neg hb, if_neg (fun hm => (List.mem_append.1 hm).elim hy hb), List.append_assoc]
theorem dds_map (r : List UInt8 → List UInt8) (l : List (List UInt8)) (h : ∀ x ∈ l, ∀ y ∈ l, r x = r y → x = y) : dds (l.map r) = (dds l).map r := by
  revert h
  refine snocInd (C := fun l => (∀ x ∈ l, ∀ y ∈ l, r x = r y → x = y) → dds (l.map r) = (dds l).map r) (fun _ => rfl) (fun l y ih h => ?_) l
  rw [List.map_append, List.map_singleton, dds_app1, dds_app1, ih fun x hx z hz => h x (List.mem_append_left _ hx) z (List.mem_append_left _ hz)]
  unfold put1
  by_cases hy : y ∈ dds l
  · rw [if_pos hy, if_pos (List.mem_map_of_mem hy)]
  · rw [if_neg hy, if_neg, List.map_append, List.map_singleton]
    rintro hm
    obtain ⟨z, hz, e⟩ := List.mem_map.1 hm
    have hz2 := (mem_dds _ _).1 hz
    have := h z (List.mem_append_left _ hz2) y (by simp) e
    subst this
    exact hy hz
/-- The variables of types, each once. -/
def vnm (l : Fo) : List (List UInt8) := dds (seqL l)
def vnames (l : Fo) : List (List UInt8) := if mayL l = true then vnm l else []

/-! ### other names -/
theorem subL_congr2 {s t : List UInt8 → Ty} : ∀ {l : Fo}, (∀ v ∈ seqL l, s v = t v) → subL s l = subL t l
  | .nil, _ => rfl
  | .cons nm ar r, h => by
    have h1 : subT s (nm, ar) = subT t (nm, ar) := by
      unfold subT
      split
      · rename_i hv
        exact h nm (by rw [seqL_cons, seqT, if_pos hv]; exact List.mem_append_left _ (List.mem_singleton.2 rfl))
      · rename_i hv
        show (nm, subL s ar) = (nm, subL t ar)
        rw [subL_congr2 (l := ar) fun v hm => h v (by rw [seqL_cons, seqT, if_neg hv]; exact List.mem_append_left _ hm)]
    rw [subL_cons, subL_cons, h1, subL_congr2 (l := r) fun v hm => h v (by rw [seqL_cons]; exact List.mem_append_right _ hm)]
def rnm (r : List UInt8 → List UInt8) : List UInt8 → Ty := fun v => (r v, .nil)
theorem isV_varT {v : List UInt8} (h : isV v = true) : varT v .nil = true := by rw [varT_isV, h]; rfl
theorem seqL_sub (r : List UInt8 → List UInt8) (hr : ∀ v, isV v = true → isV (r v) = true) : ∀ l : Fo, seqL (subL (rnm r) l) = (seqL l).map r
  | .nil => rfl
  | .cons nm ar s => by
    rw [subL_cons, seqL_cons, seqL_cons, List.map_append, seqL_sub r hr s]
    congr 1
    show seqT (subT (rnm r) (nm, ar)) = _
    by_cases hv : varT nm ar = true
    · have h1 := (varT_is hv).1
      rw [seqT, subT, if_pos hv, seqT, if_pos hv]
      show (if varT (r nm) .nil = true then [r nm] else _) = _
      rw [if_pos (isV_varT (hr _ h1))]; rfl
    · rw [seqT, subT, if_neg hv, seqT, if_neg hv]
      show (if varT nm (subL (rnm r) ar) = true then [nm] else _) = _
      rw [if_neg (by rw [varT_sub]; exact hv)]
      exact seqL_sub r hr ar
theorem sizedL_sub (r : List UInt8 → List UInt8) (hr : ∀ v, isV v = true → isV (r v) = true) : ∀ (l : Fo) (d n : Int), sizedL (subL (rnm r) l) d n = sizedL l d n
  | .nil, _, _ => rfl
  | .cons nm ar s, d, n => by
    have h1 : sizedT (subT (rnm r) (nm, ar)).1 (subT (rnm r) (nm, ar)).2 d n = sizedT nm ar d n := by
      by_cases hv : varT nm ar = true
      · obtain ⟨h1, rfl⟩ := varT_is hv
        have h2 := hr _ h1
        rw [subT, if_pos hv]
        show sizedT (r nm) .nil d n = _
        have e1 : ∀ v, isV v = true → sizedT v .nil d n = if n - 1 < 0 ∨ 64 < d then (false, n - 1) else (true, n - 1) := fun v h => by
          have h3 := h
          simp only [isV, Bool.and_eq_true, decide_eq_true_eq] at h3
          unfold sizedT
          by_cases hc : n - 1 < 0 ∨ 64 < d
          · rw [if_pos (by rcases hc with hc | hc; exact .inl hc; exact .inr (.inl hc)), if_pos hc]
          · rw [if_neg (by rintro (h4 | h4 | h4); exact hc (.inl h4); exact hc (.inr h4); exact isV_ne h h4), if_neg hc, if_pos h3.2, isV_varT h]
        rw [e1 _ h2, e1 _ h1]
      · rw [subT, if_neg hv]
        show sizedT nm (subL (rnm r) ar) d n = _
        unfold sizedT
        rw [varT_sub, sizedL_sub r hr ar]
    rw [subL_cons, sizedL_cons, sizedL_cons, h1, sizedL_sub r hr s]
theorem may_sub (r : List UInt8 → List UInt8) (hr : ∀ v, isV v = true → isV (r v) = true) (a : Ty) : may (subT (rnm r) a).1 (subT (rnm r) a).2 = may a.1 a.2 := by
  have h := sizedL_sub r hr (.cons a.1 a.2 .nil) 1 2048
  rw [subL_cons, sizedL_cons, sizedL_cons] at h
  have e : ∀ (x : Bool × Int), (if x.1 = true then sizedL .nil 1 x.2 else (false, x.2)) = x := fun x => by
    obtain ⟨x1, x2⟩ := x
    cases x1 <;> rfl
  rw [show subL (rnm r) Fo.nil = Fo.nil from rfl, e, e] at h
  exact congrArg Prod.fst h
theorem mayL_sub (r : List UInt8 → List UInt8) (hr : ∀ v, isV v = true → isV (r v) = true) : ∀ l : Fo, mayL (subL (rnm r) l) = mayL l
  | .nil => rfl
  | .cons nm ar s => by
    rw [subL_cons]
    show (may _ _ && mayL _) = (may nm ar && mayL s)
    rw [may_sub r hr (nm, ar), mayL_sub r hr s]
/-- Variables by their places: what renamed's function tells. -/
def rnC (vs : List (List UInt8)) (na : Nat → List UInt8) : List UInt8 → Option Ty := fun v => if v ∈ vs then some (na (vs.idxOf v), .nil) else none
def rnR (vs : List (List UInt8)) (na : Nat → List UInt8) : List UInt8 → List UInt8 := fun v => if v ∈ vs then na (vs.idxOf v) else v
theorem rnC_sub (vs : List (List UInt8)) (na : Nat → List UInt8) : (fun v => (rnC vs na v).getD (v, .nil)) = rnm (rnR vs na) := by
  funext v
  unfold rnC rnm rnR
  split <;> rfl
/-- Types with variables renamed, by their places among all. -/
def renF (l : Fo) (na : Nat → List UInt8) : Fo := subL (rnm (rnR (vnames l) na)) l
def letS (i : Nat) : List UInt8 := 39 :: UInt8.ofNat (97 + i % 26) :: (if 26 ≤ i then Lib.itoa ((i / 26 : Nat) : Int) else [])
def canF (l : Fo) : Fo := renF l letS
theorem idxOf_map (r : List UInt8 → List UInt8) : ∀ {l : List (List UInt8)} {x : List UInt8}, (∀ y ∈ l, r y = r x → y = x) → (l.map r).idxOf (r x) = l.idxOf x
  | [], x, _ => rfl
  | a :: l, x, h => by
    rw [List.map_cons, List.idxOf_cons, List.idxOf_cons]
    by_cases e : a = x
    · subst e; simp
    · have h2 : r a ≠ r x := fun e2 => e (h a (List.mem_cons_self ..) e2)
      have h3 : (a == x) = false := by simpa using e
      have h4 : (r a == r x) = false := by simpa using h2
      rw [h3, h4, idxOf_map r fun y hy => h y (List.mem_cons_of_mem _ hy)]
theorem getD_at {l : List (List UInt8)} {i : Nat} (h : i < l.length) : l.getD i [] = l[i] := by rw [List.getD_eq_getElem?_getD, List.getElem?_eq_getElem h]; rfl
/-- Names in order are the same behind other names that differ. -/
theorem canF_ren {l : Fo} {na : List (List UInt8)} (hm : mayL l = true) (hl : na.length = (vnames l).length) (hn : na.Nodup) (hv : ∀ v ∈ na, isV v = true) :
    let r := rnR (vnames l) (fun i => na.getD i [])
    (∀ v, isV v = true → isV (r v) = true) ∧ (∀ v ∈ vnm l, r v ∈ na) ∧ (∀ x ∈ seqL l, ∀ y ∈ seqL l, r x = r y → x = y) ∧ canF (renF l fun i => na.getD i []) = canF l := by
  have hvn : vnames l = vnm l := by unfold vnames; rw [if_pos hm]
  rw [hvn] at hl
  intro r
  have hr : ∀ v, v ∈ vnm l → (vnm l).idxOf v < na.length ∧ r v = na.getD ((vnm l).idxOf v) [] := fun v h => by
    refine ⟨by rw [hl]; exact List.idxOf_lt_length_iff.2 h, ?_⟩
    show rnR (vnames l) _ v = _
    unfold rnR
    rw [hvn, if_pos h]
  have hmem : ∀ v ∈ vnm l, r v ∈ na := fun v h => by
    obtain ⟨h1, h2⟩ := hr v h
    rw [h2, getD_at h1]
    exact List.getElem_mem _
  have hin : ∀ x ∈ seqL l, x ∈ vnm l := fun x h => (mem_dds _ _).2 h
  have hinj : ∀ x ∈ vnm l, ∀ y ∈ vnm l, r x = r y → x = y := fun x hx y hy e => by
    obtain ⟨h1, h2⟩ := hr x hx
    obtain ⟨h3, h4⟩ := hr y hy
    rw [h2, h4, getD_at h1, getD_at h3] at e
    have h5 : (vnm l).idxOf x = (vnm l).idxOf y := by
      rcases Nat.lt_trichotomy ((vnm l).idxOf x) ((vnm l).idxOf y) with h | h | h
      · exact absurd e (List.pairwise_iff_getElem.1 hn _ _ h1 h3 h)
      · exact h
      · exact absurd e.symm (List.pairwise_iff_getElem.1 hn _ _ h3 h1 h)
    have h6 := List.getElem_idxOf (List.idxOf_lt_length_iff.2 hx)
    have h7 := List.getElem_idxOf (List.idxOf_lt_length_iff.2 hy)
    rw [← h6, ← h7]
    simp only [h5]
  have hisv : ∀ v, isV v = true → isV (r v) = true := fun v h => by
    by_cases h2 : v ∈ vnm l
    · exact hv _ (hmem v h2)
    · show isV (rnR (vnames l) _ v) = true
      unfold rnR
      rw [hvn, if_neg h2]; exact h
  refine ⟨hisv, hmem, fun x hx y hy => hinj x (hin x hx) y (hin y hy), ?_⟩
  have hm2 : mayL (subL (rnm r) l) = true := by rw [mayL_sub r hisv]; exact hm
  have hvn2 : vnames (subL (rnm r) l) = (vnm l).map r := by
    unfold vnames
    rw [if_pos hm2]
    unfold vnm
    rw [seqL_sub r hisv, dds_map r _ fun x hx y hy => hinj x (hin x hx) y (hin y hy)]
  show canF (subL (rnm r) l) = _
  unfold canF renF
  rw [hvn2, hvn, subL_comp]
  refine subL_congr2 fun v hm3 => ?_
  have h1 := hin v hm3
  show subT _ (r v, Fo.nil) = _
  rw [subT, if_pos (isV_varT (hisv v (seqL_isV hm3)))]
  show (rnR ((vnm l).map r) letS (r v), Fo.nil) = (rnR (vnm l) letS v, Fo.nil)
  unfold rnR
  rw [if_pos h1, if_pos (List.mem_map_of_mem h1), idxOf_map r fun y hy e => hinj y hy v h1 e]
/-- The law of UnifyFresh. -/
theorem fresh_law {l : Fo} {na nb : List (List UInt8)} (hm : mayL l = true) (ha : na.length = (vnames l).length) (hb : nb.length = (vnames l).length)
    (hna : na.Nodup) (hnb : nb.Nodup) (hva : ∀ v ∈ na, isV v = true) (hvb : ∀ v ∈ nb, isV v = true) (hda : ∀ v ∈ na, v ∉ seqL l) (hdb : ∀ v ∈ nb, v ∉ seqL l ∧ v ∉ na) :
    canF (renF l fun i => na.getD i []) = canF l ∧ canF (renF l fun i => nb.getD i []) = canF l ∧ (vnames ((l.app (renF l fun i => na.getD i [])).app (renF l fun i => nb.getD i []))).length = 3 * (vnames l).length := by
  obtain ⟨a1, a2, a3, a4⟩ := canF_ren hm ha hna hva
  obtain ⟨b1, b2, b3, b4⟩ := canF_ren hm hb hnb hvb
  refine ⟨a4, b4, ?_⟩
  have hvn : vnames l = vnm l := by unfold vnames; rw [if_pos hm]
  have hin : ∀ x ∈ seqL l, x ∈ vnm l := fun x h => (mem_dds _ _).2 h
  have e1 : vnames ((l.app (renF l fun i => na.getD i [])).app (renF l fun i => nb.getD i [])) = dds (seqL l ++ (seqL l).map (rnR (vnames l) fun i => na.getD i []) ++ (seqL l).map (rnR (vnames l) fun i => nb.getD i [])) := by
    unfold vnames
    rw [if_pos (by rw [mayL_app, mayL_app, hm]; unfold renF; rw [mayL_sub _ a1, mayL_sub _ b1, hm]; rfl)]
    unfold vnm
    rw [seqL_app, seqL_app]
    conv => lhs; unfold renF
    rw [seqL_sub _ a1, seqL_sub _ b1]
    rfl
  rw [e1, dds_app, dds_app, List.length_append, List.length_append, dds_map _ _ a3, dds_map _ _ b3, List.length_map, List.length_map, hvn]
  · unfold vnm; omega
  · intro x hx
    obtain ⟨v, hv, rfl⟩ := List.mem_map.1 hx
    exact hda _ (a2 v (hin v hv))
  · intro x hx
    obtain ⟨v, hv, rfl⟩ := List.mem_map.1 hx
    have h1 := hdb _ (b2 v (hin v hv))
    rintro hm2
    rcases List.mem_append.1 hm2 with h2 | h2
    · exact h1.1 h2
    · obtain ⟨u, hu, e⟩ := List.mem_map.1 h2
      exact h1.2 (by rw [← e]; exact a2 u (hin u hu))
end Go.Proofs.YtcjnmehpkcblfaaDoor
