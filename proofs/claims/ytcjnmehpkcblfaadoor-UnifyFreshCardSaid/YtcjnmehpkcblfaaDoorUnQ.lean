/- Types put in the place of variables; valuations of the nodes; what a join does to them. -/
import Derived.Test.YtcjnmehpkcblfaaDoorUnE
namespace Go.Un
open Go Go.Wk
set_option linter.unusedSimpArgs false
set_option linter.unusedVariables false

theorem bl_trans : ∀ {a b c : List UInt8}, Op.bytesLess a b = true → Op.bytesLess b c = true → Op.bytesLess a c = true
  | _, [], _, h, _ => by rename_i a _; cases a <;> simp [Op.bytesLess] at h
  | [], b :: y, [], _, h => by simp [Op.bytesLess] at h
  | [], b :: y, c :: z, _, _ => by simp [Op.bytesLess]
  | a :: x, b :: y, [], _, h => by simp [Op.bytesLess] at h
  | a :: x, b :: y, c :: z, h1, h2 => by
    simp only [Op.bytesLess, Bool.or_eq_true, decide_eq_true_eq, Bool.and_eq_true, beq_iff_eq, UInt8.lt_iff_toNat_lt] at h1 h2 ⊢
    rcases h1 with h1 | ⟨rfl, h1⟩
    · rcases h2 with h2 | ⟨rfl, h2⟩
      · exact .inl (by omega)
      · exact .inl h1
    · rcases h2 with h2 | ⟨rfl, h2⟩
      · exact .inl h2
      · exact .inr ⟨rfl, bl_trans h1 h2⟩
theorem bl_total : ∀ (a b : List UInt8), Op.bytesLess a b = false → Op.bytesLess b a = false → a = b
  | [], [], _, _ => rfl
  | [], b :: y, h, _ => by simp [Op.bytesLess] at h
  | a :: x, [], _, h => by simp [Op.bytesLess] at h
  | a :: x, b :: y, h1, h2 => by
    simp only [Op.bytesLess, Bool.or_eq_false_iff, decide_eq_false_iff_not, UInt8.lt_iff_toNat_lt] at h1 h2
    have e : a = b := UInt8.toNat_inj.1 (by omega)
    subst e
    have h3 : Op.bytesLess x y = false := by simpa using h1.2
    have h4 : Op.bytesLess y x = false := by simpa using h2.2
    rw [bl_total x y h3 h4]
theorem bl_le {a b c : List UInt8} (h1 : Op.bytesLess a b = true) (h2 : Op.bytesLess c b = false) : Op.bytesLess a c = true := by
  cases h : Op.bytesLess b c with
  | true => exact bl_trans h1 h
  | false => rw [← bl_total b c h h2]; exact h1
abbrev Ty := List UInt8 × Fo
def isV (nm : List UInt8) : Bool := decide (1 < nm.length) && decide ((nm.getD 0 0).toNat = 39)
theorem varT_isV (nm : List UInt8) (ar : Fo) : varT nm ar = (isV nm && decide (ar.len = 0)) := rfl
theorem len0 : ∀ {l : Fo}, l.len = 0 → l = .nil
  | .nil, _ => rfl
  | .cons _ _ _, h => by simp [Fo.len] at h
/-- Types in the place of variables. -/
def subL (s : List UInt8 → Ty) : Fo → Fo
  | .nil => .nil
  | .cons nm ar r => .cons (if varT nm ar = true then (s nm).1 else nm) (if varT nm ar = true then (s nm).2 else subL s ar) (subL s r)
def subT (s : List UInt8 → Ty) (a : Ty) : Ty := if varT a.1 a.2 = true then s a.1 else (a.1, subL s a.2)
theorem subL_cons (s : List UInt8 → Ty) (nm : List UInt8) (ar r : Fo) : subL s (.cons nm ar r) = .cons (subT s (nm, ar)).1 (subT s (nm, ar)).2 (subL s r) := by
  conv => lhs; unfold subL
  unfold subT
  by_cases h : varT nm ar = true
  · simp only [if_pos h]
  · simp only [if_neg h]
theorem subL_len (s : List UInt8 → Ty) : ∀ l : Fo, (subL s l).len = l.len
  | .nil => rfl
  | .cons nm ar r => by rw [subL_cons]; simp only [Fo.len, subL_len s r]
theorem varT_sub (s : List UInt8 → Ty) (nm : List UInt8) (ar : Fo) : varT nm (subL s ar) = varT nm ar := by rw [varT_isV, varT_isV, subL_len]
theorem subL_comp (t s : List UInt8 → Ty) : ∀ l : Fo, subL t (subL s l) = subL (fun v => subT t (s v)) l
  | .nil => rfl
  | .cons nm ar r => by
    rw [subL_cons, subL_cons, subL_cons, subL_comp t s r]
    have ih := subL_comp t s ar
    have : subT t (subT s (nm, ar)) = subT (fun v => subT t (s v)) (nm, ar) := by
      generalize hq : (fun v => subT t (s v)) = q at ih
      unfold subT
      by_cases h : varT nm ar = true
      · simp only [if_pos h, ← hq]; rfl
      · simp only [if_neg h, varT_sub, ih]
    rw [show ((subT s (nm, ar)).1, (subT s (nm, ar)).2) = subT s (nm, ar) from rfl, this]
theorem subT_comp (t s : List UInt8 → Ty) (a : Ty) : subT t (subT s a) = subT (fun v => subT t (s v)) a := by
  have := subL_comp t s (.cons a.1 a.2 .nil)
  rw [subL_cons, subL_cons, subL_cons] at this
  injection this with h1 h2
  exact Prod.ext h1 h2
theorem subL_congr {s t : List UInt8 → Ty} (h : ∀ v, s v = t v) (l : Fo) : subL s l = subL t l := by rw [funext h]
theorem subL_id : ∀ l : Fo, subL (fun v => (v, .nil)) l = l
  | .nil => rfl
  | .cons nm ar r => by
    rw [subL_cons, subL_id r]
    unfold subT
    by_cases h : varT nm ar = true
    · simp only [if_pos h]
      rw [varT_isV] at h
      simp only [Bool.and_eq_true, decide_eq_true_eq] at h
      rw [len0 h.2]
    · simp only [if_neg h, subL_id ar]
theorem subT_id (a : Ty) : subT (fun v => (v, .nil)) a = a := by
  have := subL_id (.cons a.1 a.2 .nil)
  rw [subL_cons] at this
  injection this with h1 h2
  exact Prod.ext h1 h2
def mk : List Ty → Fo
  | [] => .nil
  | a :: r => .cons a.1 a.2 (mk r)
theorem mk_inj : ∀ {l m : List Ty}, mk l = mk m → l = m
  | [], [], _ => rfl
  | [], b :: m, h => by cases h
  | a :: l, [], h => by cases h
  | a :: l, b :: m, h => by
    injection h with h1 h2 h3
    rw [mk_inj h3, Prod.ext h1 h2]
theorem mk_size {l : List Ty} {a : Ty} (h : a ∈ l) : a.2.size < (mk l).size := by
  induction l with
  | nil => cases h
  | cons b l ih =>
    rcases List.mem_cons.1 h with rfl | h
    · simp only [mk, Fo.size]; omega
    · have := ih h; simp only [mk, Fo.size]; omega
/-- What nodes may stand for. -/
structure Mod (nd : Nds) (A : Ab) (θ : Nat → Ty) : Prop where
  cl : ∀ i, i < nd.length → θ i = θ (A.rt i)
  nk : ∀ u nm ks, nd[u]? = some (nm, ks) → isV nm = false → θ u = (nm, mk (ks.map θ))
/-- What holds while classes are put together. -/
structure JI (nd : Nds) (vv : List UInt8 → Option Nat) (A : Ab) (l : List (Nat × Nat)) : Prop where
  w : AbW nd A
  lb : ∀ p ∈ l, p.1 < nd.length ∧ p.2 < nd.length
  va : ∀ nm i, vv nm = some i → nd[i]? = some (nm, []) ∧ isV nm = true
  sd : ∀ c, c < nd.length → A.rt c = c → 0 ≤ A.st c → A.rt (A.st c).toNat = c ∧ ∀ x, nd[(A.st c).toNat]? = some x → isV x.1 = false
  lv : ∀ c, c < nd.length → A.rt c = c → A.st c < 0 → ∃ w, vv (A.le c) = some w ∧ A.rt w = c ∧ ∀ v x, vv v = some x → A.rt x = c → Op.bytesLess v (A.le c) = false
  kv : ∀ u nm ks, nd[u]? = some (nm, ks) → isV nm = false → 0 ≤ A.st (A.rt u) ∧ ∃ ks2, nd[(A.st (A.rt u)).toNat]? = some (nm, ks2) ∧ ks.length = ks2.length ∧ ∀ (E : Nat → Nat → Prop), Equivalence E → (∀ i j, A.rt i = A.rt j → E i j) → (∀ p ∈ l, E p.1 p.2) → ∀ (j k k2 : Nat), ks[j]? = some k → ks2[j]? = some k2 → E k k2
theorem isV_ne {nm : List UInt8} (h : isV nm = true) : nm ≠ [] := by rintro rfl; simp [isV] at h
theorem JI.same {nd : Nds} {vv : List UInt8 → Option Nat} {A : Ab} {l : List (Nat × Nat)} {a b : Nat} (h : JI nd vv A (l ++ [(a, b)])) (e : A.rt a = A.rt b) : JI nd vv A l :=
  ⟨h.w, fun p hp => h.lb p (List.mem_append_left _ hp), h.va, h.sd, h.lv, fun u nm ks hu hv => by
    obtain ⟨h1, ks2, h2, h3, h4⟩ := h.kv u nm ks hu hv
    refine ⟨h1, ks2, h2, h3, fun E hE hr hl => h4 E hE hr fun p hp => ?_⟩
    rcases List.mem_append.1 hp with hp | hp
    · exact hl p hp
    · rw [List.mem_singleton] at hp; subst hp; exact hr _ _ e⟩
theorem merge_rt (A : Ab) (x y i : Nat) : (A.merge x y).rt i = if A.rt i = x then y else A.rt i := rfl
theorem merge_coarse (A : Ab) (x y : Nat) {i j : Nat} (h : A.rt i = A.rt j) : (A.merge x y).rt i = (A.merge x y).rt j := by rw [merge_rt, merge_rt, h]
theorem merge_ab {A : Ab} {a b : Nat} : (A.merge (A.rt a) (A.rt b)).rt a = (A.merge (A.rt a) (A.rt b)).rt b := by
  rw [merge_rt, merge_rt, if_pos rfl]
  split
  · rfl
  · rfl
theorem merge_sty {A : Ab} {x y : Nat} : (A.merge x y).st y = max (A.st x) (A.st y) := by show upd A.st y _ y = _; unfold upd; rw [if_pos rfl]
theorem merge_sto {A : Ab} {x y i : Nat} (h : i ≠ y) : (A.merge x y).st i = A.st i := by show upd A.st y _ i = _; unfold upd; rw [if_neg h]
theorem merge_ley {A : Ab} {x y : Nat} : (A.merge x y).le y = lesserS (A.le x) (A.le y) := by show upd A.le y _ y = _; unfold upd; rw [if_pos rfl]
theorem merge_leo {A : Ab} {x y i : Nat} (h : i ≠ y) : (A.merge x y).le i = A.le i := by show upd A.le y _ i = _; unfold upd; rw [if_neg h]
theorem JI.merge {nd : Nds} {vv : List UInt8 → Option Nat} {A : Ab} {l l2 : List (Nat × Nat)} {a b : Nat} (h : JI nd vv A (l ++ [(a, b)])) (e : A.rt a ≠ A.rt b) (hl2 : ∀ p ∈ l2, p.1 < nd.length ∧ p.2 < nd.length) (hsub : ∀ p ∈ l, p ∈ l2)
    (hH : A.st (A.rt a) < 0 ∨ A.st (A.rt b) < 0 ∨ ∃ nm k1 k2, nd[(A.st (A.rt a)).toNat]? = some (nm, k1) ∧ nd[(A.st (A.rt b)).toNat]? = some (nm, k2) ∧ k1.length = k2.length ∧ ∀ p ∈ k1.zip k2, p ∈ l2) : JI nd vv (A.merge (A.rt a) (A.rt b)) l2 := by
  obtain ⟨ha, hb⟩ := h.lb (a, b) (List.mem_append_right _ (List.mem_singleton.2 rfl))
  simp only at ha hb
  obtain ⟨hx, hrx⟩ := h.w.rr a ha
  obtain ⟨hy, hry⟩ := h.w.rr b hb
  generalize hX : A.rt a = x at *
  generalize hY : A.rt b = y at *
  have hmab : (A.merge x y).rt a = (A.merge x y).rt b := by rw [← hX, ← hY]; exact merge_ab
  have hrt : ∀ {c}, (A.merge x y).rt c = c → c ≠ x ∧ A.rt c = c := fun {c} hc => by
    rw [merge_rt] at hc
    by_cases h1 : A.rt c = x
    · rw [if_pos h1] at hc; subst hc; rw [hry] at h1; exact absurd h1.symm e
    · rw [if_neg h1] at hc; exact ⟨fun h2 => h1 (by rw [h2]; exact hrx), hc⟩
  refine ⟨h.w.merge hx hy hry e, hl2, h.va, fun c hc hrc hs => ?_, fun c hc hrc hs => ?_, fun u nm ks hu hv => ?_⟩
  · obtain ⟨hcx, hcc⟩ := hrt hrc
    by_cases hcy : c = y
    · subst hcy
      rw [merge_sty] at hs ⊢
      rcases Int.le_total (A.st x) (A.st c) with h1 | h1
      · rw [Int.max_eq_right h1] at hs ⊢
        obtain ⟨h2, h3⟩ := h.sd c hc hcc hs
        exact ⟨by rw [merge_rt, h2, if_neg hcx], h3⟩
      · rw [Int.max_eq_left h1] at hs ⊢
        obtain ⟨h2, h3⟩ := h.sd x hx hrx hs
        exact ⟨by rw [merge_rt, h2, if_pos rfl], h3⟩
    · rw [merge_sto hcy] at hs ⊢
      obtain ⟨h2, h3⟩ := h.sd c hc hcc hs
      exact ⟨by rw [merge_rt, h2, if_neg hcx], h3⟩
  · obtain ⟨hcx, hcc⟩ := hrt hrc
    by_cases hcy : c = y
    · subst hcy
      rw [merge_sty] at hs
      obtain ⟨w1, hv1, hr1, hm1⟩ := h.lv x hx hrx (by omega)
      obtain ⟨w2, hv2, hr2, hm2⟩ := h.lv c hc hcc (by omega)
      have hn1 := isV_ne (h.va _ _ hv1).2
      have hn2 := isV_ne (h.va _ _ hv2).2
      rw [merge_ley]
      unfold lesserS
      by_cases hlt : Op.bytesLess (A.le c) (A.le x) = true
      · rw [if_pos (.inr ⟨hn2, hlt⟩)]
        refine ⟨w2, hv2, by rw [merge_rt, hr2, if_neg hcx], fun v z hz hrz => ?_⟩
        rw [merge_rt] at hrz
        by_cases h1 : A.rt z = x
        · have h2 := hm1 v z hz h1
          cases h3 : Op.bytesLess v (A.le c) with
          | false => rfl
          | true => rw [bl_trans h3 hlt] at h2; cases h2
        · rw [if_neg h1] at hrz; exact hm2 v z hz hrz
      · have hlt2 : Op.bytesLess (A.le c) (A.le x) = false := by simpa using hlt
        rw [if_neg (by rintro (h1 | ⟨_, h1⟩); exact hn1 h1; exact hlt h1)]
        refine ⟨w1, hv1, by rw [merge_rt, hr1, if_pos rfl], fun v z hz hrz => ?_⟩
        rw [merge_rt] at hrz
        by_cases h1 : A.rt z = x
        · exact hm1 v z hz h1
        · rw [if_neg h1] at hrz
          have h2 := hm2 v z hz hrz
          cases h3 : Op.bytesLess v (A.le x) with
          | false => rfl
          | true => rw [bl_le h3 hlt2] at h2; cases h2
    · rw [merge_sto hcy] at hs
      rw [merge_leo hcy]
      obtain ⟨w1, hv1, hr1, hm1⟩ := h.lv c hc hcc hs
      refine ⟨w1, hv1, by rw [merge_rt, hr1, if_neg hcx], fun v z hz hrz => hm1 v z hz ?_⟩
      rw [merge_rt] at hrz
      by_cases h1 : A.rt z = x
      · rw [if_pos h1] at hrz; exact absurd hrz.symm hcy
      · rw [if_neg h1] at hrz; exact hrz
  · obtain ⟨hs, ks2, hk2, hlen, hE⟩ := h.kv u nm ks hu hv
    have hE' : ∀ (E : Nat → Nat → Prop), Equivalence E → (∀ i j, (A.merge x y).rt i = (A.merge x y).rt j → E i j) → (∀ p ∈ l2, E p.1 p.2) → ∀ (j k k2 : Nat), ks[j]? = some k → ks2[j]? = some k2 → E k k2 := fun E hEq hr hl => hE E hEq (fun i j hij => hr i j (merge_coarse A x y hij)) fun p hp => by
      rcases List.mem_append.1 hp with hp | hp
      · exact hl p (hsub p hp)
      · rw [List.mem_singleton] at hp; subst hp; exact hr _ _ hmab
    by_cases h1 : A.rt u = x
    · rw [merge_rt, if_pos h1, merge_sty]
      rw [h1] at hs hk2
      rcases Int.le_total (A.st y) (A.st x) with h2 | h2
      · rw [Int.max_eq_left h2]; exact ⟨hs, ks2, hk2, hlen, hE'⟩
      · rw [Int.max_eq_right h2]
        rcases hH with h3 | h3 | ⟨nm9, k1, k2, hn1, hn2, hl12, hz⟩
        · omega
        · omega
        · rw [hk2] at hn1; cases hn1
          refine ⟨by omega, k2, hn2, by omega, fun E hEq hr hl j k q hj hq => ?_⟩
          have hjl : j < ks2.length := by rw [hl12]; exact (List.getElem?_eq_some_iff.1 hq).1
          exact hEq.trans (hE' E hEq hr hl j k _ hj (List.getElem?_eq_getElem hjl)) (hl _ (hz (ks2[j], q) (List.mem_of_getElem? (i := j) (by rw [List.getElem?_zip_eq_some]; exact ⟨List.getElem?_eq_getElem hjl, hq⟩))))
    · rw [merge_rt, if_neg h1]
      by_cases h4 : A.rt u = y
      · rw [h4] at hs hk2 ⊢
        rw [merge_sty]
        rcases Int.le_total (A.st x) (A.st y) with h2 | h2
        · rw [Int.max_eq_right h2]; exact ⟨hs, ks2, hk2, hlen, hE'⟩
        · rw [Int.max_eq_left h2]
          rcases hH with h3 | h3 | ⟨nm9, k1, k2, hn1, hn2, hl12, hz⟩
          · omega
          · omega
          · rw [hk2] at hn2; cases hn2
            refine ⟨by omega, k1, hn1, by omega, fun E hEq hr hl j k q hj hq => ?_⟩
            have hjl : j < ks2.length := by rw [← hl12]; exact (List.getElem?_eq_some_iff.1 hq).1
            exact hEq.trans (hE' E hEq hr hl j k _ hj (List.getElem?_eq_getElem hjl)) (hEq.symm (hl _ (hz (q, ks2[j]) (List.mem_of_getElem? (i := j) (by rw [List.getElem?_zip_eq_some]; exact ⟨hq, List.getElem?_eq_getElem hjl⟩)))))
      · rw [merge_sto h4]; exact ⟨hs, ks2, hk2, hlen, hE'⟩
theorem zip_b {nd : Nds} {A : Ab} (hw : AbW nd A) {u v : Nat} {nm nm2 : List UInt8} {ks ks2 : List Nat} (hu : nd[u]? = some (nm, ks)) (hv : nd[v]? = some (nm2, ks2)) : ∀ p ∈ ks.zip ks2, p.1 < nd.length ∧ p.2 < nd.length := fun p hp =>
  ⟨(hw.ch _ _ _ hu).1 _ (List.of_mem_zip hp).1, (hw.ch _ _ _ hv).1 _ (List.of_mem_zip hp).2⟩
theorem JI.var {nd : Nds} {vv : List UInt8 → Option Nat} {A : Ab} {l : List (Nat × Nat)} {a b : Nat} (h : JI nd vv A (l ++ [(a, b)])) (e : A.rt a ≠ A.rt b) (hs : A.st (A.rt a) < 0 ∨ A.st (A.rt b) < 0) : JI nd vv (A.merge (A.rt a) (A.rt b)) l :=
  h.merge e (fun p hp => h.lb p (List.mem_append_left _ hp)) (fun _ h => h) (by rcases hs with h | h; exact .inl h; exact .inr (.inl h))
theorem JI.node {nd : Nds} {vv : List UInt8 → Option Nat} {A : Ab} {l : List (Nat × Nat)} {a b : Nat} {nm : List UInt8} {ks ks2 : List Nat} (h : JI nd vv A (l ++ [(a, b)])) (e : A.rt a ≠ A.rt b) (hu : nd[(A.st (A.rt a)).toNat]? = some (nm, ks)) (hv : nd[(A.st (A.rt b)).toNat]? = some (nm, ks2)) (hl : ks.length = ks2.length) : JI nd vv (A.merge (A.rt a) (A.rt b)) (l ++ ks.zip ks2) :=
  h.merge e (fun p hp => by
    rcases List.mem_append.1 hp with hp | hp
    · exact h.lb p (List.mem_append_left _ hp)
    · exact zip_b h.w hu hv p hp) (fun _ h => List.mem_append_left _ h) (.inr (.inr ⟨nm, ks, ks2, hu, hv, hl, fun p hp => List.mem_append_right _ hp⟩))
theorem JRun.coarse {nd : Nds} {A A' : Ab} {l : List (Nat × Nat)} {r : Bool} (h : JRun nd A l r A') : r = true → (∀ i j, A.rt i = A.rt j → A'.rt i = A'.rt j) ∧ ∀ p ∈ l, A'.rt p.1 = A'.rt p.2 := by
  induction h with
  | done => exact fun _ => ⟨fun _ _ h => h, fun p hp => by cases hp⟩
  | same h h2 ih =>
    intro hr
    obtain ⟨h3, h4⟩ := ih hr
    refine ⟨h3, fun p hp => ?_⟩
    rcases List.mem_append.1 hp with hp | hp
    · exact h4 p hp
    · rw [List.mem_singleton] at hp; subst hp; exact h3 _ _ h
  | clash => intro hr; cases hr
  | var h hs h2 ih =>
    intro hr
    obtain ⟨h3, h4⟩ := ih hr
    refine ⟨fun i j hij => h3 i j (merge_coarse _ _ _ hij), fun p hp => ?_⟩
    rcases List.mem_append.1 hp with hp | hp
    · exact h4 p hp
    · rw [List.mem_singleton] at hp; subst hp; exact h3 _ _ merge_ab
  | node h hu0 hv0 hu hv hl h2 ih =>
    intro hr
    obtain ⟨h3, h4⟩ := ih hr
    refine ⟨fun i j hij => h3 i j (merge_coarse _ _ _ hij), fun p hp => ?_⟩
    rcases List.mem_append.1 hp with hp | hp
    · exact h4 p (List.mem_append_left _ hp)
    · rw [List.mem_singleton] at hp; subst hp; exact h3 _ _ merge_ab
theorem JRun.inv {nd : Nds} {vv : List UInt8 → Option Nat} {A A' : Ab} {l : List (Nat × Nat)} {r : Bool} (h : JRun nd A l r A') : JI nd vv A l → r = true → JI nd vv A' [] := by
  induction h with
  | done => exact fun h _ => h
  | same h h2 ih => exact fun hJ hr => ih (hJ.same h) hr
  | clash => exact fun _ hr => by cases hr
  | var h hs h2 ih => exact fun hJ hr => ih (hJ.var h hs) hr
  | node h hu0 hv0 hu hv hl h2 ih => exact fun hJ hr => ih (hJ.node h hu hv hl) hr
theorem cl_merge {nd : Nds} {A : Ab} {θ : Nat → Ty} {a b : Nat} (hc : ∀ i, i < nd.length → θ i = θ (A.rt i)) (ha : a < nd.length) (hb : b < nd.length) (hab : θ a = θ b) : ∀ i, i < nd.length → θ i = θ ((A.merge (A.rt a) (A.rt b)).rt i) := fun i hi => by
  rw [merge_rt]
  by_cases h : A.rt i = A.rt a
  · rw [if_pos h, hc i hi, h, ← hc a ha, hab, hc b hb]
  · rw [if_neg h]; exact hc i hi
theorem mod_st {nd : Nds} {vv : List UInt8 → Option Nat} {A : Ab} {l : List (Nat × Nat)} (hJ : JI nd vv A l) {θ : Nat → Ty} (hm : Mod nd A θ) {i : Nat} {nm : List UInt8} {ks : List Nat} (hi : i < nd.length) (hs : 0 ≤ A.st (A.rt i)) (hk : nd[(A.st (A.rt i)).toNat]? = some (nm, ks)) : θ i = (nm, mk (ks.map θ)) := by
  obtain ⟨hx, hrx⟩ := hJ.w.rr i hi
  obtain ⟨h1, h2⟩ := hJ.sd _ hx hrx hs
  have hsl := (List.getElem?_eq_some_iff.1 hk).1
  have h3 := hm.nk _ _ _ hk (h2 _ hk)
  have h4 := hm.cl _ hsl
  rw [h1] at h4
  rw [hm.cl i hi, ← h4, h3]
theorem JRun.model {nd : Nds} {vv : List UInt8 → Option Nat} {A A' : Ab} {l : List (Nat × Nat)} {r : Bool} (h : JRun nd A l r A') {θ : Nat → Ty} : JI nd vv A l → Mod nd A θ → (∀ p ∈ l, θ p.1 = θ p.2) → r = true ∧ Mod nd A' θ := by
  induction h with
  | done => exact fun _ hm _ => ⟨rfl, hm⟩
  | same h h2 ih => exact fun hJ hm hl => ih (hJ.same h) hm fun p hp => hl p (List.mem_append_left _ hp)
  | @clash A l a b A' nm ks nm2 ks2 h hu0 hv0 hu hv hne =>
    intro hJ hm hl
    obtain ⟨ha, hb⟩ := hJ.lb (a, b) (List.mem_append_right _ (List.mem_singleton.2 rfl))
    have h1 := hl (a, b) (List.mem_append_right _ (List.mem_singleton.2 rfl))
    simp only at h1 ha hb
    rw [mod_st hJ hm ha hu0 hu, mod_st hJ hm hb hv0 hv] at h1
    injection h1 with h1 h2
    have h3 := congrArg List.length (mk_inj h2)
    simp only [List.length_map] at h3
    rcases hne with h4 | h4
    · exact absurd h1 h4
    · exact absurd h3 h4
  | @var A l a b r A' h hs h2 ih =>
    intro hJ hm hl
    obtain ⟨ha, hb⟩ := hJ.lb (a, b) (List.mem_append_right _ (List.mem_singleton.2 rfl))
    have h1 := hl (a, b) (List.mem_append_right _ (List.mem_singleton.2 rfl))
    exact ih (hJ.var h hs) ⟨cl_merge hm.cl ha hb h1, hm.nk⟩ fun p hp => hl p (List.mem_append_left _ hp)
  | @node A l a b r A' nm ks ks2 h hu0 hv0 hu hv hlen h2 ih =>
    intro hJ hm hl
    obtain ⟨ha, hb⟩ := hJ.lb (a, b) (List.mem_append_right _ (List.mem_singleton.2 rfl))
    have h1 := hl (a, b) (List.mem_append_right _ (List.mem_singleton.2 rfl))
    refine ih (hJ.node h hu hv hlen) ⟨cl_merge hm.cl ha hb h1, hm.nk⟩ fun p hp => ?_
    rcases List.mem_append.1 hp with hp | hp
    · exact hl p (List.mem_append_left _ hp)
    · simp only at h1 ha hb
      rw [mod_st hJ hm ha hu0 hu, mod_st hJ hm hb hv0 hv] at h1
      injection h1 with h1 h3
      have h4 := mk_inj h3
      obtain ⟨j, hj⟩ := List.mem_iff_getElem?.1 hp
      rw [List.getElem?_zip_eq_some] at hj
      have h5 := congrArg (fun l => l[j]?) h4
      simp only [List.getElem?_map, hj.1, hj.2, Option.map_some, Option.some.injEq] at h5
      exact h5
theorem JRun.fine {nd : Nds} {vv : List UInt8 → Option Nat} {A A' : Ab} {l : List (Nat × Nat)} {r : Bool} (h : JRun nd A l r A') : r = true → JI nd vv A l → JI nd vv A' [] → (∀ p ∈ l, Fine nd A' (A'.rt p.1)) → ∀ c, c < nd.length → A.rt c = c → Fine nd A' (A'.rt c) ∨ (A'.rt c = c ∧ A'.st c = A.st c) := by
  induction h with
  | done => exact fun _ _ _ _ c _ hc => .inr ⟨hc, rfl⟩
  | same h h2 ih => exact fun hr hJ hJ' hl => ih hr (hJ.same h) hJ' fun p hp => hl p (List.mem_append_left _ hp)
  | clash => exact fun hr => by cases hr
  | @var A l a b r A' h hs h2 ih =>
    intro hr hJ hJ' hl c hc hrc
    obtain ⟨ha, hb⟩ := hJ.lb (a, b) (List.mem_append_right _ (List.mem_singleton.2 rfl))
    have hfa := hl (a, b) (List.mem_append_right _ (List.mem_singleton.2 rfl))
    simp only at ha hb hfa
    have hco := (JRun.var h hs h2).coarse hr
    have hab := hco.2 (a, b) (List.mem_append_right _ (List.mem_singleton.2 rfl))
    have hxa : A'.rt (A.rt a) = A'.rt a := hco.1 _ _ (hJ.w.rr a ha).2
    have hyb : A'.rt (A.rt b) = A'.rt b := hco.1 _ _ (hJ.w.rr b hb).2
    by_cases h1 : c = A.rt a
    · left; rw [h1, hxa]; exact hfa
    by_cases h3 : c = A.rt b
    · left; rw [h3, hyb, ← hab]; exact hfa
    have h4 := ih hr (hJ.var h hs) hJ' (fun p hp => hl p (List.mem_append_left _ hp)) c hc (by rw [merge_rt, hrc, if_neg h1])
    rwa [merge_sto h3] at h4
  | @node A l a b r A' nm ks ks2 h hu0 hv0 hu hv hlen h2 ih =>
    intro hr hJ hJ' hl c hc hrc
    obtain ⟨ha, hb⟩ := hJ.lb (a, b) (List.mem_append_right _ (List.mem_singleton.2 rfl))
    have hfa := hl (a, b) (List.mem_append_right _ (List.mem_singleton.2 rfl))
    simp only at ha hb hfa
    have hco := (JRun.node h hu0 hv0 hu hv hlen h2).coarse hr
    have hab := hco.2 (a, b) (List.mem_append_right _ (List.mem_singleton.2 rfl))
    obtain ⟨hxl, hxr⟩ := hJ.w.rr a ha
    have hxa : A'.rt (A.rt a) = A'.rt a := hco.1 _ _ hxr
    have hyb : A'.rt (A.rt b) = A'.rt b := hco.1 _ _ (hJ.w.rr b hb).2
    by_cases h1 : c = A.rt a
    · left; rw [h1, hxa]; exact hfa
    by_cases h3 : c = A.rt b
    · left; rw [h3, hyb, ← hab]; exact hfa
    have h4 := ih hr (hJ.node h hu hv hlen) hJ' (fun p hp => by
      rcases List.mem_append.1 hp with hp | hp
      · exact hl p (List.mem_append_left _ hp)
      · obtain ⟨h5, h6⟩ := hJ.sd _ hxl hxr hu0
        obtain ⟨h7, k3, h8, h9, h10⟩ := hJ'.kv _ _ _ hu (h6 _ hu)
        have e1 : A'.rt (A.st (A.rt a)).toNat = A'.rt a := by
          have := hco.1 (A.st (A.rt a)).toNat (A.rt a) (by rw [h5, hxr])
          rw [this, hxa]
        rw [e1] at h7 h8
        obtain ⟨j, hj⟩ := List.mem_iff_getElem?.1 hp
        rw [List.getElem?_zip_eq_some] at hj
        have hjl : j < k3.length := by rw [← h9]; exact (List.getElem?_eq_some_iff.1 hj.1).1
        have h11 := h10 (fun i j => A'.rt i = A'.rt j) ⟨fun _ => rfl, fun h => h.symm, fun h h' => h.trans h'⟩ (fun _ _ h => h) (fun p hp => by cases hp) j _ _ hj.1 (List.getElem?_eq_getElem hjl)
        rw [h11]
        cases hfa with
        | var h12 => omega
        | node h12 h13 h14 => rw [h8] at h13; cases h13; exact h14 _ (List.getElem_mem hjl)) c hc (by rw [merge_rt, hrc, if_neg h1])
    rwa [merge_sto h3] at h4
theorem JRun.fineAll {nd : Nds} {vv : List UInt8 → Option Nat} {A A' : Ab} {a b : Nat} (h : JRun nd A [(a, b)] true A') (hJ : JI nd vv A [(a, b)]) (hf : ∀ c, c < nd.length → Fine nd A (A.rt c)) (hfa : Fine nd A' (A'.rt a)) : ∀ c, c < nd.length → Fine nd A' (A'.rt c) := by
  have hJ' := h.inv hJ rfl
  have hco := (h.coarse rfl).1
  have key := h.fine rfl hJ hJ' (fun p hp => by rw [List.mem_singleton] at hp; subst hp; exact hfa)
  have main : ∀ d, Fine nd A d → d < nd.length → A.rt d = d → Fine nd A' (A'.rt d) := fun d hd => by
    induction hd with
    | var hs =>
      intro hdl hrd
      rcases key _ hdl hrd with h1 | ⟨h1, h2⟩
      · exact h1
      · rw [h1]; exact .var (by omega)
    | @node d nm ks hs hk h3 ih =>
      intro hdl hrd
      rcases key _ hdl hrd with h1 | ⟨h1, h2⟩
      · exact h1
      · rw [h1]
        refine .node (by omega) (by rw [h2]; exact hk) fun k hkm => ?_
        have hkl := (hJ.w.ch _ _ _ hk).1 k hkm
        obtain ⟨h5, h6⟩ := hJ.w.rr k hkl
        have := ih k hkm h5 h6
        rwa [hco _ _ h6] at this
  intro c hc
  obtain ⟨h5, h6⟩ := hJ.w.rr c hc
  have := main _ (hf c hc) h5 h6
  rwa [hco _ _ h6] at this
end Go.Un
