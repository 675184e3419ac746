/- What is resolved may be a type; the plain law behind UnifyLeast. -/
import Derived.Test.YtcjnmehpkcblfaaUnSb
namespace Go.Un
open Go Go.Wk Go.Proofs.Ytcjnmehpkcblfaa
set_option linter.unusedSimpArgs false
set_option linter.unusedVariables false

/-- Every part is a variable, or has a name that is none's. -/
def wfL : Fo → Prop
  | .nil => True
  | .cons nm ar r => (varT nm ar = true ∨ (cN nm ∧ wfL ar)) ∧ wfL r
def wfT (a : Ty) : Prop := varT a.1 a.2 = true ∨ (cN a.1 ∧ wfL a.2)
theorem wf_sized : ∀ (l : Fo) (d n : Int), wfL l → sizedL l d n = wholeL l d n
  | .nil, _, _, _ => rfl
  | .cons nm ar r, d, n, ⟨h1, h2⟩ => by
    have e : sizedT nm ar d n = wholeT ar d n := by
      unfold sizedT wholeT
      by_cases h3 : n - 1 < 0 ∨ 64 < d
      · rw [if_pos h3, if_pos (by rcases h3 with h | h; exact .inl h; exact .inr (.inl h))]
      · rw [if_neg h3]
        rcases h1 with h1 | ⟨⟨h4, h5⟩, h6⟩
        · have hv := h1
          rw [varT_isV] at h1
          simp only [Bool.and_eq_true, decide_eq_true_eq] at h1
          have h39 : (nm.getD 0 0).toNat = 39 := by
            have := h1.1
            unfold isV at this
            simp only [Bool.and_eq_true, decide_eq_true_eq] at this
            exact this.2
          have hz := len0 h1.2
          subst hz
          rw [if_neg (by rintro (h | h | h); exact h3 (.inl h); exact h3 (.inr h); exact isV_ne h1.1 h), if_pos h39, hv]
          rfl
        · rw [if_neg (by rintro (h | h | h); exact h3 (.inl h); exact h3 (.inr h); exact h4 h), if_neg h5]
          exact wf_sized ar _ _ h6
    rw [sizedL_cons, wholeL_cons, e, wf_sized r _ _ h2]
theorem wf_may {a : Ty} (h : wfT a) (hw : (wholeT a.2 1 2048).1 = true) : may a.1 a.2 = true := by
  have h1 := wf_sized (.cons a.1 a.2 .nil) 1 2048 ⟨h, trivial⟩
  rw [sizedL_cons, wholeL_cons, if_pos hw] at h1
  by_cases h2 : (sizedT a.1 a.2 1 2048).1 = true
  · exact h2
  · rw [if_neg h2] at h1
    have := congrArg Prod.fst h1
    simp [wholeL] at this
theorem ok_wf : ∀ {l : Fo}, okL l → wfL l
  | .nil, _ => trivial
  | .cons nm ar r, ⟨h1, h2⟩ => ⟨by rcases h1 with h | ⟨h3, _, h4⟩; exact .inl h; exact .inr ⟨h3, ok_wf h4⟩, ok_wf h2⟩
theorem wf_sub {s : List UInt8 → Ty} (hs : ∀ v, isV v = true → wfT (s v)) : ∀ {l : Fo}, wfL l → wfL (subL s l)
  | .nil, _ => trivial
  | .cons nm ar r, ⟨h1, h2⟩ => by
    rw [subL_cons]
    refine ⟨?_, wf_sub hs h2⟩
    unfold subT
    by_cases h3 : varT nm ar = true
    · simp only [if_pos h3]
      rw [varT_isV] at h3
      simp only [Bool.and_eq_true] at h3
      exact hs nm h3.1
    · simp only [if_neg h3]
      rcases h1 with h1 | ⟨h4, h5⟩
      · exact absurd h1 h3
      · exact .inr ⟨h4, wf_sub hs h5⟩
theorem wf_subT {s : List UInt8 → Ty} (hs : ∀ v, isV v = true → wfT (s v)) {a : Ty} (h : wfT a) : wfT (subT s a) := by
  have := wf_sub hs (l := .cons a.1 a.2 .nil) ⟨h, trivial⟩
  rw [subL_cons] at this
  exact this.1
theorem res1_wf {nd : Nds} {vv : List UInt8 → Option Nat} {A : Ab} (hI : InvT nd vv A) {i : Nat} {nm : List UInt8} {ar : Fo} (hi : i < nd.length) (h : Res nd A i nm ar) (ih : ∀ js, (∀ j ∈ js, j < nd.length) → ResL nd A ar js → wfL ar) : wfT (nm, ar) := by
  obtain ⟨hx, hrx⟩ := hI.j.w.rr i hi
  rcases h with ⟨hs, rfl, rfl⟩ | ⟨ks, hs, hk, hl⟩
  · obtain ⟨w, hw1, hw2, _⟩ := hI.j.lv _ hx hrx hs
    exact .inl (isV_var (hI.j.va _ _ hw1).2)
  · have hv := (hI.j.sd _ hx hrx hs).2 _ hk
    exact .inr ⟨hI.cn _ _ _ hk hv, ih ks (hI.j.w.ch _ _ _ hk).1 hl⟩
theorem resL_wf {nd : Nds} {vv : List UInt8 → Option Nat} {A : Ab} (hI : InvT nd vv A) : ∀ (l : Fo) (js : List Nat), (∀ j ∈ js, j < nd.length) → ResL nd A l js → wfL l
  | .nil, _, _, _ => trivial
  | .cons nm ar r, js, hb, ⟨i, is, e, h1, h2⟩ => by
    subst e
    exact ⟨res1_wf hI (hb i (List.mem_cons_self ..)) h1 (resL_wf hI ar), resL_wf hI r is (fun j hj => hb j (List.mem_cons_of_mem _ hj)) h2⟩
theorem tell_wf {nd : Nds} {vv : List UInt8 → Option Nat} {A : Ab} {σ : List UInt8 → Ty} (hI : InvT nd vv A) (h : Tell nd vv A σ) : ∀ v, isV v = true → wfT (σ v) := fun v hv => by
  cases hg : vv v with
  | some w => exact res1_wf hI (List.getElem?_eq_some_iff.1 (hI.j.va _ _ hg).1).1 ((h v).1 w hg) (resL_wf hI _)
  | none => rw [(h v).2 hg]; exact .inl (isV_var hv)
theorem tabQ_wf {F : Heap} {tb N : Nat} {σ : List UInt8 → Ty} {G : List Grp} (h : TabQ F tb N σ G) : ∀ v, isV v = true → wfT (σ v) := by
  obtain ⟨mb, T, A, h1, h2, h3⟩ := h
  exact tell_wf h2.i h2.t
theorem subL_congV {s t : List UInt8 → Ty} (h : ∀ v, isV v = true → s v = t v) : ∀ l : Fo, subL s l = subL t l
  | .nil => rfl
  | .cons nm ar r => by
    rw [subL_cons, subL_cons, subL_congV h r]
    have : subT s (nm, ar) = subT t (nm, ar) := by
      have ih := subL_congV h ar
      unfold subT
      by_cases h3 : varT nm ar = true
      · simp only [if_pos h3]
        rw [varT_isV] at h3
        simp only [Bool.and_eq_true] at h3
        exact h nm h3.1
      · simp only [if_neg h3, ih]
    rw [this]
theorem subT_congV {s t : List UInt8 → Ty} (h : ∀ v, isV v = true → s v = t v) (a : Ty) : subT s a = subT t a := by
  have := subL_congV h (.cons a.1 a.2 .nil)
  rw [subL_cons, subL_cons] at this
  injection this with h1 h2
  exact Prod.ext h1 h2
/-- What is put in the place of variables. -/
def thL (names : List (List UInt8)) (L : Fo) : List UInt8 → Ty := fun v => if isV v = true then (if mayL L = true then cbS (sbC names L) v else (v, .nil)) else (v, .nil)
theorem thL_vid (names : List (List UInt8)) (L : Fo) : ∀ v, subT (thL names L) (vid v) = thL names L v := fun v => by
  by_cases h : isV v = true
  · exact subT_var h
  · have h8 : isV v = false := by simpa using h
    rw [show vid v = (v, Fo.nil) from rfl, subT_con _ h8]
    unfold thL
    rw [if_neg h]; rfl
theorem sbv_th {names : List (List UInt8)} {L : Fo} {a : Ty} (h : may a.1 a.2 = true) : sbv names L a = subT (thL names L) a := by
  unfold sbv
  by_cases hL : mayL L = true
  · rw [if_pos ⟨h, hL⟩]
    exact subT_congV (fun v hv => by unfold thL; rw [if_pos hv, if_pos hL]) a
  · rw [if_neg (fun h => hL h.2)]
    conv => lhs; rw [← subT_id a]
    exact subT_congV (fun v hv => by unfold thL; rw [if_pos hv, if_neg hL]) a
def Fac (names : List (List UInt8)) (L : Fo) (σ : List UInt8 → Ty) : Prop := ∀ v, subT (thL names L) (σ v) = thL names L v
theorem least_step {names : List (List UInt8)} {L : Fo} {σ σ' : List UInt8 → Ty} {a b : Ty} {e : Int} (hf : Fac names L σ) (ha : may a.1 a.2 = true) (hb : may b.1 b.2 = true) (hab : sbv names L a = sbv names L b) (hu : UniP σ a b e σ') : e = 0 ∧ Fac names L σ' := by
  rw [sbv_th ha, sbv_th hb] at hab
  unfold UniP at hu
  rw [if_pos ⟨ha, hb⟩] at hu
  rcases hu with ⟨h1, hm⟩ | ⟨_, _, hn⟩
  · exact ⟨h1, hm.best _ hf hab⟩
  · exact absurd hab (hn _ hf)
theorem least_res {names : List (List UInt8)} {L : Fo} {σ : List UInt8 → Ty} {a : Ty} (hf : Fac names L σ) (hw : ∀ v, isV v = true → wfT (σ v)) (ha : may a.1 a.2 = true) (h0 : (resv σ a).1 = 0) : sbv names L (resv σ a).2 = sbv names L a ∧ (resv σ a).2.2.size ≤ 2047 := by
  unfold resv at h0 ⊢
  rw [if_pos ha] at h0 ⊢
  by_cases h : (wholeT (subT σ a).2 1 2048).1 = true
  · rw [if_pos h] at h0 ⊢
    have hok := may_ok ha
    have hwf : wfT a := by
      rcases hok with h1 | ⟨h1, _, h2⟩
      · exact .inl h1
      · exact .inr ⟨h1, ok_wf h2⟩
    have hm := wf_may (wf_subT hw hwf) h
    refine ⟨?_, may_size hm⟩
    show sbv names L (subT σ a) = _
    rw [sbv_th hm, sbv_th ha]
    exact subT_up hf a
  · rw [if_neg h] at h0; cases h0
end Go.Un
