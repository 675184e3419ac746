/- What the examples come to. -/
import Derived.Test.YtcjnmehpkcblfaaDoorUnG
namespace Go.Proofs.YtcjnmehpkcblfaaDoor
open Go Go.Wk Go.Un
set_option linter.unusedSimpArgs false
set_option linter.unusedVariables false

abbrev vA : List UInt8 := [39, 97]
abbrev vB : List UInt8 := [39, 98]
abbrev vC : List UInt8 := [39, 99]
abbrev vD : List UInt8 := [39, 100]
abbrev vE : List UInt8 := [39, 101]
abbrev tI : Ty := ([105, 110, 116], .nil)
abbrev tL (x : Ty) : Ty := ([108, 105, 115, 116], .cons x.1 x.2 .nil)
abbrev tT (x y : Ty) : Ty := ([116, 117, 112, 108, 101], .cons x.1 x.2 (.cons y.1 y.2 .nil))
def th1 : List UInt8 → Ty := fun v => if v = vA then tI else if v = vB then tT tI (vC, .nil) else if v = vE then (vD, .nil) else (v, .nil)
theorem th1_vid : ∀ v, subT th1 (vid v) = th1 v := fun v => by
  by_cases h : isV v = true
  · exact subT_var h
  · have h2 : isV v = false := by simpa using h
    rw [show vid v = (v, Fo.nil) from rfl, subT_con _ h2]
    show (v, Fo.nil) = th1 v
    unfold th1
    rw [if_neg (fun e => h (by rw [e]; rfl)), if_neg (fun e => h (by rw [e]; rfl)), if_neg (fun e => h (by rw [e]; rfl))]
theorem subT_L (s : List UInt8 → Ty) (x : Ty) : subT s (tL x) = tL (subT s x) := by
  rw [subT_con _ (by rfl), subL_cons]; rfl
theorem subT_T (s : List UInt8 → Ty) (x y : Ty) : subT s (tT x y) = tT (subT s x) (subT s y) := by
  rw [subT_con _ (by rfl), subL_cons, subL_cons]; rfl
theorem subT_I (s : List UInt8 → Ty) : subT s tI = tI := by rw [subT_con _ (by rfl)]; rfl
theorem subT_v (s : List UInt8 → Ty) (v : List UInt8) (h : isV v = true) : subT s (v, .nil) = s v := subT_var h
structure K1 (σ : List UInt8 → Ty) : Prop where
  a : σ vA = tI
  f : ∀ v, subT th1 (σ v) = th1 v
theorem step1 {e : Int} {σ : List UInt8 → Ty} (h : UniP vid (tL (vA, .nil)) (tL tI) e σ) : e = 0 ∧ K1 σ := by
  unfold UniP at h
  rw [if_pos ⟨by rfl, by rfl⟩] at h
  have h1 : subT th1 (tL (vA, .nil)) = subT th1 (tL tI) := by rw [subT_L, subT_L, subT_v _ _ (by rfl), subT_I]; rfl
  rcases h with ⟨rfl, hm⟩ | ⟨_, _, hn⟩
  · refine ⟨rfl, ?_, hm.best th1 th1_vid h1⟩
    have h2 := hm.eq
    rw [subT_L, subT_L, subT_v _ _ (by rfl), subT_I] at h2
    injection h2 with _ h2
    injection h2 with h3 h4
    exact Prod.ext h3 h4
  · exact absurd h1 (hn th1 th1_vid)
theorem is1 {σ : List UInt8 → Ty} (h : K1 σ) : isv σ (vA, .nil) tI = true := by
  unfold isv resv
  rw [if_pos (by rfl), subT_v _ _ (by rfl), h.a]
  rfl
structure K2 (σ : List UInt8 → Ty) : Prop where
  b : σ vB = tT tI (vC, .nil)
  c : σ vC = (vC, .nil)
  f : ∀ v, subT th1 (σ v) = th1 v
theorem th1_var {nm : List UInt8} {v : List UInt8} (h : th1 nm = (v, .nil)) : nm = vA ∧ v = [105, 110, 116] ∨ nm = vE ∧ v = vD ∨ nm = v := by
  unfold th1 at h
  split at h
  · rename_i e; injection h with h _; exact .inl ⟨e, h.symm⟩
  split at h
  · injection h with _ h; cases h
  split at h
  · rename_i e; injection h with h _; exact .inr (.inl ⟨e, h.symm⟩)
  · injection h with h _; exact .inr (.inr h)
theorem sub_is {s : List UInt8 → Ty} {q : Ty} {v : List UInt8} (h : subT s q = (v, .nil)) (hv : isV v = true) : ∃ w, isV w = true ∧ q = (w, .nil) ∧ s w = (v, .nil) := by
  obtain ⟨nm, ar⟩ := q
  unfold subT at h
  by_cases h4 : varT nm ar = true
  · simp only [if_pos h4] at h
    rw [varT_isV] at h4
    simp only [Bool.and_eq_true, decide_eq_true_eq] at h4
    exact ⟨nm, h4.1, by rw [len0 h4.2], h⟩
  · simp only [if_neg h4] at h
    injection h with h5 h6
    subst h5
    have h7 : ar = .nil := len0 (by have := subL_len s ar; rw [h6] at this; exact this.symm)
    subst h7
    exact absurd (isV_var hv) h4
theorem step2 {e : Int} {σ σ2 : List UInt8 → Ty} (hk : K1 σ) (h : UniP σ (vB, .nil) (tT (vA, .nil) (vC, .nil)) e σ2) : e = 0 ∧ K2 σ2 := by
  unfold UniP at h
  rw [if_pos ⟨by rfl, by rfl⟩] at h
  have h1 : subT th1 (vB, .nil) = subT th1 (tT (vA, .nil) (vC, .nil)) := by rw [subT_T, subT_v _ _ (by rfl), subT_v _ _ (by rfl), subT_v _ _ (by rfl)]; rfl
  rcases h with ⟨rfl, hm⟩ | ⟨_, _, hn⟩
  · have hb := hm.best th1 hk.f h1
    have hc : σ2 vC = (vC, .nil) := by
      obtain ⟨w, h2, h3, h4⟩ := sub_is (s := th1) (q := σ2 vC) (v := vC) (by rw [hb vC]; rfl) (by rfl)
      rcases th1_var h4 with ⟨_, h5⟩ | ⟨_, h5⟩ | h5
      · cases h5
      · cases h5
      · rw [h3, h5]
    have ha : σ2 vA = tI := by rw [← hm.up, hk.a, subT_I]
    refine ⟨rfl, ?_, hc, hb⟩
    have h2 := hm.eq
    rw [subT_T, subT_v _ _ (by rfl), subT_v _ _ (by rfl), subT_v _ _ (by rfl), ha, hc] at h2
    exact h2
  · exact absurd h1 (hn th1 hk.f)
theorem is2 {σ : List UInt8 → Ty} (h : K2 σ) : isv σ (vB, .nil) (tT tI (vC, .nil)) = true := by
  unfold isv resv
  rw [if_pos (by rfl), subT_v _ _ (by rfl), h.b]
  rfl
theorem step3 {e : Int} {σ σ3 : List UInt8 → Ty} (hk : K2 σ) (h : UniP σ (vC, .nil) (vB, .nil) e σ3) : e = 70 ∧ σ3 = σ := by
  unfold UniP at h
  rw [if_pos ⟨by rfl, by rfl⟩] at h
  rcases h with ⟨rfl, hm⟩ | ⟨h1, h2, _⟩
  · exfalso
    have h1 := hm.eq
    rw [subT_v _ _ (by rfl), subT_v _ _ (by rfl), ← hm.up vB, hk.b, subT_T, subT_I, subT_v _ _ (by rfl)] at h1
    have h2 := congrArg (fun x : Ty => x.2.size) h1
    simp only [Fo.size] at h2
    omega
  · exact ⟨h1, h2⟩
theorem step4 {e : Int} {σ σ4 : List UInt8 → Ty} (hk : K2 σ) (hg : Go.Un.Good σ4) (h : UniP σ (vD, .nil) (vE, .nil) e σ4) : e = 0 ∧ σ4 vE = (vD, .nil) := by
  unfold UniP at h
  rw [if_pos ⟨by rfl, by rfl⟩] at h
  have h1 : subT th1 (vD, .nil) = subT th1 (vE, .nil) := by rw [subT_v _ _ (by rfl), subT_v _ _ (by rfl)]; rfl
  rcases h with ⟨rfl, hm⟩ | ⟨_, _, hn⟩
  · refine ⟨rfl, ?_⟩
    have hb := hm.best th1 hk.f h1
    have h2 := hm.eq
    rw [subT_v _ _ (by rfl), subT_v _ _ (by rfl)] at h2
    obtain ⟨w, h3, h4, h5⟩ := sub_is (s := th1) (q := σ4 vE) (v := vD) (by rw [hb vE]; rfl) (by rfl)
    rcases th1_var h5 with ⟨_, h6⟩ | ⟨h6, _⟩ | h6
    · cases h6
    · subst h6
      have h7 := hg.lst vD vE (by rfl) (by rw [h2, h4])
      exact absurd h7 (by decide)
    · rw [h4, h6]
  · exact absurd h1 (hn th1 hk.f)
theorem is4 {σ : List UInt8 → Ty} (h : σ vE = (vD, .nil)) : isv σ (vE, .nil) (vD, .nil) = true := by
  unfold isv resv
  rw [if_pos (by rfl), subT_v _ _ (by rfl), h]
  rfl
end Go.Proofs.YtcjnmehpkcblfaaDoor
