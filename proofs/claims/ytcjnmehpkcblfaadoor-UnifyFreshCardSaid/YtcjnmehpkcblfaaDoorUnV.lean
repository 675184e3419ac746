/- What is said of variables: resolved classes; what Unify changes. -/
import Derived.Test.YtcjnmehpkcblfaaDoorUnQ
namespace Go.Un
open Go Go.Wk
set_option linter.unusedSimpArgs false
set_option linter.unusedVariables false

theorem bl_irr : ∀ (a : List UInt8), Op.bytesLess a a = false
  | [] => rfl
  | a :: x => by simp [Op.bytesLess, bl_irr x]
theorem ResL.det {nd : Nds} {A : Ab} : ∀ {l l' : Fo} {js : List Nat}, ResL nd A l js → ResL nd A l' js → l = l'
  | .nil, .nil, _, _, _ => rfl
  | .nil, .cons _ _ _, js, h, ⟨i, is, e, _⟩ => by rw [show js = [] from h] at e; cases e
  | .cons _ _ _, .nil, js, ⟨i, is, e, _⟩, h => by rw [show js = [] from h] at e; cases e
  | .cons nm ar r, .cons nm' ar' r', js, ⟨i, is, e, h1, h2⟩, ⟨i', is', e', h1', h2'⟩ => by
    subst e
    injection e' with e1 e2
    subst e1; subst e2
    have h3 := ResL.det h2 h2'
    subst h3
    rcases h1 with ⟨a1, a2, a3⟩ | ⟨ks, a1, a2, a3⟩ <;> rcases h1' with ⟨b1, b2, b3⟩ | ⟨ks', b1, b2, b3⟩
    · rw [a2, b2, a3, b3]
    · omega
    · omega
    · rw [a2] at b2
      injection b2 with b2
      injection b2 with b4 b5
      subst b4; subst b5
      rw [ResL.det a3 b3]
theorem Res.det {nd : Nds} {A : Ab} {i : Nat} {nm nm' : List UInt8} {ar ar' : Fo} (h : Res nd A i nm ar) (h' : Res nd A i nm' ar') : nm = nm' ∧ ar = ar' := by
  have := ResL.det (l := .cons nm ar .nil) (l' := .cons nm' ar' .nil) (js := [i]) ⟨i, [], rfl, h, rfl⟩ ⟨i, [], rfl, h', rfl⟩
  injection this with h1 h2
  exact ⟨h1, h2⟩
theorem Res.congr {nd : Nds} {A : Ab} {i j : Nat} {nm : List UInt8} {ar : Fo} (e : A.rt i = A.rt j) (h : Res nd A i nm ar) : Res nd A j nm ar := by
  unfold Res at h ⊢
  rwa [e] at h
theorem fine_resL {nd : Nds} {A : Ab} : ∀ {ks : List Nat}, (∀ k ∈ ks, ∃ a : Ty, Res nd A k a.1 a.2) → ∃ l, ResL nd A l ks
  | [], _ => ⟨.nil, rfl⟩
  | k :: ks, h => by
    obtain ⟨a, ha⟩ := h k (List.mem_cons_self ..)
    obtain ⟨l, hl⟩ := fine_resL fun k hk => h k (List.mem_cons_of_mem _ hk)
    exact ⟨.cons a.1 a.2 l, k, ks, rfl, ha, hl⟩
theorem Fine.res {nd : Nds} {A : Ab} {c : Nat} (h : Fine nd A c) : ∀ i, A.rt i = c → ∃ a : Ty, Res nd A i a.1 a.2 := by
  induction h with
  | @var c hs => exact fun i hi => ⟨(A.le c, .nil), .inl ⟨by rw [hi]; exact hs, by rw [hi], rfl⟩⟩
  | @node c nm ks hs hk h2 ih =>
    intro i hi
    obtain ⟨l, hl⟩ := fine_resL fun k hkm => ih k hkm k rfl
    exact ⟨(nm, l), .inr ⟨ks, by rw [hi]; exact hs, by rw [hi]; exact hk, hl⟩⟩
/-- Of each variable what its node stands for. -/
def th (vv : List UInt8 → Option Nat) (θ : Nat → Ty) (d : List UInt8 → Ty) : List UInt8 → Ty := fun v => match vv v with
  | some w => θ w
  | none => d v
theorem th_some {vv : List UInt8 → Option Nat} {θ : Nat → Ty} {d : List UInt8 → Ty} {v : List UInt8} {w : Nat} (h : vv v = some w) : th vv θ d v = θ w := by unfold th; rw [h]
theorem th_none {vv : List UInt8 → Option Nat} {θ : Nat → Ty} {d : List UInt8 → Ty} {v : List UInt8} (h : vv v = none) : th vv θ d v = d v := by unfold th; rw [h]
theorem isV_var {nm : List UInt8} (h : isV nm = true) : varT nm .nil = true := by rw [varT_isV, h]; rfl
theorem notV {nm : List UInt8} (ar : Fo) (h : isV nm = false) : varT nm ar = false := by rw [varT_isV, h]; rfl
theorem subT_var {s : List UInt8 → Ty} {nm : List UInt8} (h : isV nm = true) : subT s (nm, .nil) = s nm := by unfold subT; rw [if_pos (isV_var h)]
theorem subT_con {s : List UInt8 → Ty} {nm : List UInt8} (ar : Fo) (h : isV nm = false) : subT s (nm, ar) = (nm, subL s ar) := by unfold subT; rw [if_neg (by rw [notV ar h]; simp)]
theorem fac1 {nd : Nds} {vv : List UInt8 → Option Nat} {A : Ab} {l0 : List (Nat × Nat)} (hJ : JI nd vv A l0) {θ : Nat → Ty} (hm : Mod nd A θ) (d : List UInt8 → Ty) {i : Nat} {nm : List UInt8} {ar : Fo} (hi : i < nd.length) (h : Res nd A i nm ar)
    (ih : ∀ js, (∀ j ∈ js, j < nd.length) → ResL nd A ar js → mk (js.map θ) = subL (th vv θ d) ar) : θ i = subT (th vv θ d) (nm, ar) := by
  obtain ⟨hx, hrx⟩ := hJ.w.rr i hi
  rcases h with ⟨hs, rfl, rfl⟩ | ⟨ks, hs, hk, hl⟩
  · obtain ⟨w, hw1, hw2, _⟩ := hJ.lv _ hx hrx hs
    obtain ⟨hw3, hw4⟩ := hJ.va _ _ hw1
    rw [subT_var hw4, th_some hw1, hm.cl i hi, hm.cl w (List.getElem?_eq_some_iff.1 hw3).1, hw2]
  · have hv := (hJ.sd _ hx hrx hs).2 _ hk
    rw [subT_con _ hv, mod_st hJ hm hi hs hk, ih ks (hJ.w.ch _ _ _ hk).1 hl]
theorem facL {nd : Nds} {vv : List UInt8 → Option Nat} {A : Ab} {l0 : List (Nat × Nat)} (hJ : JI nd vv A l0) {θ : Nat → Ty} (hm : Mod nd A θ) (d : List UInt8 → Ty) : ∀ (l : Fo) (js : List Nat), (∀ j ∈ js, j < nd.length) → ResL nd A l js → mk (js.map θ) = subL (th vv θ d) l
  | .nil, js, _, h => by rw [show js = [] from h]; rfl
  | .cons nm ar r, js, hb, ⟨i, is, e, h1, h2⟩ => by
    subst e
    have h3 := fac1 hJ hm d (hb i (List.mem_cons_self ..)) h1 (facL hJ hm d ar)
    rw [subL_cons, ← h3, ← facL hJ hm d r is (fun j hj => hb j (List.mem_cons_of_mem _ hj)) h2]
    rfl
theorem fac {nd : Nds} {vv : List UInt8 → Option Nat} {A : Ab} {l0 : List (Nat × Nat)} (hJ : JI nd vv A l0) {θ : Nat → Ty} (hm : Mod nd A θ) (d : List UInt8 → Ty) {i : Nat} {a : Ty} (hi : i < nd.length) (h : Res nd A i a.1 a.2) : θ i = subT (th vv θ d) a :=
  fac1 hJ hm d hi h (facL hJ hm d a.2)
/-- The name of what is no variable. -/
def cN (nm : List UInt8) : Prop := nm ≠ [] ∧ (nm.getD 0 0).toNat ≠ 39
theorem cN.notV {nm : List UInt8} (h : cN nm) : isV nm = false := by
  unfold isV
  rw [decide_eq_false h.2, Bool.and_false]
structure InvT (nd : Nds) (vv : List UInt8 → Option Nat) (A : Ab) : Prop where
  j : JI nd vv A []
  fi : ∀ c, c < nd.length → Fine nd A (A.rt c)
  cn : ∀ (u : Nat) nm ks, nd[u]? = some (nm, ks) → isV nm = false → cN nm
  kd : ∀ (u : Nat) nm ks, nd[u]? = some (nm, ks) → isV nm = true → ks = [] ∧ vv nm = some u
open Classical in
noncomputable def rho (nd : Nds) (A : Ab) (i : Nat) : Ty := if h : ∃ a : Ty, Res nd A i a.1 a.2 then Classical.choose h else ([], .nil)
theorem rho_res {nd : Nds} {vv : List UInt8 → Option Nat} {A : Ab} (hI : InvT nd vv A) {i : Nat} (hi : i < nd.length) : Res nd A i (rho nd A i).1 (rho nd A i).2 := by
  have h := (hI.fi i hi).res i rfl
  unfold rho
  rw [dif_pos h]
  exact Classical.choose_spec h
theorem rho_eq {nd : Nds} {A : Ab} {i : Nat} {a : Ty} (h : Res nd A i a.1 a.2) : rho nd A i = a := by
  have h1 : ∃ a : Ty, Res nd A i a.1 a.2 := ⟨a, h⟩
  unfold rho
  rw [dif_pos h1]
  have := (Classical.choose_spec h1).det h
  exact Prod.ext this.1 this.2
theorem resL_mk {nd : Nds} {A : Ab} : ∀ {l : Fo} {js : List Nat}, ResL nd A l js → l = mk (js.map (rho nd A))
  | .nil, js, h => by rw [show js = [] from h]; rfl
  | .cons nm ar r, js, ⟨i, is, e, h1, h2⟩ => by
    subst e
    have h3 := rho_eq (a := (nm, ar)) h1
    rw [List.map_cons, mk, ← resL_mk h2, h3]
theorem rho_mod {nd : Nds} {vv : List UInt8 → Option Nat} {A : Ab} (hI : InvT nd vv A) : Mod nd A (rho nd A) := by
  have hcl : ∀ {i j : Nat}, i < nd.length → A.rt i = A.rt j → rho nd A i = rho nd A j := fun {i j} hi e => (rho_eq ((rho_res hI hi).congr e)).symm
  refine ⟨fun i hi => hcl hi (hI.j.w.rr i hi).2.symm, fun u nm ks hu hv => ?_⟩
  obtain ⟨hs, ks2, hk2, hlen, hE⟩ := hI.j.kv u nm ks hu hv
  have hul := (List.getElem?_eq_some_iff.1 hu).1
  have h1 := rho_res hI hul
  rcases h1 with ⟨h1, _⟩ | ⟨k3, _, h2, h3⟩
  · omega
  · rw [hk2] at h2
    injection h2 with h2
    injection h2 with h4 h5
    subst h5
    have h6 : ks.map (rho nd A) = ks2.map (rho nd A) := List.ext_getElem (by simpa using hlen) fun j hj1 hj2 => by
      simp only [List.length_map] at hj1 hj2
      rw [List.getElem_map, List.getElem_map]
      exact hcl ((hI.j.w.ch _ _ _ hu).1 _ (List.getElem_mem hj1)) (hE (fun i j => A.rt i = A.rt j) ⟨fun _ => rfl, fun h => h.symm, fun h h' => h.trans h'⟩ (fun _ _ h => h) (fun p hp => by cases hp) j _ _ (List.getElem?_eq_getElem hj1) (List.getElem?_eq_getElem hj2))
    rw [h6, ← resL_mk h3]
    exact Prod.ext h4.symm rfl
theorem mod_ranked {nd : Nds} {vv : List UInt8 → Option Nat} {A : Ab} {l : List (Nat × Nat)} (hJ : JI nd vv A l) {θ : Nat → Ty} (hm : Mod nd A θ) : Ranked nd A fun c => (θ c).2.size := fun c nm ks hc hrc hs hk k hkm => by
  have h1 := mod_st hJ hm (i := c) (by omega) (by rw [hrc]; exact hs) (by rw [hrc]; exact hk)
  show (θ (A.rt k)).2.size < (θ c).2.size
  rw [← hm.cl k ((hJ.w.ch _ _ _ hk).1 k hkm), h1]
  exact mk_size (List.mem_map.2 ⟨k, hkm, rfl⟩)
abbrev vid : List UInt8 → Ty := fun v => (v, .nil)
def Tell (nd : Nds) (vv : List UInt8 → Option Nat) (A : Ab) (σ : List UInt8 → Ty) : Prop := ∀ v, (∀ w, vv v = some w → Res nd A w (σ v).1 (σ v).2) ∧ (vv v = none → σ v = (v, .nil))
theorem Tell.th {nd : Nds} {vv : List UInt8 → Option Nat} {A : Ab} {σ : List UInt8 → Ty} (h : Tell nd vv A σ) : th vv (rho nd A) vid = σ := by
  funext v
  cases hv : vv v with
  | some w => rw [th_some hv]; exact rho_eq ((h v).1 w hv)
  | none => rw [th_none hv, (h v).2 hv]
theorem InvT.tell {nd : Nds} {vv : List UInt8 → Option Nat} {A : Ab} (hI : InvT nd vv A) : Tell nd vv A (Go.Un.th vv (rho nd A) vid) := fun v => ⟨fun w hw => by
  rw [th_some hw]
  exact rho_res hI (List.getElem?_eq_some_iff.1 (hI.j.va _ _ hw).1).1, fun hv => by rw [th_none hv]⟩
theorem subT_vid (θ : List UInt8 → Ty) (v : List UInt8) (h : isV v = true → False) : subT θ (v, .nil) = (v, .nil) := by
  have : isV v = false := by cases h9 : isV v; rfl; exact (h h9).elim
  rw [subT_con _ this]; rfl
/-- What is said of variables is said of what is said, and names the least of those that are alike. -/
structure Good (σ : List UInt8 → Ty) : Prop where
  id : ∀ v, subT σ (σ v) = σ v
  lst : ∀ v w, isV w = true → σ v = (w, .nil) → Op.bytesLess v w = false
  con : ∀ v, isV v = false → σ v = (v, .nil)
theorem Tell.good {nd : Nds} {vv : List UInt8 → Option Nat} {A : Ab} {σ : List UInt8 → Ty} (hI : InvT nd vv A) (h : Tell nd vv A σ) : Good σ := by
  refine ⟨fun v => ?_, fun v w hw e => ?_, fun v hv => ?_⟩
  · cases hv : vv v with
    | some w =>
      have h1 := (h v).1 w hv
      have h2 := fac hI.j (rho_mod hI) vid (List.getElem?_eq_some_iff.1 (hI.j.va _ _ hv).1).1 h1
      rw [h.th, rho_eq h1] at h2
      exact h2.symm
    | none =>
      rw [(h v).2 hv]
      by_cases h9 : isV v = true
      · rw [subT_var h9, (h v).2 hv]
      · exact subT_vid σ v h9
  · cases hv : vv v with
    | some i =>
      have h1 := (h v).1 i hv
      have hil := (List.getElem?_eq_some_iff.1 (hI.j.va _ _ hv).1).1
      obtain ⟨hx, hrx⟩ := hI.j.w.rr i hil
      rw [e] at h1
      rcases h1 with ⟨hs, h2, h3⟩ | ⟨ks, hs, hk, _⟩
      · obtain ⟨w', hw1, hw2, hw3⟩ := hI.j.lv _ hx hrx hs
        rw [show w = A.le (A.rt i) from h2]
        exact hw3 v i hv rfl
      · have := (hI.j.sd _ hx hrx hs).2 _ hk
        rw [hw] at this; cases this
    | none =>
      rw [(h v).2 hv] at e
      injection e with e
      subst e; exact bl_irr _
  · refine (h v).2 ?_
    cases h1 : vv v with
    | none => rfl
    | some w => rw [(hI.j.va _ _ h1).2] at hv; cases hv
/-- From σ to σ': what makes a and b alike, and no more. -/
structure Mgu (σ σ' : List UInt8 → Ty) (a b : Ty) : Prop where
  eq : subT σ' a = subT σ' b
  up : ∀ v, subT σ' (σ v) = σ' v
  best : ∀ θ : List UInt8 → Ty, (∀ v, subT θ (σ v) = θ v) → subT θ a = subT θ b → ∀ v, subT θ (σ' v) = θ v
theorem subL_mk (s : List UInt8 → Ty) : ∀ l : List Ty, subL s (mk l) = mk (l.map (subT s))
  | [] => rfl
  | a :: r => by rw [mk, subL_cons, subL_mk s r]; rfl
theorem theta_mod {nd : Nds} {vv : List UInt8 → Option Nat} {A : Ab} (hI : InvT nd vv A) (θ : List UInt8 → Ty) : Mod nd A fun i => subT θ (rho nd A i) := by
  have h := rho_mod hI
  refine ⟨fun i hi => by show subT θ _ = subT θ _; rw [h.cl i hi], fun u nm ks hu hv => ?_⟩
  show subT θ (rho nd A u) = _
  rw [h.nk u nm ks hu hv, subT_con _ hv, subL_mk, List.map_map]
  rfl
theorem subT_up {σ σ' : List UInt8 → Ty} (h : ∀ v, subT σ' (σ v) = σ' v) (a : Ty) : subT σ' (subT σ a) = subT σ' a := by
  rw [subT_comp, funext h]
theorem uni_no {nd : Nds} {vv : List UInt8 → Option Nat} {A A' : Ab} {σ : List UInt8 → Ty} {a b : Ty} {x y : Nat} {r : Bool} (hI : InvT nd vv A) (hx : x < nd.length) (hy : y < nd.length) (hrx : Res nd A x (subT σ a).1 (subT σ a).2) (hry : Res nd A y (subT σ b).1 (subT σ b).2)
    (hj : JRun nd A [(x, y)] r A') {θ : List UInt8 → Ty} (hθ : ∀ v, subT θ (σ v) = θ v) (hab : subT θ a = subT θ b) : r = true ∧ Mod nd A' (fun i => subT θ (rho nd A i)) ∧ JI nd vv A' [] := by
  have hJ : JI nd vv A [(x, y)] := ⟨hI.j.w, fun p hp => by rw [List.mem_singleton] at hp; subst hp; exact ⟨hx, hy⟩, hI.j.va, hI.j.sd, hI.j.lv, fun u nm ks hu hv => by
    obtain ⟨h1, ks2, h2, h3, h4⟩ := hI.j.kv u nm ks hu hv
    exact ⟨h1, ks2, h2, h3, fun E hE hr _ => h4 E hE hr fun p hp => by cases hp⟩⟩
  obtain ⟨h1, h2⟩ := hj.model hJ (theta_mod hI θ) (fun p hp => by
    rw [List.mem_singleton] at hp; subst hp
    show subT θ (rho nd A x) = subT θ (rho nd A y)
    rw [rho_eq hrx, rho_eq hry, subT_up hθ, subT_up hθ, hab])
  exact ⟨h1, h2, hj.inv hJ h1⟩
theorem uni_yes {nd : Nds} {vv : List UInt8 → Option Nat} {A A' : Ab} {σ : List UInt8 → Ty} {a b : Ty} {x y : Nat} (hI : InvT nd vv A) (hT : Tell nd vv A σ) (hx : x < nd.length) (hy : y < nd.length) (hrx : Res nd A x (subT σ a).1 (subT σ a).2) (hry : Res nd A y (subT σ b).1 (subT σ b).2)
    (hj : JRun nd A [(x, y)] true A') (hf : Fine nd A' (A'.rt x)) : InvT nd vv A' ∧ ∃ σ', Tell nd vv A' σ' ∧ Mgu σ σ' a b := by
  have hJ : JI nd vv A [(x, y)] := ⟨hI.j.w, fun p hp => by rw [List.mem_singleton] at hp; subst hp; exact ⟨hx, hy⟩, hI.j.va, hI.j.sd, hI.j.lv, fun u nm ks hu hv => by
    obtain ⟨h1, ks2, h2, h3, h4⟩ := hI.j.kv u nm ks hu hv
    exact ⟨h1, ks2, h2, h3, fun E hE hr _ => h4 E hE hr fun p hp => by cases hp⟩⟩
  have hI' : InvT nd vv A' := ⟨hj.inv hJ rfl, hj.fineAll hJ hI.fi hf, hI.cn, hI.kd⟩
  have hT' := hI'.tell
  have hco := hj.coarse rfl
  have hm' := rho_mod hI'
  have hmA : Mod nd A (rho nd A') := ⟨fun i hi => by
    rw [hm'.cl i hi, hm'.cl (A.rt i) (hI.j.w.rr i hi).1, hco.1 (A.rt i) i (hI.j.w.rr i hi).2], hm'.nk⟩
  have hxy : rho nd A' x = rho nd A' y := by rw [hm'.cl x hx, hm'.cl y hy, hco.2 (x, y) (List.mem_singleton.2 rfl)]
  refine ⟨hI', _, hT', ?_⟩
  have hup : ∀ v, subT (th vv (rho nd A') vid) (σ v) = th vv (rho nd A') vid v := fun v => by
    cases hv : vv v with
    | some w => rw [th_some hv]; exact (fac hI.j hmA vid (List.getElem?_eq_some_iff.1 (hI.j.va _ _ hv).1).1 ((hT v).1 w hv)).symm
    | none =>
      rw [(hT v).2 hv, th_none hv]
      by_cases h9 : isV v = true
      · rw [subT_var h9, th_none hv]
      · exact subT_vid _ v h9
  refine ⟨?_, hup, fun θ hθ hab v => ?_⟩
  · have h1 := fac hI.j hmA vid hx hrx
    have h2 := fac hI.j hmA vid hy hry
    rw [subT_up hup] at h1 h2
    rw [← h1, ← h2, hxy]
  · obtain ⟨_, hm, _⟩ := uni_no hI hx hy hrx hry hj hθ hab
    have hth : th vv (fun i => subT θ (rho nd A i)) θ = θ := by
      funext u
      cases hu : vv u with
      | some w => rw [th_some hu]; show subT θ (rho nd A w) = _; rw [rho_eq ((hT u).1 w hu), hθ]
      | none => rw [th_none hu]
    cases hv : vv v with
    | some w =>
      have h1 := fac hI'.j hm θ (List.getElem?_eq_some_iff.1 (hI.j.va _ _ hv).1).1 ((hT' v).1 w hv)
      rw [hth] at h1
      rw [← h1]
      show subT θ (rho nd A w) = _
      rw [rho_eq ((hT v).1 w hv), hθ]
    | none =>
      have h1 := hθ v
      rw [(hT v).2 hv] at h1
      rw [(hT' v).2 hv]; exact h1
/-- Two that say as much as each other, and name the least, are the same. -/
theorem good_eq {σ τ : List UInt8 → Ty} (h1 : Good σ) (h2 : Good τ) (a : ∀ v, subT τ (σ v) = τ v) (b : ∀ v, subT σ (τ v) = σ v) : ∀ v, σ v = τ v := by
  have key : ∀ w, isV w = true → σ w = (w, .nil) → τ w = (w, .nil) := fun w hw e => by
    have h3 := b w
    rw [e] at h3
    generalize hq : τ w = q at h3
    obtain ⟨nm, ar⟩ := q
    unfold subT at h3
    by_cases h4 : varT nm ar = true
    · simp only [if_pos h4] at h3
      have h5 := h4
      rw [varT_isV] at h5
      simp only [Bool.and_eq_true, decide_eq_true_eq] at h5
      obtain ⟨h5, h6⟩ := h5
      have h7 := len0 h6
      subst h7
      have h8 := h2.lst w nm h5 hq
      have h9 := h1.lst nm w hw h3
      rw [bl_total _ _ h8 h9]
    · simp only [if_neg h4] at h3
      injection h3 with h5 h6
      subst h5
      have h7 : ar = .nil := len0 (by have := subL_len σ ar; rw [h6] at this; exact this.symm)
      rw [h7]
  have fix : ∀ l : Fo, subL σ l = l → subL τ l = l := by
    intro l
    induction l with
    | nil => exact fun _ => rfl
    | cons nm ar r ih1 ih2 =>
      intro h
      rw [subL_cons] at h ⊢
      injection h with h3 h4 h5
      rw [ih2 h5]
      unfold subT at h3 h4 ⊢
      by_cases h6 : varT nm ar = true
      · simp only [if_pos h6] at h3 h4 ⊢
        have h7 := h6
        rw [varT_isV] at h7
        simp only [Bool.and_eq_true, decide_eq_true_eq] at h7
        obtain ⟨h7, h8⟩ := h7
        have h9 := len0 h8
        subst h9
        rw [key nm h7 (Prod.ext h3 h4)]
      · simp only [if_neg h6] at h3 h4 ⊢
        rw [ih1 h4]
  intro v
  rw [← a v]
  have h3 := h1.id v
  have h4 : subL σ (.cons (σ v).1 (σ v).2 .nil) = .cons (σ v).1 (σ v).2 .nil := by rw [subL_cons, show ((σ v).1, (σ v).2) = σ v from rfl, h3]; rfl
  have h5 := fix _ h4
  rw [subL_cons] at h5
  injection h5 with h6 h7
  exact (Prod.ext h6 h7).symm
end Go.Un
