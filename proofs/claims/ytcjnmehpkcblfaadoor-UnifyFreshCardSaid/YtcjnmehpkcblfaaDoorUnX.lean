/- What take changes, and what it leaves. -/
import Derived.Test.YtcjnmehpkcblfaaDoorUnV
import Derived.Test.YtcjnmehpkcblfaaDoorUnK
namespace Go.Un
open Go Go.Wk Go.Proofs.YtcjnmehpkcblfaaDoor
set_option linter.unusedSimpArgs false
set_option linter.unusedVariables false

theorem sizedL_size : ∀ (l : Fo) (d n : Int), 0 ≤ n → (sizedL l d n).1 = true → (sizedL l d n).2 = n - l.size ∧ 0 ≤ (sizedL l d n).2
  | .nil, _, n, h, _ => ⟨by simp [sizedL, Fo.size], h⟩
  | .cons nm ar r, d, n, h, h1 => by
    rw [sizedL_cons] at h1 ⊢
    by_cases h2 : (sizedT nm ar d n).1 = true
    · rw [if_pos h2] at h1 ⊢
      have h3 : (sizedT nm ar d n).2 = n - 1 - ar.size ∧ 0 ≤ (sizedT nm ar d n).2 := by
        unfold sizedT at h2 ⊢
        split at h2
        · cases h2
        · rename_i h4
          rw [if_neg h4]
          have h5 : 0 ≤ n - 1 := by rcases Int.lt_or_le (n - 1) 0 with h9 | h9; exact absurd (.inl h9) h4; exact h9
          split at h2
          · rename_i h6
            rw [if_pos h6]
            rw [varT_isV] at h2
            simp only [Bool.and_eq_true, decide_eq_true_eq] at h2
            rw [len0 h2.2]
            exact ⟨by simp [Fo.size], h5⟩
          · rename_i h6
            rw [if_neg h6]
            exact sizedL_size ar _ _ h5 h2
      have h4 := sizedL_size r d _ h3.2 h1
      exact ⟨by rw [h4.1, h3.1]; simp only [Fo.size]; omega, h4.2⟩
    · rw [if_neg h2] at h1; cases h1
/-- All parts are types; none has too many. -/
def okL : Fo → Prop
  | .nil => True
  | .cons nm ar r => (varT nm ar = true ∨ (cN nm ∧ ar.len ≤ 3000 ∧ okL ar)) ∧ okL r
def okT (a : Ty) : Prop := varT a.1 a.2 = true ∨ (cN a.1 ∧ a.2.len ≤ 3000 ∧ okL a.2)
theorem sizedL_ok : ∀ (l : Fo) (d n : Int), 0 ≤ n → n ≤ 3000 → (sizedL l d n).1 = true → okL l
  | .nil, _, _, _, _, _ => trivial
  | .cons nm ar r, d, n, h, hn, h1 => by
    have hs := sizedL_size _ _ _ h h1
    rw [sizedL_cons] at h1
    by_cases h2 : (sizedT nm ar d n).1 = true
    · rw [if_pos h2] at h1
      have hz := sizedT_le nm ar d n
      have hp : 0 ≤ (sizedT nm ar d n).2 := by
        have h3 := sizedL_size (.cons nm ar .nil) d n h (by rw [sizedL_cons, if_pos h2]; rfl)
        rw [sizedL_cons, if_pos h2] at h3
        exact h3.2
      refine ⟨?_, sizedL_ok r d _ hp (by omega) h1⟩
      unfold sizedT at h2
      split at h2
      · cases h2
      · rename_i h4
        have h5 : 0 ≤ n - 1 := by rcases Int.lt_or_le (n - 1) 0 with h9 | h9; exact absurd (.inl h9) h4; exact h9
        split at h2
        · exact .inl h2
        · rename_i h6
          have h7 := sizedL_size ar _ _ h5 h2
          have h8 := Fo.len_size ar
          exact .inr ⟨⟨fun e => h4 (.inr (.inr e)), h6⟩, by omega, sizedL_ok ar _ _ h5 (by omega) h2⟩
    · rw [if_neg h2] at h1; cases h1
theorem may_list {nm : List UInt8} {ar : Fo} (h : may nm ar = true) : (sizedL (.cons nm ar .nil) 1 2048).1 = true := by
  rw [sizedL_cons, if_pos (show (sizedT nm ar 1 2048).1 = true from h)]; rfl
theorem may_ok {nm : List UInt8} {ar : Fo} (h : may nm ar = true) : okT (nm, ar) := (sizedL_ok _ _ _ (by decide) (by decide) (may_list h)).1
theorem may_size {nm : List UInt8} {ar : Fo} (h : may nm ar = true) : ar.size ≤ 2047 := by
  have h1 := sizedL_size _ _ _ (by decide) (may_list h)
  simp only [Fo.size] at h1
  omega
/-- A table with more nodes. -/
structure Ext (nd : Nds) (A : Ab) (nd' : Nds) (A' : Ab) : Prop where
  pre : ∃ m, nd' = nd ++ m
  rt : ∀ i, i < nd.length → A'.rt i = A.rt i
  st : ∀ i, i < nd.length → A'.st i = A.st i
  le : ∀ i, i < nd.length → A'.le i = A.le i
theorem Ext.refl (nd : Nds) (A : Ab) : Ext nd A nd A := ⟨⟨[], by rw [List.append_nil]⟩, fun _ _ => rfl, fun _ _ => rfl, fun _ _ => rfl⟩
theorem Ext.len {nd : Nds} {A : Ab} {nd' : Nds} {A' : Ab} (h : Ext nd A nd' A') : nd.length ≤ nd'.length := by
  obtain ⟨m, e⟩ := h.pre; rw [e, List.length_append]; omega
theorem Ext.get {nd : Nds} {A : Ab} {nd' : Nds} {A' : Ab} (h : Ext nd A nd' A') {u : Nat} (hu : u < nd.length) : nd'[u]? = nd[u]? := by
  obtain ⟨m, e⟩ := h.pre; rw [e, List.getElem?_append_left hu]
theorem Ext.trans {a b c : Nds} {A B C : Ab} (h1 : Ext a A b B) (h2 : Ext b B c C) : Ext a A c C := by
  have hl := h1.len
  obtain ⟨m1, e1⟩ := h1.pre
  obtain ⟨m2, e2⟩ := h2.pre
  exact ⟨⟨m1 ++ m2, by rw [e2, e1, List.append_assoc]⟩, fun i hi => by rw [h2.rt i (by omega), h1.rt i hi], fun i hi => by rw [h2.st i (by omega), h1.st i hi], fun i hi => by rw [h2.le i (by omega), h1.le i hi]⟩
theorem Res1.ext {nd : Nds} {A : Ab} {nd' : Nds} {A' : Ab} (hw : AbW nd A) (h : Ext nd A nd' A') {i : Nat} {nm : List UInt8} {ar : Fo} (hi : i < nd.length) (hr : Res nd A i nm ar) (ih : ∀ js, (∀ j ∈ js, j < nd.length) → ResL nd A ar js → ResL nd' A' ar js) : Res nd' A' i nm ar := by
  obtain ⟨hx, hrx⟩ := hw.rr i hi
  have hsv := hw.sv _ hx
  unfold Res at hr ⊢
  rw [h.rt i hi, h.st _ hx, h.le _ hx]
  rcases hr with h1 | ⟨ks, h1, h2, h3⟩
  · exact .inl h1
  · exact .inr ⟨ks, h1, by rw [h.get (by omega)]; exact h2, ih ks (hw.ch _ _ _ h2).1 h3⟩
theorem ResL.ext {nd : Nds} {A : Ab} {nd' : Nds} {A' : Ab} (hw : AbW nd A) (h : Ext nd A nd' A') : ∀ (l : Fo) (js : List Nat), (∀ j ∈ js, j < nd.length) → ResL nd A l js → ResL nd' A' l js
  | .nil, js, _, hl => hl
  | .cons nm ar r, js, hb, ⟨i, is, e, h1, h2⟩ => by
    subst e
    exact ⟨i, is, rfl, Res1.ext hw h (hb i (List.mem_cons_self ..)) h1 (ResL.ext hw h ar), ResL.ext hw h r is (fun j hj => hb j (List.mem_cons_of_mem _ hj)) h2⟩
theorem Res.ext {nd : Nds} {A : Ab} {nd' : Nds} {A' : Ab} (hw : AbW nd A) (h : Ext nd A nd' A') {i : Nat} {nm : List UInt8} {ar : Fo} (hi : i < nd.length) (hr : Res nd A i nm ar) : Res nd' A' i nm ar :=
  Res1.ext hw h hi hr (ResL.ext hw h ar)
theorem upd_ne {α : Type} {f : Nat → α} {k i : Nat} {v : α} (h : i ≠ k) : upd f k v i = f i := by unfold upd; rw [if_neg h]
theorem upd_eq {α : Type} {f : Nat → α} {k : Nat} {v : α} : upd f k v k = v := by unfold upd; rw [if_pos rfl]
def Ab.ext (A : Ab) (n : Nat) (s : Int) (l : List UInt8) : Ab := ⟨upd A.rt n n, upd A.st n s, upd A.le n l⟩
theorem ext_one (nd : Nds) (A : Ab) (x : List UInt8 × List Nat) (s : Int) (l : List UInt8) : Ext nd A (nd ++ [x]) (A.ext nd.length s l) :=
  ⟨⟨_, rfl⟩, fun i hi => upd_ne (by omega), fun i hi => upd_ne (by omega), fun i hi => upd_ne (by omega)⟩
theorem RootN.app {pa : List Nat} {m : List Nat} : ∀ {k i r : Nat}, RootN pa k i r → RootN (pa ++ m) k i r
  | 0, i, r, ⟨h1, h2⟩ => ⟨h1, by rw [List.getElem?_append_left (List.getElem?_eq_some_iff.1 h2).1]; exact h2⟩
  | k + 1, i, r, ⟨j, h1, h2, h3⟩ => ⟨j, by rw [List.getElem?_append_left (List.getElem?_eq_some_iff.1 h1).1]; exact h1, h2, RootN.app h3⟩
theorem AbR.add {n : Nat} {pa : List Nat} {st : List Int} {le : List (List UInt8)} {A : Ab} (h : AbR n pa st le A) (s : Int) (l : List UInt8) : AbR (n + 1) (pa ++ [n]) (st ++ [s]) (le ++ [l]) (A.ext n s l) := by
  have h1 := h.pl
  have h2 := h.sl
  have h3 := h.ll
  refine ⟨by simp [h1], by simp [h2], by simp [h3], fun i hi => ?_, fun i hi => ?_, fun i hi => ?_⟩
  · by_cases e : i = n
    · subst e
      refine ⟨0, (upd_eq).symm, ?_⟩
      rw [List.getElem?_append_right (by omega), h1]; simp
    · obtain ⟨k, hk⟩ := h.rt i (by omega)
      exact ⟨k, by show RootN _ k i (upd A.rt n n i); rw [upd_ne e]; exact hk.app⟩
  · show _ = some (upd A.st n s i)
    by_cases e : i = n
    · subst e; rw [upd_eq, List.getElem?_append_right (by omega), h2]; simp
    · rw [upd_ne e, List.getElem?_append_left (by omega)]; exact h.st i (by omega)
  · show _ = some (upd A.le n l i)
    by_cases e : i = n
    · subst e; rw [upd_eq, List.getElem?_append_right (by omega), h3]; simp
    · rw [upd_ne e, List.getElem?_append_left (by omega)]; exact h.le i (by omega)
theorem InvT.add {nd : Nds} {vv vv' : List UInt8 → Option Nat} {A : Ab} (hI : InvT nd vv A) {nm : List UInt8} {ks : List Nat} {s : Int} {l : List UInt8}
    (hc : (isV nm = true ∧ ks = [] ∧ s = -1 ∧ l = nm ∧ vv nm = none ∧ vv' = fun v => if v = nm then some nd.length else vv v) ∨ (cN nm ∧ s = nd.length ∧ (∀ k ∈ ks, k < nd.length) ∧ ks.length ≤ 3000 ∧ vv' = vv)) : InvT (nd ++ [(nm, ks)]) vv' (A.ext nd.length s l) := by
  have hx := ext_one nd A (nm, ks) s l
  have hlen : (nd ++ [(nm, ks)]).length = nd.length + 1 := by simp
  have hlast : (nd ++ [(nm, ks)])[nd.length]? = some (nm, ks) := by simp
  have hold : ∀ {u : Nat} {x}, (nd ++ [(nm, ks)])[u]? = some x → u ≠ nd.length → u < nd.length ∧ nd[u]? = some x := fun {u x} hu hn => by
    have h1 := (List.getElem?_eq_some_iff.1 hu).1
    rw [hlen] at h1
    have h2 : u < nd.length := by omega
    exact ⟨h2, by rw [← hx.get h2]; exact hu⟩
  have hks : ∀ k ∈ ks, k < nd.length := by
    rcases hc with ⟨_, h, _⟩ | ⟨_, _, h, _⟩
    · subst h; exact fun k hk => by cases hk
    · exact h
  have hkl : ks.length ≤ 3000 := by
    rcases hc with ⟨_, h, _⟩ | ⟨_, _, _, h, _⟩
    · subst h; exact Nat.zero_le _
    · exact h
  have hrn : (A.ext nd.length s l).rt nd.length = nd.length := upd_eq
  have hsn : (A.ext nd.length s l).st nd.length = s := upd_eq
  have hln : (A.ext nd.length s l).le nd.length = l := upd_eq
  have hvo : ∀ {v i}, vv v = some i → vv' v = some i ∧ i < nd.length := fun {v i} hv => by
    have hil := (List.getElem?_eq_some_iff.1 (hI.j.va _ _ hv).1).1
    rcases hc with ⟨_, _, _, _, h1, h2⟩ | ⟨_, _, _, _, h2⟩
    · subst h2
      refine ⟨?_, hil⟩
      show (if v = nm then _ else _) = _
      rw [if_neg (fun e => by subst e; rw [h1] at hv; cases hv)]; exact hv
    · subst h2; exact ⟨hv, hil⟩
  have hvn : ∀ {v i}, vv' v = some i → vv v = some i ∨ (isV nm = true ∧ ks = [] ∧ v = nm ∧ i = nd.length) := fun {v i} hv => by
    rcases hc with ⟨h3, h4, _, _, h1, h2⟩ | ⟨_, _, _, _, h2⟩
    · subst h2
      by_cases e : v = nm
      · simp only [if_pos e] at hv; cases hv; exact .inr ⟨h3, h4, e, rfl⟩
      · simp only [if_neg e] at hv; exact .inl hv
    · subst h2; exact .inl hv
  have hfold : ∀ d, Fine nd A d → d < nd.length → Fine (nd ++ [(nm, ks)]) (A.ext nd.length s l) d := fun d hd => by
    induction hd with
    | var hs => exact fun hl => .var (by rw [hx.st _ hl]; exact hs)
    | @node d nm2 ks2 hs hk h2 ih =>
      intro hl
      have hsl := hI.j.w.sv d hl
      refine .node (by rw [hx.st _ hl]; exact hs) (by rw [hx.st _ hl, hx.get (by omega)]; exact hk) fun k hkm => ?_
      have hkl := (hI.j.w.ch _ _ _ hk).1 k hkm
      rw [hx.rt k hkl]
      exact ih k hkm (hI.j.w.rr k hkl).1
  have hfo : ∀ c, c < nd.length → Fine (nd ++ [(nm, ks)]) (A.ext nd.length s l) ((A.ext nd.length s l).rt c) := fun c hc => by
    rw [hx.rt c hc]; exact hfold _ (hI.fi c hc) (hI.j.w.rr c hc).1
  refine ⟨⟨⟨fun i hi => ?_, fun i hi => ?_, fun u nm2 ks2 hu => ?_⟩, fun p hp => (by cases hp), fun nm2 i hv => ?_, fun c hcl hrc hs => ?_, fun c hcl hrc hs => ?_, fun u nm2 ks2 hu hv => ?_⟩, fun c hcl => ?_, fun u nm2 ks2 hu hv => ?_, fun u nm2 ks2 hu hv => ?_⟩
  · rw [hlen] at hi ⊢
    by_cases e : i = nd.length
    · subst e; rw [hrn, hrn]; exact ⟨by omega, rfl⟩
    · have hi2 : i < nd.length := by omega
      obtain ⟨h1, h2⟩ := hI.j.w.rr i hi2
      rw [hx.rt i hi2, hx.rt _ h1]; exact ⟨by omega, h2⟩
  · rw [hlen] at hi ⊢
    by_cases e : i = nd.length
    · subst e; rw [hsn]; rcases hc with ⟨_, _, h, _⟩ | ⟨_, h, _⟩ <;> omega
    · have := hI.j.w.sv i (by omega); rw [hx.st i (by omega)]; omega
  · rw [hlen]
    by_cases e : u = nd.length
    · subst e; rw [hlast] at hu; cases hu; exact ⟨fun k hk => by have := hks k hk; omega, hkl⟩
    · obtain ⟨h1, h2⟩ := hold hu e
      obtain ⟨h3, h4⟩ := hI.j.w.ch _ _ _ h2
      exact ⟨fun k hk => by have := h3 k hk; omega, h4⟩
  · rcases hvn hv with h1 | ⟨h1, h2, rfl, rfl⟩
    · obtain ⟨h3, h4⟩ := hI.j.va _ _ h1
      exact ⟨by rw [hx.get (hvo h1).2]; exact h3, h4⟩
    · subst h2; exact ⟨hlast, h1⟩
  · rw [hlen] at hcl
    by_cases e : c = nd.length
    · subst e
      rw [hsn] at hs ⊢
      rcases hc with ⟨_, _, h, _⟩ | ⟨h0, h, _⟩
      · omega
      · subst h
        rw [Int.toNat_natCast]
        exact ⟨hrn, fun x hx9 => by rw [hlast] at hx9; cases hx9; exact h0.notV⟩
    · have hc2 : c < nd.length := by omega
      rw [hx.rt c hc2] at hrc
      rw [hx.st c hc2] at hs ⊢
      have hsl := hI.j.w.sv c hc2
      obtain ⟨h1, h2⟩ := hI.j.sd c hc2 hrc hs
      rw [hx.rt _ (by omega), hx.get (by omega)]
      exact ⟨h1, h2⟩
  · rw [hlen] at hcl
    by_cases e : c = nd.length
    · subst e
      rw [hsn] at hs
      rcases hc with ⟨h1, h2, h3, h4, h5, h6⟩ | ⟨_, h, _⟩
      · rw [hln, h4]
        refine ⟨nd.length, by rw [h6]; simp, hrn, fun v x hv hrx => ?_⟩
        rcases hvn hv with h7 | ⟨_, _, rfl, _⟩
        · have h8 := (hvo h7).2
          have h9 : (A.ext nd.length s l).rt x = nd.length := hrx
          rw [hx.rt x h8] at h9
          have := (hI.j.w.rr x h8).1
          omega
        · exact bl_irr _
      · omega
    · have hc2 : c < nd.length := by omega
      rw [hx.rt c hc2] at hrc
      rw [hx.st c hc2] at hs
      rw [hx.le c hc2]
      obtain ⟨w, h1, h2, h3⟩ := hI.j.lv c hc2 hrc hs
      refine ⟨w, (hvo h1).1, by rw [hx.rt w (hvo h1).2]; exact h2, fun v x hv hrx => ?_⟩
      rcases hvn hv with h7 | ⟨_, _, rfl, rfl⟩
      · rw [hx.rt x (hvo h7).2] at hrx; exact h3 v x h7 hrx
      · rw [hrn] at hrx; omega
  · by_cases e : u = nd.length
    · subst e
      rw [hlast] at hu; cases hu
      rw [hrn, hsn]
      rcases hc with ⟨h1, _⟩ | ⟨h0, h, _⟩
      · rw [h1] at hv; cases hv
      · subst h
        refine ⟨by omega, ks, by rw [Int.toNat_natCast]; exact hlast, rfl, fun E hE _ _ j k k2 h1 h2 => ?_⟩
        rw [h1] at h2; cases h2; exact hE.refl _
    · obtain ⟨h1, h2⟩ := hold hu e
      obtain ⟨h3, h4⟩ := hI.j.w.rr u h1
      obtain ⟨h5, k2, h6, h7, h8⟩ := hI.j.kv u nm2 ks2 h2 hv
      have hsl := hI.j.w.sv _ h3
      rw [hx.rt u h1, hx.st _ h3]
      refine ⟨h5, k2, by rw [hx.get (by omega)]; exact h6, h7, fun E hE hr _ j p q hp hq => hr p q ?_⟩
      rw [hx.rt p ((hI.j.w.ch _ _ _ h2).1 p (List.mem_of_getElem? hp)), hx.rt q ((hI.j.w.ch _ _ _ h6).1 q (List.mem_of_getElem? hq))]
      exact h8 (fun i j => A.rt i = A.rt j) ⟨fun _ => rfl, fun h => h.symm, fun h h' => h.trans h'⟩ (fun _ _ h => h) (fun p hp => by cases hp) j p q hp hq
  · rw [hlen] at hcl
    by_cases e : c = nd.length
    · subst e
      rw [hrn]
      rcases hc with ⟨_, _, h, _⟩ | ⟨_, h, _⟩
      · exact .var (by rw [hsn]; omega)
      · exact .node (nm := nm) (ks := ks) (by rw [hsn]; omega) (by rw [hsn, h, Int.toNat_natCast]; exact hlast) fun k hk => hfo k (hks k hk)
    · exact hfo c (by omega)
  · by_cases e : u = nd.length
    · subst e; rw [hlast] at hu; cases hu
      rcases hc with ⟨h1, _⟩ | ⟨h0, h, _⟩
      · rw [h1] at hv; cases hv
      · exact h0
    · exact hI.cn _ _ _ (hold hu e).2 hv
  · by_cases e : u = nd.length
    · subst e; rw [hlast] at hu; cases hu
      rcases hc with ⟨h1, h2, _, _, _, h3⟩ | ⟨h0, h, _⟩
      · exact ⟨h2, by rw [h3]; simp⟩
      · rw [h0.notV] at hv; cases hv
    · obtain ⟨h1, h2⟩ := hI.kd _ _ _ (hold hu e).2 hv
      exact ⟨h1, (hvo h2).1⟩
theorem vget_app {vs : List (List UInt8 × Nat)} {nm : List UInt8} {n : Nat} (h : vget vs nm = none) : vget (vs ++ [(nm, n)]) = fun v => if v = nm then some n else vget vs v := by
  funext v
  unfold vget at h ⊢
  rw [List.find?_append]
  by_cases e : v = nm
  · subst e
    rw [if_pos rfl]
    have h1 : vs.find? (fun p => decide (v = p.1)) = none := by
      cases h2 : vs.find? (fun p => decide (v = p.1)) with
      | none => rfl
      | some p => rw [h2] at h; cases h
    rw [h1]; simp
  · rw [if_neg e]
    cases h2 : vs.find? (fun p => decide (v = p.1)) with
    | none => simp [e]
    | some p => rfl
/-- A table, and what it says of variables. -/
structure TK (T : Tb) (A : Ab) (σ : List UInt8 → Ty) : Prop where
  r : AbR T.nd.length T.pa T.st T.le A
  i : InvT T.nd (vget T.vs) A
  t : Tell T.nd (vget T.vs) A σ
theorem TK.add {T : Tb} {A : Ab} {σ : List UInt8 → Ty} (h : TK T A σ) {nm : List UInt8} {ks : List Nat} {s : Int} {l : List UInt8} {vs' : List (List UInt8 × Nat)}
    (hc : (isV nm = true ∧ ks = [] ∧ s = -1 ∧ l = nm ∧ vget T.vs nm = none ∧ vs' = T.vs ++ [(nm, T.nd.length)]) ∨ (cN nm ∧ s = T.nd.length ∧ (∀ k ∈ ks, k < T.nd.length) ∧ ks.length ≤ 3000 ∧ vs' = T.vs)) : TK ⟨T.nd ++ [(nm, ks)], vs', T.pa ++ [T.nd.length], T.st ++ [s], T.le ++ [l]⟩ (A.ext T.nd.length s l) σ := by
  have hx := ext_one T.nd A (nm, ks) s l
  refine ⟨?_, h.i.add ?_, fun v => ⟨fun w hw => ?_, fun hv => ?_⟩⟩
  · have := h.r.add s l
    simpa using this
  · rcases hc with ⟨a1, a2, a3, a4, a5, a6⟩ | ⟨a1, a2, a3, a4, a5⟩
    · exact .inl ⟨a1, a2, a3, a4, a5, by subst a6; exact vget_app a5⟩
    · exact .inr ⟨a1, a2, a3, a4, by subst a5; rfl⟩
  · show Res (T.nd ++ [(nm, ks)]) _ w _ _
    have hold : vget T.vs v = some w → Res (T.nd ++ [(nm, ks)]) (A.ext T.nd.length s l) w (σ v).1 (σ v).2 := fun hv =>
      Res.ext h.i.j.w hx (List.getElem?_eq_some_iff.1 (h.i.j.va _ _ hv).1).1 ((h.t v).1 w hv)
    rcases hc with ⟨a1, a2, a3, a4, a5, a6⟩ | ⟨a1, a2, a3, a4, a5⟩
    · subst a6
      have hw2 : (if v = nm then some T.nd.length else vget T.vs v) = some w := by rw [← hw]; exact (congrFun (vget_app a5) v).symm
      by_cases e : v = nm
      · subst e
        rw [if_pos rfl] at hw2; cases hw2
        rw [(h.t v).2 a5]
        exact .inl ⟨by show upd A.st _ s (upd A.rt _ _ _) < 0; rw [upd_eq, upd_eq]; omega, by show v = upd A.le _ l (upd A.rt _ _ _); rw [upd_eq, upd_eq, a4], rfl⟩
      · rw [if_neg e] at hw2; exact hold hw2
    · subst a5; exact hold hw
  · refine (h.t v).2 ?_
    rcases hc with ⟨a1, a2, a3, a4, a5, a6⟩ | ⟨a1, a2, a3, a4, a5⟩
    · subst a6
      have hw2 : (if v = nm then some T.nd.length else vget T.vs v) = none := by rw [← hv]; exact (congrFun (vget_app a5) v).symm
      by_cases e : v = nm
      · rw [if_pos e] at hw2; cases hw2
      · rw [if_neg e] at hw2; exact hw2
    · subst a5; exact hv
/-- What take tells. -/
structure TkP (T : Tb) (A : Ab) (σ : List UInt8 → Ty) (T' : Tb) (A' : Ab) : Prop where
  k : TK T' A' σ
  x : Ext T.nd A T'.nd A'
theorem takeT_law1 {T : Tb} {A : Ab} {σ : List UInt8 → Ty} (h : TK T A σ) {nm : List UInt8} {ar : Fo} (ho : okT (nm, ar))
    (ih : okL ar → ∃ A', TkP T A σ (takeL ar T).1 A' ∧ (∀ j ∈ (takeL ar T).2, j < (takeL ar T).1.nd.length) ∧ ResL (takeL ar T).1.nd A' (subL σ ar) (takeL ar T).2) :
    ∃ A', TkP T A σ (takeT nm ar T).1 A' ∧ (takeT nm ar T).2 < (takeT nm ar T).1.nd.length ∧ Res (takeT nm ar T).1.nd A' (takeT nm ar T).2 (subT σ (nm, ar)).1 (subT σ (nm, ar)).2 := by
  unfold takeT
  by_cases hv : varT nm ar = true
  · rw [if_pos hv]
    have h1 := hv
    rw [varT_isV] at h1
    simp only [Bool.and_eq_true, decide_eq_true_eq] at h1
    obtain ⟨h1, h2⟩ := h1
    have h3 := len0 h2
    subst h3
    rw [subT_var h1]
    unfold takeV
    cases hg : vget T.vs nm with
    | some i => exact ⟨A, ⟨h, Ext.refl _ _⟩, (List.getElem?_eq_some_iff.1 (h.i.j.va _ _ hg).1).1, (h.t nm).1 i hg⟩
    | none =>
      have hk := h.add (nm := nm) (ks := []) (s := -1) (l := nm) (.inl ⟨h1, rfl, rfl, rfl, hg, rfl⟩)
      refine ⟨_, ⟨hk, ext_one _ _ _ _ _⟩, by simp [Tb.add], ?_⟩
      exact (hk.t nm).1 _ (by show vget (T.vs ++ _) nm = _; rw [vget_app hg]; simp)
  · rw [if_neg hv]
    rcases ho with h9 | ⟨hc, hln, hok⟩
    · exact absurd h9 hv
    · obtain ⟨A1, ⟨hk1, hx1⟩, hb, hr⟩ := ih hok
      have hk := hk1.add (nm := nm) (ks := (takeL ar T).2) (s := (takeL ar T).1.nd.length) (l := []) (.inr ⟨hc, rfl, hb, by rw [takeL_n]; exact hln, rfl⟩)
      refine ⟨_, ⟨hk, hx1.trans (ext_one _ _ _ _ _)⟩, by simp [takeN, Tb.add], ?_⟩
      rw [subT_con _ hc.notV]
      refine .inr ⟨(takeL ar T).2, ?_, ?_, ResL.ext hk1.i.j.w (ext_one _ _ _ _ _) _ _ hb hr⟩
      · show 0 ≤ upd A1.st _ _ (upd A1.rt _ _ _)
        rw [show (takeN (takeL ar T) nm).2 = (takeL ar T).1.nd.length from rfl, upd_eq, upd_eq]; omega
      · show ((takeL ar T).1.nd ++ [(nm, (takeL ar T).2)])[(upd A1.st _ _ (upd A1.rt _ _ _)).toNat]? = _
        rw [show (takeN (takeL ar T) nm).2 = (takeL ar T).1.nd.length from rfl, upd_eq, upd_eq, Int.toNat_natCast]; simp
theorem takeL_law : ∀ (l : Fo) {T : Tb} {A : Ab} {σ : List UInt8 → Ty}, TK T A σ → okL l → ∃ A', TkP T A σ (takeL l T).1 A' ∧ (∀ j ∈ (takeL l T).2, j < (takeL l T).1.nd.length) ∧ ResL (takeL l T).1.nd A' (subL σ l) (takeL l T).2
  | .nil, T, A, σ, h, _ => ⟨A, ⟨h, Ext.refl _ _⟩, fun j hj => by simp [takeL] at hj, rfl⟩
  | .cons nm ar r, T, A, σ, h, ho => by
    obtain ⟨A1, ⟨hk1, hx1⟩, hb1, hr1⟩ := takeT_law1 h ho.1 (takeL_law ar h)
    obtain ⟨A2, ⟨hk2, hx2⟩, hb2, hr2⟩ := takeL_law r hk1 ho.2
    rw [takeL_cons, subL_cons]
    refine ⟨A2, ⟨hk2, hx1.trans hx2⟩, fun j hj => ?_, _, _, rfl, Res.ext hk1.i.j.w hx2 hb1 hr1, hr2⟩
    rcases List.mem_cons.1 hj with rfl | hj
    · have := hx2.len; simp only at this ⊢; omega
    · exact hb2 j hj
theorem takeT_law {nm : List UInt8} {ar : Fo} {T : Tb} {A : Ab} {σ : List UInt8 → Ty} (h : TK T A σ) (ho : okT (nm, ar)) : ∃ A', TkP T A σ (takeT nm ar T).1 A' ∧ (takeT nm ar T).2 < (takeT nm ar T).1.nd.length ∧ Res (takeT nm ar T).1.nd A' (takeT nm ar T).2 (subT σ (nm, ar)).1 (subT σ (nm, ar)).2 :=
  takeT_law1 h ho (takeL_law ar h)
end Go.Un
