/- Walks. -/
import Derived.Test.YtbhipiepfclneaaGreatDoorQ19
set_option maxHeartbeats 8000000
namespace Go.Proofs.YtbhipiepfclneaaGreatDoor
open Go Go.Wk Go.Un Go.De Go.Num
set_option linter.unusedSimpArgs false
set_option linter.unusedVariables false
attribute [local irreducible] Go.wpList Go.Code.wp Go.wpStill Go.Wk.q26 Go.bodyPost Go.Calls Go.Wk.Ct Go.Wk.q0u Go.Wk.wpG Go.Wk.wpM
def qds (aggs : List (List UInt8)) (x : GA) (key way args : Vf) : GA := if qam aggs x key way args = 0 then qrq x ((q13 key).getD []) ((q13 way).getD []) key args else x
def qfr (x : GA) (key way : Vf) : GA := if qdo x key way = 0 then qvp x ((q13 key).getD []) ((q13 way).getD []) else x
theorem qll {aggs : List (List UInt8)} {x : GA} {key way args : Vf} (h : qam aggs x key way args = 0) : ∃ k w q, q13 key = some k ∧ q13 way = some w ∧ q13 args = some q ∧ args.len = aggs.length ∧ (alG (q1z x k) w).isSome = false ∧ q73 aggs args (q1z x k) = false := by
 unfold qam at h
 cases h1 : q13 key with
 | none => rw [h1] at h; cases h
 | some k =>
  cases h2 : q13 way with
  | none => rw [h1, h2] at h; cases h
  | some w =>
   cases h3 : q13 args with
   | none => rw [h1, h2, h3] at h; cases h
   | some q =>
    rw [h1, h2, h3] at h
    dsimp only at h
    split at h
    ·cases h
    ·split at h
     ·cases h
     ·split at h
      ·cases h
      ·rename_i a b c
       exact ⟨k, w, q, rfl, rfl, rfl, by omega, by simpa using b, by simpa using c⟩
theorem q4k {β : Type} {x : List (List UInt8 × β)} {k : List UInt8} {e : β} (h : alG x k = some e) : (k, e) ∈ x := by
 obtain ⟨x1, x2, rfl, -⟩ := q23 h
 simp
theorem qq4 {aggs : List (List UInt8)} {args : Vf} {ws : List (List UInt8 × Vf)} (h : q73 aggs args ws = false) {i : Nat} (hi : i < aggs.length) (hs : aggs.getD i [] = q5u) : (kAt args i = 2 ∨ kAt args i = 3) ∧ ∀ w r, ws = w :: r → kAt w.2 i = kAt args i := by
 unfold q73 at h
 rw [List.any_eq_false] at h
 have h1 := h i (List.mem_range.2 hi)
 unfold q4n at h1
 rw [decide_eq_true hs, Bool.true_and, Bool.or_eq_true, not_or, decide_eq_true_eq] at h1
 refine ⟨by omega, fun w r e => ?_⟩
 subst e
 have := h1.2
 rw [decide_eq_true_eq] at this
 exact Classical.not_not.1 this
theorem qc0 {aggs : List (List UInt8)} {x : GA} {key way args : Vf} (hI : GInv aggs x) (r1 : q2r key) (r3 : q2r args) : GInv aggs (qds aggs x key way args) := by
 unfold qds
 by_cases h0 : qam aggs x key way args = 0
 ·rw [if_pos h0]
  obtain ⟨k, w, q, hk, hw, hq, hl, ha, ht⟩ := qll h0
  rw [hk, hw, Option.getD_some, Option.getD_some]
  unfold qrq
  unfold q1z at ha ht
  cases hx : alG x k with
  | none =>
   rw [hx] at ha ht
   refine ⟨?_, fun p hp => ?_⟩
   ·rw [List.map_append, List.nodup_append]
    refine ⟨hI.nd, by simp, fun a h1 b h2 => ?_⟩
    obtain ⟨p, hp, rfl⟩ := List.mem_map.1 h1
    simp at h2
    subst h2
    exact q6k.1 hx p hp
   ·rcases List.mem_append.1 hp with hp | hp
    ·exact hI.all p hp
    ·rw [List.mem_singleton] at hp
     subst hp
     refine ⟨(fun e => by cases e), by simp, ?_, ?_, ?_, ?_, ?_, hk, r1⟩ <;> simp only [List.mem_singleton, forall_eq]
     ·exact hl
     ·exact fun i _ => trivial
     ·exact fun i hi hs => (qq4 ht hi hs).1
     ·rw [hq]; rfl
     ·exact r3
  | some e =>
   rw [hx] at ha ht
   obtain ⟨x1, x2, rfl, h1, h2, -⟩ := q23 hx
   have hE := hI.all (k, e) (by simp)
   rw [h2]
   have hno : ∀ p ∈ e.ways, p.1 ≠ w := q6k.1 (Option.isNone_iff_eq_none.1 (by rw [← Option.not_isSome, ha]; rfl))
   refine ⟨by have := hI.nd; simpa using this, fun p hp => ?_⟩
   rcases List.mem_append.1 hp with hp | hp
   ·exact hI.all p (List.mem_append_left _ hp)
   ·rcases List.mem_cons.1 hp with rfl | hp
    ·obtain ⟨w1, wr, hwe⟩ := List.exists_cons_of_ne_nil hE.ne
     have hk1 : ∀ v ∈ e.ways, ∀ i, i < aggs.length → aggs.getD i [] = q5u → kAt v.2 i = kAt args i := fun v hv i hi hs => by
      rw [hE.kind v hv w1 (by rw [hwe]; simp) i hs]
      exact (qq4 ht hi hs).2 w1 wr hwe
     have hlt : ∀ i, aggs.getD i [] = q5u → i < aggs.length := fun i hs => by
      rcases Nat.lt_or_ge i aggs.length with h9 | h9
      ·exact h9
      ·rw [List.getD_eq_getElem?_getD, List.getElem?_eq_none h9] at hs; cases hs
     refine ⟨(by simp), ?_, ?_, ?_, ?_, ?_, ?_, hE.key, hE.krow⟩
     ·rw [List.map_append, List.nodup_append]
      refine ⟨hE.nd, by simp, fun a h3 b h4 => ?_⟩
      obtain ⟨p9, hp9, hpe⟩ := List.mem_map.1 h3
      rw [List.map_cons, List.map_nil, List.mem_singleton] at h4
      rw [h4, ← hpe]
      exact hno p9 hp9
     ·intro v hv
      rcases List.mem_append.1 hv with hv | hv
      ·exact hE.len v hv
      ·rw [List.mem_singleton] at hv; subst hv; exact hl
     ·intro v hv v' hv' i hs
      rcases List.mem_append.1 hv with hv | hv <;> rcases List.mem_append.1 hv' with hv' | hv'
      ·exact hE.kind v hv v' hv' i hs
      ·rw [List.mem_singleton] at hv'; subst hv'; exact hk1 v hv i (hlt i hs) hs
      ·rw [List.mem_singleton] at hv; subst hv; exact (hk1 v' hv' i (hlt i hs) hs).symm
      ·rw [List.mem_singleton] at hv hv'; subst hv; subst hv'; rfl
     ·intro v hv i hi hs
      rcases List.mem_append.1 hv with hv | hv
      ·exact hE.num v hv i hi hs
      ·rw [List.mem_singleton] at hv; subst hv; exact (qq4 ht hi hs).1
     ·intro v hv
      rcases List.mem_append.1 hv with hv | hv
      ·exact hE.may v hv
      ·rw [List.mem_singleton] at hv; subst hv; rw [hq]; rfl
     ·intro v hv
      rcases List.mem_append.1 hv with hv | hv
      ·exact hE.row v hv
      ·rw [List.mem_singleton] at hv; subst hv; exact r3
    ·exact hI.all p (List.mem_append_right _ (List.mem_cons_of_mem _ hp))
 ·rw [if_neg h0]; exact hI
theorem qa8 {β : Type} : ∀ {x : List (List UInt8 × β)} {k : List UInt8}, (alD x k).Sublist x
 | [], _ => List.Sublist.slnil
 | (a, u) :: r, k => by
  unfold alD
  split
  ·exact List.sublist_cons_self _ _
  ·exact qa8.cons_cons _
theorem qt0 {aggs : List (List UInt8)} {x : GA} {key way : Vf} (hI : GInv aggs x) : GInv aggs (qfr x key way) := by
 unfold qfr
 by_cases h0 : qdo x key way = 0
 ·rw [if_pos h0]
  generalize (q13 key).getD [] = k
  generalize (q13 way).getD [] = w
  unfold qvp
  by_cases hn : alD (q1z x k) w = []
  ·rw [if_pos hn]
   exact ⟨hI.nd.sublist (qa8.map _), fun p hp => hI.all p (qa8.subset hp)⟩
  ·rw [if_neg hn]
   unfold q1z at hn
   cases hx : alG x k with
   | none => rw [hx] at hn; exact absurd rfl hn
   | some e =>
    rw [hx] at hn
    obtain ⟨x1, x2, rfl, h1, h2, -⟩ := q23 hx
    have hE := hI.all (k, e) (by simp)
    rw [h2]
    refine ⟨by have := hI.nd; simpa using this, fun p hp => ?_⟩
    rcases List.mem_append.1 hp with hp | hp
    ·exact hI.all p (List.mem_append_left _ hp)
    ·rcases List.mem_cons.1 hp with rfl | hp
     ·have hs : ∀ v ∈ alD e.ways w, v ∈ e.ways := fun v hv => qa8.subset hv
      exact ⟨hn, hE.nd.sublist (qa8.map _), fun v hv => hE.len v (hs v hv), fun v hv v' hv' => hE.kind v (hs v hv) v' (hs v' hv'), fun v hv => hE.num v (hs v hv), fun v hv => hE.may v (hs v hv), fun v hv => hE.row v (hs v hv), hE.key, hE.krow⟩
     ·exact hI.all p (List.mem_append_right _ (List.mem_cons_of_mem _ hp))
 ·rw [if_neg h0]; exact hI
theorem ql7 {P : Program} {f : FuncId} {args : List Value} {F : q01} {G : List Grp} {Q Q' : q01 → List Grp → Value → Prop} (h : Ct P f args F G Q) (k : ∀ F' G' u, (keys G').Nodup → Q F' G' u → ∃ G'', G'.flatten.Perm G''.flatten ∧ Q' F' G'' u) : Ct P f args F G Q' := by
 unfold Ct at h ⊢
 exact fun w hw => (h w hw).mono fun _ _ ⟨v, F', G', h1, h2, h3⟩ => by
  obtain ⟨G'', h4, h5⟩ := k F' G' v h2.nd h3
  exact ⟨v, F', G'', h1, h2.perm h4, h5⟩
def GsN (bg : Nat) (av : Value) (x x' : GA) (gv : Gv) (G' : List Grp) : Prop := ∃ gg' gn gv', G' = [gg', gn] ∧ GsS bg av gv' gg' ∧ ∀ H : q01, (∀ b o, gh gn b = some o → H b = some o) → GvR H x gv → GvR H x' gv'
theorem q5z {bg : Nat} {av : Value} {x : GA} {gv : Gv} {gg : Grp} (h : GsS bg av gv gg) : ∃ G'', ([gg] : List Grp).flatten.Perm G''.flatten ∧ GsN bg av x x gv G'' := ⟨[gg, []], by simp, gg, [], gv, rfl, h, fun _ _ h => h⟩
theorem qpc (F : q01) (hT : q50 F) (bg : Nat) (av : Value) (gv : Gv) (gg : Grp) (aggs : List (List UInt8)) (x : GA) (hG : GsS bg av gv gg) (hA : LiM F 1 StR av aggs) (hX : GvR F x gv) (hI : GInv aggs x) (key way args : Vf) (v1 v2 v3 : Value) (h1 : TrS F 4 VhR v1 key) (h2 : TrS F 4 VhR v2 way) (h3 : TrS F 4 VhR v3 args) (r1 : q2r key) (r2 : q2r way) (r3 : q2r args) :
  Ct Tryz.prog 10 [.pointer (some ⟨bg, 0, none⟩), v1, v2, v3] F [gg] (fun _ G' u => u = .int .i64 (qam aggs x key way args) ∧ GsN bg av x (qds aggs x key way args) gv G') := by
 by_cases hb : (q13 key).isSome = false ∨ (q13 way).isSome = false ∨ (q13 args).isSome = false ∨ args.len ≠ aggs.length
 ·refine ql7 (qrl F hT bg av gv gg aggs x hG hA key way args v1 v2 v3 h1 h2 h3 r1 r2 r3 hb) fun F' G' u _ ⟨h4, h5⟩ => ?_
  subst h5
  have hne : qam aggs x key way args ≠ 0 := by
   rcases hb with hb | hb | hb | hb
   ·rw [u4c (.inl hb)]; decide
   ·rw [u4c (.inr (.inl hb))]; decide
   ·rw [u4c (.inr (.inr hb))]; decide
   ·intro h0
    obtain ⟨_, _, _, _, _, _, h9, -⟩ := qll h0
    exact hb h9
  unfold qds
  rw [if_neg hne]
  obtain ⟨G'', h6, h7⟩ := q5z (x := x) hG
  exact ⟨G'', h6, h4, h7⟩
 ·simp only [not_or, Bool.not_eq_false, ne_eq, Classical.not_not] at hb
  obtain ⟨b1, b2, b3, hln⟩ := hb
  obtain ⟨k, hk⟩ := Option.isSome_iff_exists.1 b1
  obtain ⟨w, hw⟩ := Option.isSome_iff_exists.1 b2
  obtain ⟨q, hq⟩ := Option.isSome_iff_exists.1 b3
  have hE : qam aggs x key way args = if (alG (q1z x k) w).isSome = true then 6 else if q73 aggs args (q1z x k) = true then 70 else 0 := by
   unfold qam
   rw [hk, hw, hq]
   exact if_neg (by omega)
  rcases hX.get k with ⟨g1, g2⟩ | ⟨e, e', g1, g2, g3, g4⟩
  ·have hws : q1z x k = [] := by unfold q1z; rw [g1]
   rw [hws, show (alG ([] : List (List UInt8 × Vf)) w).isSome = false from rfl, if_neg (by decide)] at hE
   refine ql7 (qrk F hT bg av gv gg aggs hG hA key way args v1 v2 v3 h1 h2 h3 r1 r2 r3 k w q hk hw hq hln g2) fun F' G' u hnd hp => ?_
   rcases hp with ⟨p1, p2, p3⟩ | ⟨p1, p2, kv, b, av', gg', gk, ga, p3, p4, p5, p6⟩
   ·rw [if_pos p1] at hE
    subst p3
    unfold qds
    rw [hE, if_neg (by decide)]
    obtain ⟨G'', h6, h7⟩ := q5z (x := x) hG
    exact ⟨G'', h6, p2, h7⟩
   ·rw [p1, if_neg (by decide)] at hE
    subst p3
    have hnd2 : ((gk ++ ga).map (·.1)).Nodup := by
     unfold keys at hnd
     simp only [qaF, List.flatten_nil, qaE, List.map_append] at hnd ⊢
     exact (List.nodup_append.1 hnd).2.1
    refine ⟨[gg', gk ++ ga], by simp, by rw [hE]; exact p2, gg', gk ++ ga, _, rfl, p6, fun H hH hX => ?_⟩
    unfold qds qrq
    rw [if_pos hE, hk, hw, Option.getD_some, Option.getD_some, g1]
    exact GvR.snoc (e := ⟨key, [(w, args)]⟩) (e' := ⟨kv, b, [(w, av')]⟩) (p4.mono fun b o h => hH b o (q5i h)) ⟨rfl, p5.mono fun b o h => hH b o (q4u hnd2 h), trivial⟩ hX
  ·have hws : q1z x k = e.ways := by unfold q1z; rw [g1]
   rw [hws] at hE
   have hEI := hI.all (k, e) (q4k g1)
   refine ql7 (qt2 F hT bg av gv gg aggs hG hA key way args v1 v2 v3 h1 h2 h3 r1 r2 r3 k w q hk hw hq hln e' e g2 g3 g4 hEI.ne hEI.len hEI.kind) fun F' G' u hnd hp => ?_
   rcases hp with ⟨p1, p2, p3⟩ | ⟨p0, p1, p2, p3⟩ | ⟨p0, p1, p2, av', gg', ga, p3, p5, p6⟩
   ·rw [if_pos p1] at hE
    subst p3
    unfold qds
    rw [hE, if_neg (by decide)]
    obtain ⟨G'', h6, h7⟩ := q5z (x := x) hG
    exact ⟨G'', h6, p2, h7⟩
   ·rw [p0, if_neg (by decide), if_pos p1] at hE
    subst p3
    unfold qds
    rw [hE, if_neg (by decide)]
    obtain ⟨G'', h6, h7⟩ := q5z (x := x) hG
    exact ⟨G'', h6, p2, h7⟩
   ·rw [p0, if_neg (by decide), p1, if_neg (by decide)] at hE
    subst p3
    refine ⟨[gg', ga], List.Perm.refl _, by rw [hE]; exact p2, gg', ga, _, rfl, p6, fun H hH hX => ?_⟩
    unfold qds qrq
    rw [if_pos hE, hk, hw, Option.getD_some, Option.getD_some, g1]
    exact GvR.upd k (f := fun e => ⟨e.key, e.ways ++ [(w, args)]⟩) (g := fun e => ⟨e.kv, e.b, e.ws ++ [(w, av')]⟩) (fun e e' _ a b => ⟨a, WsR.snoc (p5.mono fun b o h => hH b o h) b⟩) hX
theorem qlo (F : q01) (hT : q50 F) (bg : Nat) (av : Value) (gv : Gv) (gg : Grp) (x : GA) (hG : GsS bg av gv gg) (hav : av.oneCell' = true) (hX : GvR F x gv) (key way : Vf) (v1 v2 : Value) (h1 : TrS F 4 VhR v1 key) (h2 : TrS F 4 VhR v2 way) (r1 : q2r key) (r2 : q2r way) :
  Ct Tryz.prog 11 [.pointer (some ⟨bg, 0, none⟩), v1, v2] F [gg] (fun _ G' u => u = .int .i64 (qdo x key way) ∧ GsN bg av x (qfr x key way) gv G') := by
 by_cases hb : ∃ k w e', q13 key = some k ∧ q13 way = some w ∧ alG gv k = some e'
 ·obtain ⟨k, w, e', hk, hw, g2⟩ := hb
  rcases hX.get k with ⟨g1, g2'⟩ | ⟨e, e'', g1, g2', g3, g4⟩
  ·rw [g2] at g2'; cases g2'
  ·rw [g2] at g2'; cases g2'
   have hws : q1z x k = e.ways := by unfold q1z; rw [g1]
   have hE : qdo x key way = if (alG e.ways w).isSome = true then 0 else 5 := by unfold qdo; rw [hk, hw, ← hws]
   have hsm : (alG e.ways w).isSome = (alG e'.ws w).isSome := by rcases g4.get w with ⟨q1, q2⟩ | ⟨_, _, q1, q2, -⟩ <;> rw [q1, q2] <;> rfl
   have hdl : alD e.ways w = [] ↔ alD e'.ws w = [] := by
    have := (g4.del w).len
    exact ⟨fun h9 => List.eq_nil_of_length_eq_zero (by rw [← this, h9]; rfl), fun h9 => List.eq_nil_of_length_eq_zero (by rw [this, h9]; rfl)⟩
   refine ql7 (qts F hT bg av gv gg hG key way v1 v2 h1 h2 r1 r2 k w hk hw e' e g2 g3 hav) fun F' G' u hnd hp => ?_
   rcases hp with ⟨p1, p2, p3⟩ | ⟨p1, p2, gg', p3, p4⟩
   ·rw [hsm, p1, if_neg (by decide)] at hE
    subst p3
    unfold qfr
    rw [hE, if_neg (by decide)]
    obtain ⟨G'', h6, h7⟩ := q5z (x := x) hG
    exact ⟨G'', h6, p2, h7⟩
   ·rw [hsm, p1, if_pos rfl] at hE
    subst p3
    refine ⟨[gg', []], by simp, by rw [hE]; exact p2, gg', [], _, rfl, p4, fun H _ hX => ?_⟩
    unfold qfr qvp
    rw [if_pos hE, hk, hw, Option.getD_some, Option.getD_some, hws]
    by_cases hn : alD e.ways w = []
    ·rw [if_pos hn, if_pos (hdl.1 hn)]; exact hX.del k
    ·rw [if_neg hn, if_neg (fun h9 => hn (hdl.2 h9))]
     exact GvR.upd k (f := fun e => ⟨e.key, alD e.ways w⟩) (g := fun e => ⟨e.kv, e.b, alD e.ws w⟩) (fun e e' _ a b => ⟨a, b.del w⟩) hX
 ·have hno : ∀ k9 w9, q13 key = some k9 → q13 way = some w9 → alG gv k9 = none := fun k w hk hw => by
   cases hg : alG gv k with
   | none => rfl
   | some e => exact absurd ⟨k, w, e, hk, hw, hg⟩ hb
  refine ql7 (qy3 F hT bg av gv gg hG key way v1 v2 h1 h2 r1 r2 hno hav) fun F' G' u _ ⟨h4, h5⟩ => ?_
  subst h5
  have hE : qdo x key way = if (q13 key).isSome = true ∧ (q13 way).isSome = true then 5 else 4 := by
   unfold qdo
   cases hk : q13 key with
   | none => rw [if_neg (by simp)]
   | some k =>
    cases hw : q13 way with
    | none => rw [if_neg (by simp)]
    | some w =>
     rcases hX.get k with ⟨g1, -⟩ | ⟨e, e'', g1, g2', -, -⟩
     ·rw [if_pos ⟨rfl, rfl⟩]
      dsimp only
      unfold q1z
      rw [g1]; rfl
     ·rw [hno k w hk hw] at g2'; cases g2'
  have hne : qdo x key way ≠ 0 := by rw [hE]; split <;> decide
  unfold qfr
  rw [if_neg hne]
  obtain ⟨G'', h6, h7⟩ := q5z (x := x) hG
  exact ⟨G'', h6, by rw [hE]; exact h4, h7⟩
def SmC (n : Nat) : Prop := ∀ (F : q01) (x y : Vv) (cs cs2 : List Value), x.2.size < n → VaC F cs x.1 x.2 → VaC F cs2 y.1 y.2 → Ct Tryz.prog 41 [.agg ⟨cs⟩, .agg ⟨cs2⟩] F [] (fun _ _ u => u = .bool (qhd x y))
theorem qyp {p : Prop} (h : p := by (congr 1; first | (rw [qff (by omega)]; done) | (rw [← hfp, q1d.drop_len (by omega), q1d.drop_len (by omega)]; rfl) | (rw [← hfp, qb2 hx hy, (by assumption : qhd x y = false), Bool.false_and]; done))) : p := h
theorem q25 {n : Nat} (hC : SmC n) (F : q01) (l m : Vf) (v u : Value) (hn : l.size ≤ n) (hv : TrS F 4 VhR v l) (hu : TrS F 4 VhR u m) : Ct Tryz.prog 18 [v, u] F [] (fun _ _ u => u = .bool (q15 l m)) := by
 obtain ⟨ao, cap, rfl, hcap, hpos⟩ := hv
 obtain ⟨ao2, cap2, rfl, hcap2, hpos2⟩ := hu
 refine Ct.enter Tryz.func18 rfl Tryz.ntmps18 rfl fun w0 a S => ?_
 revert a; refine go 13 ?_; intro Z hZ a S
 refine q00 S rfl ?_ ?_ <;> intro h
 ·revert a; refine go 4 ?_; intro a S
  refine wp_ret (fr1 S Tryz.results18 ?_)
  exact qyp
 revert a; revert Z; refine go 8 ?_; intro Z hZ a S
 refine q04 (fun q a w' => ∃ (k : Nat), q = l.len - k ∧ k ≤ l.len ∧ q15 (l.drop k) (m.drop k) = q15 l m ∧ St 27 [(0, .slice ao l.len cap), (1, .slice ao2 m.len cap2), (5, .int .i64 k)] w0 F [] F [] a w') ?_ ?_
 ·(have hlm : l.len = m.len := (by omega); refine ⟨l.len, 0, by omega, Nat.zero_le _, rfl, ?_⟩; refine S.keep ?_; exact zk)
 (clear S; rintro q a w ⟨k, rfl, hkl, hfp, S⟩)
 revert a; refine go 8 ?_; intro Z hZ a S
 refine q00 S rfl ?_ ?_ <;> intro h
 ·revert a; revert Z; refine go 4 ?_; intro Z hZ a S
  (refine wp_seq_k ?_; intro Z hZ)
  (obtain ⟨b8, o8, hao, x, cs1, v1, hx, hc1, hw9, hT1⟩ := TrM.pos hpos (k := k) (by omega); rw [hao] at S; have hxs := q1d.size_get hx; have hT1c := hT1; obtain ⟨a91, c91, rfl, -⟩ := hT1c; have hw9c := hw9.1; subst hw9c; (simp only [List.cons_append, qaG] at hc1); obtain ⟨b9, o9, hao2, y, cs2, v2, hy, hc2, hw8, hT2⟩ := TrM.pos hpos2 (k := k) (by omega); rw [hao2] at S; have hT2c := hT2; obtain ⟨a92, c92, rfl, -⟩ := hT2c; have hw8c := hw8.1; subst hw8c; (simp only [List.cons_append, qaG] at hc2))
  (refine q0k [0, 1, 2, 3, 4, 5, 6, 7, 9] [3, 7] [] (.one 0 (.one 1 (.one 2 (.one 3 (.one 4 (.one 5 (.one 6 (.one 7 (.one 8 (.one 9 .nil)))))))))) [] S mixed (by kernel_rfl) ?_; clear S; intro w S)
  revert a; refine go 9 ?_; intro a S
  (refine wc0 S (hC F x y _ _ (by omega) ⟨_, rfl, hT1, hw9.2⟩ ⟨_, rfl, hT2, hw8.2⟩) ?_; clear S a; intro v a w hv S; subst hv)
  revert a; revert Z; refine go 4 ?_; intro a S
  refine q00 S rfl ?_ ?_ <;> intro h
  ·revert a; refine go 4 ?_; intro a S
   refine wp_ret (fr1 S Tryz.results18 ?_)
   exact qyp
  revert a; revert Z; refine go 7 ?_; intro a S
  change ∃ m', _ ∧ _
  (rw [← hao, ← hao2] at S; refine ⟨l.len - (k + 1), by omega, k + 1, rfl, by omega, ?_, ?_⟩; rotate_left 1; (refine S.keep ?_; exact zk); rw [← hfp, qb2 hx hy, (by assumption : qhd x y = true), Bool.true_and])
 (refine wp_exit ?_; conv => whnf)
 clear hZ Z
 revert a; revert Z; refine go 5 ?_; intro a S
 refine wp_ret (fr1 S Tryz.results18 ?_)
 exact qyp
theorem qty {p : Prop} (h : p := by (congr 1; show _ = (decide (xk = yk) && (decide (xn = yn) && decide (xs = ys)) && q15 xl yl); first | (rw [decide_eq_true (show xk = yk by omega), decide_eq_true (show xn = yn by assumption), decide_eq_true (show xs = ys by assumption)]; rfl) | (rw [decide_eq_false (show ¬ xk = yk by omega)]; rfl) | (rw [decide_eq_false (show ¬ xn = yn by assumption), Bool.false_and, Bool.and_false, Bool.false_and]; done) | (rw [decide_eq_false (show ¬ xs = ys by assumption), Bool.and_false, Bool.and_false, Bool.false_and]; done))) : p := h
theorem q4z : ∀ n, SmC n := by
 intro n
 induction n with
 | zero => intro F x y cs cs2 hn; omega
 | succ n ih =>
 intro F x y cs cs2 hn hV hV2
 obtain ⟨⟨xk, xn, xs⟩, xl⟩ := x
 obtain ⟨⟨yk, yn, ys⟩, yl⟩ := y
 obtain ⟨v1, rfl, hT1, hs1⟩ := hV
 obtain ⟨v2, rfl, hT2, hs2⟩ := hV2
 dsimp only at *
 have hr := q25 ih F xl yl v1 v2 (by omega) hT1 hT2
 obtain ⟨a1, c1, rfl, -⟩ := hT1
 obtain ⟨a2, c2, rfl, -⟩ := hT2
 refine Ct.enter Tryz.func41 rfl Tryz.ntmps41 rfl fun w0 a S => ?_
 refine q1i fun Z hZ => ?_
 (refine wbx S ?_; clear S a; intro b2 a w S)
 (refine wbx S ?_; clear S a; intro b3 a w S)
 revert a; revert Z; refine go 10 ?_; intro Z hZ a S
 refine wgd S ?_ ?_
 ·(clear S; intro h S)
  revert a; refine go 11 ?_; intro a S
  refine wgd S ?_ ?_
  ·(clear S; intro h S)
   revert a; refine go 11 ?_; intro a S
   refine wgd S ?_ ?_
   ·(clear S; intro h S)
    revert a; refine go 8 ?_; intro a S
    (refine wc0 S (hr) ?_; clear S a; intro v a w hv S; subst hv)
    revert a; revert Z; refine go 4 ?_; intro a S
    refine wp_ret (fr1 S Tryz.results41 ?_)
    exact qty
   (clear S a; intro h a S)
   revert a; revert Z; refine go 8 ?_; intro a S
   refine wp_ret (fr1 S Tryz.results41 ?_)
   exact qty
  (clear S a; intro h a S)
  revert a; revert Z; refine go 15 ?_; intro a S
  refine wp_ret (fr1 S Tryz.results41 ?_)
  exact qty
 (clear S a; intro h a S)
 revert a; revert Z; refine go 22 ?_; intro a S
 refine wp_ret (fr1 S Tryz.results41 ?_)
 exact qty
def qv2 (aggs : List (List UInt8)) (x : GA) (key : Vf) (gg : Grp) (G' : List Grp) (u : Value) : Prop :=
 match q13 key with
 | none => u = .tuple ⟨[.slice none 0 0, .int .i64 4]⟩ ∧ G' = [gg]
 | some k => match alG x k with
  | none => u = .tuple ⟨[.slice none 0 0, .int .i64 5]⟩ ∧ G' = [gg]
  | some e => u8t aggs e.ways gg G' u
theorem u0q {p : Prop} (h : p := by (refine ⟨?_, rfl⟩; first | (rw [if_pos (by assumption)]) | (rw [if_neg (by rw [(by assumption : (q13 key).isSome = false)]; decide)]))) : p := h
theorem qo8 (F : q01) (hT : q50 F) (bg : Nat) (av : Value) (gv : Gv) (gg : Grp) (hG : GsS bg av gv gg) (key : Vf) (v1 : Value) (h1 : TrS F 4 VhR v1 key) (r1 : q2r key) (hno : ∀ k9, q13 key = some k9 → alG gv k9 = none) :
  Ct Tryz.prog 15 [.pointer (some ⟨bg, 0, none⟩), v1] F [gg] (fun _ G' u => u = .tuple ⟨[.slice none 0 0, .int .i64 (if (q13 key).isSome = true then 5 else 4)]⟩ ∧ G' = [gg]) := by
 have t1 := q2n F hT v1 key h1 r1.rg r1.wt
 obtain ⟨bm, om, gw, rfl, hm, hw⟩ := hG
 obtain ⟨a1, c1, rfl, -⟩ := h1
 refine Ct.enter Tryz.func15 rfl Tryz.ntmps15 rfl fun w0 a S => ?_
 revert a; refine go 6 ?_; intro Z hZ a S
 (refine wp_seq_k ?_; intro Z hZ)
 (replace S := qzs S)
 revert a; refine go 2 ?_; intro a S
 (refine wv S (q1b S rfl rfl rfl) ?_; clear S a; intro a S)
 revert a; revert Z; refine go 2 ?_; intro a S
 refine q03 S rfl ?_
 revert a; revert Z; refine go 4 ?_; intro Z hZ a S
 (refine wc0 S t1 ?_; clear S a; intro v9 a w hv S; subst hv; unfold tvV at S)
 revert a; revert Z; refine go 13 ?_; intro Z hZ a S
 refine q00 S rfl ?_ ?_ <;> intro h
 ·revert a; refine go 5 ?_; intro a S
  refine wp_ret ?_
  (first | (replace S := qdn S.drop1) | (replace S := qdn S))
  refine q08 S (q0v Tryz.results15 (RV.tmp S rfl) (RV.tmp S rfl)) ?_
  exact u0q
 refine wp_skip ?_
 (refine hZ _ _ ?_; clear hZ Z)
 (refine wp_seq_k ?_; intro Z hZ)
 (obtain ⟨k9, hk⟩ := Option.isSome_iff_exists.1 (by assumption : (q13 key).isSome = true); have hmg : q4g (gvM gv) k9 = none := (by rw [q6f, hno k9 hk]; rfl); rw [hk] at S)
 revert a; refine go 6 ?_; intro a S
 (refine wv S (q3h (enc := kS) (k := k9) S rfl rfl rfl hm) ?_; clear S a; intro a S; rw [hmg] at S)
 revert a; refine go 3 ?_; intro a S
 (refine q0a S rfl rfl rfl rfl ?_; clear S a; intro b8 a w S)
 (refine wso S rfl rfl ?_; clear S; intro w S)
 revert a; revert Z; refine go 6 ?_; intro Z hZ Z hZ a S
 (refine wv S (q0j (c := true) (q09 S rfl) (by rfl)) ?_; clear S a; intro a S)
 revert a; revert Z; refine go 2 ?_; intro a S
 refine q0h S rfl ?_
 revert a; refine go 5 ?_; intro a S
 refine wp_ret ?_
 (first | (replace S := qdn S.drop1) | (replace S := qdn S))
 refine q08 S (q0v Tryz.results15 (RV.tmp S rfl) (RV.tmp S rfl)) ?_
 exact u0q
theorem qid (F : q01) (hT : q50 F) (hE : qf6 F) (bg : Nat) (av : Value) (gv : Gv) (gg : Grp) (aggs : List (List UInt8)) (x : GA) (hG : GsS bg av gv gg) (hA : LiM F 1 StR av aggs) (h8 : aggs.length ≤ 8) (hkn : aggs.all q31 = true) (hX : GvR F x gv) (hI : GInv aggs x) (hcn : ∀ p ∈ x, p.2.ways.length ≤ 1000000000) (key : Vf) (v1 : Value) (h1 : TrS F 4 VhR v1 key) (r1 : q2r key) :
  Ct Tryz.prog 15 [.pointer (some ⟨bg, 0, none⟩), v1] F [gg] (fun _ G' u => qv2 aggs x key gg G' u) := by
 unfold qv2
 cases hk : q13 key with
 | none =>
  refine (qo8 F hT bg av gv gg hG key v1 h1 r1 (fun k9 h => by rw [hk] at h; cases h)).mono fun _ _ _ h => ?_
  rw [hk] at h; exact h
 | some k =>
  dsimp only
  rcases hX.get k with ⟨g1, g2⟩ | ⟨e, e', g1, g2, g3, g4⟩
  ·rw [g1]
   refine (qo8 F hT bg av gv gg hG key v1 h1 r1 (fun k9 h => by rw [hk] at h; cases h; exact g2)).mono fun _ _ _ h => ?_
   rw [hk] at h; exact h
  ·rw [g1]
   have hm := q4k g1
   exact qqv F hT hE bg av gv gg aggs hG hA h8 hkn key v1 h1 r1 k hk e' e g2 g3 g4 (hI.all _ hm) (hcn _ hm)
theorem qsl (F : q01) (f : Value) : Ct Tryz.prog 156 [.slice none 0 0, .int .i64 0, .int .i64 0, f] F [] (fun _ _ _ => True) := by
 refine Ct.enter Tryz.func156 rfl Tryz.ntmps156 rfl fun w0 a S => ?_
 revert a; refine go 7 ?_; intro a S
 refine q04 (fun m a w' => m = 0 ∧ St 53 [(2, .int .i64 0), (8, .int .i64 1)] w0 F [] F [] a w') ?_ ?_
 ·(refine ⟨0, rfl, ?_⟩; refine S.keep ?_; exact zk)
 (clear S; rintro m a w ⟨rfl, S⟩)
 revert a; refine go 4 ?_; intro Z hZ Z hZ a S
 (refine wv S (q0j (c := false) (q09 S rfl) (by rfl)) ?_; clear S a; intro a S)
 revert a; revert Z; refine go 2 ?_; intro a S
 refine q03 S rfl ?_
 (refine wp_exit ?_; conv => whnf)
 refine q1m S (q0x Tryz.results156) ?_
 trivial
theorem qmw (F : q01) (f : Value) : Ct Tryz.prog 122 [.slice none 0 0, .int .i64 0, f] F [] (fun _ _ _ => True) := by
 refine Ct.enter Tryz.func122 rfl Tryz.ntmps122 rfl fun w0 a S => ?_
 revert a; refine go 12 ?_; intro Z hZ a S
 refine q04 (fun m a w' => m = 0 ∧ St 63 [(0, .slice none 0 0), (1, .int .i64 0), (2, f), (6, .int .i64 20), (7, .int .i64 0), (8, .int .i64 20)] w0 F [] F [] a w') ?_ ?_
 ·(refine ⟨0, rfl, ?_⟩; refine S.keep ?_; exact zk)
 (clear S; rintro m a w ⟨rfl, S⟩)
 revert a; refine go 4 ?_; intro Z hZ Z hZ a S
 (refine wv S (q0j (c := false) (q09 S rfl) (by rfl)) ?_; clear S a; intro a S)
 revert a; revert Z; refine go 2 ?_; intro a S
 refine q03 S rfl ?_
 (refine wp_exit ?_; conv => whnf)
 clear hZ Z
 revert a; revert Z; refine go 6 ?_; intro Z hZ a S
 (refine wc0 S ((qsl F f).mono (Post' := fun _ _ u => True) fun _ _ _ _ => trivial) ?_; clear S a; intro v9 a w hv S)
 revert a; revert Z; refine go 3 ?_; intro a S
 refine q04 (fun m a w' => m = 0 ∧ St 63 [(1, .int .i64 0), (6, .int .i64 20)] w0 F [] F [] a w') ?_ ?_
 ·(refine ⟨0, rfl, ?_⟩; refine S.keep ?_; exact zk)
 (clear S; rintro m a w ⟨rfl, S⟩)
 revert a; refine go 4 ?_; intro Z hZ Z hZ a S
 (refine wv S (q0j (c := false) (q09 S rfl) (by rfl)) ?_; clear S a; intro a S)
 revert a; revert Z; refine go 2 ?_; intro a S
 refine q03 S rfl ?_
 (refine wp_exit ?_; conv => whnf)
 refine q1m S (q0x Tryz.results122) ?_
 trivial
theorem qk5 (F : q01) : Ct Tryz.prog 79 [.slice none 0 0, .func (.func 40) ⟨[]⟩ ⟨[]⟩] F [] (fun _ _ _ => True) := by
 refine Ct.enter Tryz.func79 rfl Tryz.ntmps79 rfl fun w0 a S => ?_
 revert a; refine go 5 ?_; intro a S
 (refine wc0 S ((qmw F _).mono (Post' := fun _ _ u => True) fun _ _ _ _ => trivial) ?_; clear S a; intro v9 a w hv S)
 refine wpList_nil ?_
 refine q1m S (q0x Tryz.results79) ?_
 trivial
theorem qmp (F : q01) : Ct Tryz.prog 80 [.slice none 0 0, .func (.func 81) ⟨[]⟩ ⟨[]⟩] F [] (fun _ _ u => u = .slice none 0 0) := by
 refine Ct.enter Tryz.func80 rfl Tryz.ntmps80 rfl fun w0 a S => ?_
 revert a; refine go 8 ?_; intro Z hZ Z hZ a S
 (refine wv S (q0j (c := true) (q09 S rfl) (by rfl)) ?_; clear S a; intro a S)
 revert a; revert Z; refine go 2 ?_; intro a S
 refine q0h S rfl ?_
 revert a; refine go 5 ?_; intro a S
 refine wp_ret (fr1 S Tryz.results80 ?_)
 rfl
theorem qoz (F : q01) : Ct Tryz.prog 45 [.slice none 0 0] F [] (fun _ _ u => u = .slice none 0 0) := by
 have hs := (qk5 F).mono (Post' := fun _ _ u => True) fun _ _ _ _ => trivial
 have hc := qmp F
 refine Ct.enter Tryz.func45 rfl Tryz.ntmps45 rfl fun w0 a S => ?_
 revert a; refine go 16 ?_; intro Z hZ a S
 refine q04 (fun m a w' => m = 0 ∧ St 22 [(3, .slice none 0 0), (7, .int .i64 0), (8, .int .i64 0)] w0 F [] F [] a w') ?_ ?_
 ·(refine ⟨0, rfl, ?_⟩; refine S.keep ?_; exact zk)
 (clear S; rintro m a w ⟨rfl, S⟩)
 refine q1i fun Z hZ => ?_
 (refine wv S (q0j (c := false) (q09 S rfl) (by rfl)) ?_; clear S a; intro a S)
 revert a; revert Z; refine go 2 ?_; intro a S
 (refine wp_seq_k ?_; intro Z hZ)
 refine q03 S rfl ?_
 (refine wp_exit ?_; conv => whnf)
 clear hZ Z
 revert a; revert Z; refine go 3 ?_; intro Z hZ a S
 (refine wc0 S hs ?_; clear S a; intro v9 a w hv S)
 revert a; revert Z; refine go 4 ?_; intro Z hZ a S
 (refine wc0 S hc ?_; clear S a; intro v9 a w hv S; subst hv)
 revert a; revert Z; refine go 3 ?_; intro a S
 refine wp_ret (fr1 S Tryz.results45 ?_)
 rfl
theorem qfe (F : q01) (bg : Nat) (av : Value) (gg : Grp) (hG : GsS bg av [] gg) : Ct Tryz.prog 25 [.pointer (some ⟨bg, 0, none⟩)] F [gg] (fun _ G' u => u = .slice none 0 0 ∧ G' = [gg]) := by
 obtain ⟨bm, om, gw, rfl, hm, hw⟩ := hG
 refine Ct.enter Tryz.func25 rfl Tryz.ntmps25 rfl fun w0 a S => ?_
 revert a; refine go 5 ?_; intro Z hZ a S
 (refine wp_seq_k ?_; intro Z hZ)
 (replace S := qzs S)
 revert a; refine go 2 ?_; intro a S
 (refine wv S (q1b S rfl rfl rfl) ?_; clear S a; intro a S)
 revert a; revert Z; refine go 2 ?_; intro a S
 refine q03 S rfl ?_
 revert a; revert Z; refine go 12 ?_; intro Z hZ Z hZ a S
 (refine q4d (enc := kS) S rfl rfl rfl rfl rfl (by exact S.has inferInstance) hm ?_; clear S a; intro b12 oi a w hit S)
 revert a; revert Z; refine go 3 ?_; intro a S
 refine q04 (fun m a w' => ∃ (oi : Obj), m = 0 ∧ ItO kS (gvM []) bm om [] none oi ∧ St 24 [(3, .slice none 0 0), (12, ptr b12)] w0 F (keys [(bg, .cells ⟨[av, .map (some bm)]⟩ 75 (0, 0)) :: (bm, om) :: gw]) F [[(b12, oi)], [(bg, .cells ⟨[av, .map (some bm)]⟩ 75 (0, 0))], [(bm, om)], gw] a w') ?_ ?_
 ·(refine ⟨0, oi, rfl, hit, ?_⟩; refine S.keep ?_; exact zk)
 (clear S hit; rintro m a w ⟨oi, rfl, hit, S⟩)
 refine q1i fun Z hZ => ?_
 (refine q7j (enc := kS) S rfl rfl rfl rfl rfl (by exact S.has inferInstance) hit ?_; clear S a; intro y oi2 a w hnx S; obtain rfl : y = none := (by rcases hnx with ⟨h9, -⟩ | ⟨p, l1, l2, -, h9, -⟩; exact h9; cases l1 <;> cases h9))
 revert a; refine go 1 ?_; intro a S
 skip
 revert a; revert Z; refine go 2 ?_; intro a S
 (refine wp_seq_k ?_; intro Z hZ)
 refine q03 S rfl ?_
 (refine wp_exit ?_; conv => whnf)
 clear hZ Z
 revert a; revert Z; refine go 3 ?_; intro Z hZ a S
 (refine wc0 S (qoz F) ?_; clear S a; intro v9 a w hv S; subst hv)
 revert a; revert Z; refine go 3 ?_; intro a S
 refine wp_ret ?_
 (replace S := qdn S.drop1)
 refine q08 S (q0c Tryz.results25 (RV.tmp S rfl)) ?_
 exact ⟨rfl, rfl⟩
section
variable {n : Sz} {L : List (Nat × Value)} {w0 : World} {F0 : q01} {K0 : List Nat} {F : q01} {g gn : Grp} {R : List Grp} {a : Act} {w : World}
theorem q78 (S : St n L w0 F0 K0 F (g :: gn :: R) a w) : ∃ F', (∀ b o, F b = some o → F' b = some o) ∧ (∀ b o, gh gn b = some o → F' b = some o) ∧ St n L w0 F0 K0 F' (g :: R) a w := by
 have S2 := qaq S
 refine ⟨F.add gn, q2h (G1 := []) S2, ?_, St.freeze (G1 := []) S2⟩
 intro b o e
 unfold gh q01.add at *
 cases hf : List.find? (fun p => Nat.beq p.1 b) gn with
 | none => rw [hf] at e; cases e
 | some p => rw [hf] at e; exact e
end
def u0d (s : List UInt8) : Vv := (⟨4, 0, s⟩, .nil)
abbrev vcl (h : VH) : List Value := [.int .u8 (h.k : Int), .int .i64 h.n, .string (bs h.s), .slice none 0 0]
theorem qyr (F : q01) (h : VH) (hs : h.s.length ≤ 140737488355328) : RoR 4 VhR F (h, .nil) (vcl h) := q7c F h.k h.n h.s hs
theorem q69 {F : q01} {b : Nat} {e : TypeId} {l : List VH} {cs : List Value} (hb : F b = some (.cells ⟨cs⟩ e (0, 0))) (hc : cs = l.flatMap vcl) (hs : ∀ h ∈ l, h.s.length ≤ 140737488355328) (hl : l.length ≤ 140737488355328) : TrS F 4 VhR (.slice (some ⟨b, 0, none⟩) l.length l.length) (q1s (l.map fun h => ((h, .nil) : Vv))) := by
 have hL : LiC F 4 (RoR 4 VhR) cs (l.map fun h => ((h, .nil) : Vv)) := by
  subst hc
  clear hb hl
  induction l with
  | nil => rfl
  | cons h r ih => exact ⟨vcl h, r.flatMap vcl, rfl, rfl, qyr F h (hs h (qaH ..)), ih fun x hx => hs x (List.mem_cons_of_mem _ hx)⟩
 have h2 := qi1 (l := l.map fun h => ((h, .nil) : Vv)) hb hL (by rw [List.length_map]; exact hl)
 rw [List.length_map] at h2
 exact q8c h2
def smL (l : List VH) : Bool := l.all fun h => decide (-9223372036854775808 ≤ h.n) && decide (h.n ≤ 9223372036854775807) && decide (h.s.length ≤ 5000)
theorem q7l {l : List VH} (h : smL l = true) (hl : l.length ≤ 100) : q2r (q1s (l.map fun h => ((h, .nil) : Vv))) := by
 unfold smL at h
 have h1 : ∀ x ∈ l, (-9223372036854775808 ≤ x.n ∧ x.n ≤ 9223372036854775807) ∧ x.s.length ≤ 5000 := fun x hx => by
  have := List.all_eq_true.1 h x hx
  simpa using this
 have hw : wtB (q1s (l.map fun h => ((h, .nil) : Vv))) ≤ l.length * 20040 := by
  clear h hl
  induction l with
  | nil => exact Nat.le_refl _
  | cons x r ih =>
   have h2 := ih fun y hy => h1 y (List.mem_cons_of_mem _ hy)
   have h3 := (h1 x (qaH ..)).2
   show (wtH x + 0) + wtB (q1s (r.map fun h => ((h, .nil) : Vv))) ≤ (r.length + 1) * 20040
   unfold wtH
   omega
 refine ⟨?_, by omega, ?_, ?_⟩
 ·clear h hl hw
  induction l with
  | nil => trivial
  | cons x r ih => exact ⟨(h1 x (qaH ..)).1, trivial, ih fun y hy => h1 y (List.mem_cons_of_mem _ hy)⟩
 ·exact qd4 fun x hx => by
   obtain ⟨h, -, rfl⟩ := List.mem_map.1 hx
   exact qcs h
 ·rw [q2j, List.length_map]; omega
theorem q9a (aggs : List (List UInt8)) : GInv aggs [] := ⟨List.nodup_nil, fun p hp => by cases hp⟩
abbrev hT (s : List UInt8) : VH := ⟨4, 0, s⟩
abbrev hN (n : Int) : VH := ⟨2, n, []⟩
def rwH (l : List VH) : Vf := q1s (l.map fun h => ((h, .nil) : Vv))
def agA : List (List UInt8) := [q47, q5u, qkp]
def kA : Vf := rwH [hT [107]]
def oA : Vf := rwH [hN 1]
def tA : Vf := rwH [hN 2]
def a1A : Vf := rwH [hN 1, hN 5, hT [97]]
def a2A : Vf := rwH [hN 1, hN (-2), hT [98]]
def k9A : List UInt8 := [34, 107, 34, 59]
def w1A : List UInt8 := [49, 59]
def w2A : List UInt8 := [50, 59]
def x1A : GA := [(k9A, ⟨kA, [(w1A, a1A)]⟩)]
def x2A : GA := [(k9A, ⟨kA, [(w1A, a1A), (w2A, a2A)]⟩)]
theorem eA0 : q7y agA = 0 := by kernel_rfl
theorem eA1 : qam agA [] kA oA a1A = 0 := by kernel_rfl
theorem eA2 : qds agA [] kA oA a1A = x1A := by kernel_rfl
theorem eA3 : qam agA x1A kA tA a2A = 0 := by kernel_rfl
theorem eA4 : qds agA x1A kA tA a2A = x2A := by kernel_rfl
theorem eA5 : qdo x2A kA tA = 0 := by kernel_rfl
theorem eA6 : qfr x2A kA tA = x1A := by kernel_rfl
theorem eA7 : qdo x1A kA oA = 0 := by kernel_rfl
theorem eA8 : qfr x1A kA oA = [] := by kernel_rfl
theorem eA9 : q13 kA = some k9A := by kernel_rfl
def r2A : Vf := rwH [hN 2, hN 3, hT [98]]
def r1A : Vf := rwH [hN 1, hN 5, hT [97]]
theorem eB1 : (q43 agA [(w1A, a1A), (w2A, a2A)] 0) = (0, qmf 2) := by kernel_rfl
theorem eB2 : (q43 agA [(w1A, a1A), (w2A, a2A)] 1) = (0, qmf 3) := by kernel_rfl
theorem eB3 : (q43 agA [(w1A, a1A), (w2A, a2A)] 2) = (0, u0d [98]) := by kernel_rfl
theorem eC1 : (q43 agA [(w1A, a1A)] 0) = (0, qmf 1) := by kernel_rfl
theorem eC2 : (q43 agA [(w1A, a1A)] 1) = (0, qmf 5) := by kernel_rfl
theorem eC3 : (q43 agA [(w1A, a1A)] 2) = (0, u0d [97]) := by kernel_rfl
def GO (F : q01) (bg : Nat) (av : Value) (x : GA) (gg : Grp) : Prop := ∃ gv, GsS bg av gv gg ∧ GvR F x gv
theorem GO.mono {F F' : q01} {bg : Nat} {av : Value} {x : GA} {gg : Grp} (hF : ∀ b o, F b = some o → F' b = some o) (h : GO F bg av x gg) : GO F' bg av x gg := by
 obtain ⟨gv, h1, h2⟩ := h
 exact ⟨gv, h1, h2.mono hF⟩
section
variable {P : Program} {Q : Exit → Act → World → Prop} {n : Sz} {L : List (Nat × Value)} {w0 : World} {F0 : q01} {K0 : List Nat} {F : q01} {G : List Grp} {a : Act} {w : World}
variable {ops : Array Oper} {rest : List Oper} {o : Oper} {d : Nat} {x : Operand} {xs : Array Operand} {ts : Array TypeId} {f : FuncId} {fi ca vs args : List Value}
theorem qhv {Gr : List Grp} {gg : Grp} {bg : Nat} {av r : Value} {X X' : GA} [hf : q0b P f] (S : St n L w0 F0 K0 F G a w) (hg : o.guard = none) (hd : o.dst = some d) (hn : Nat.blt d n.sz = true)
  (ho : o.op = .call { callee := .value x, args := xs, argTypes := ts }) (hx : ev L x = some (.func (.func f) ⟨fi⟩ ⟨ca⟩)) (hxs : evs L xs.toList = some vs) (hO : GO F bg av X gg) (C : ∀ gv, GsS bg av gv gg → GvR F X gv → Ct P f args F [gg] (fun _ G' u => u = r ∧ GsN bg av X X' gv G')) (ha : fi ++ vs ++ ca = args) (hp : G.flatten.Perm (gg :: Gr).flatten)
  (k : ∀ gg' F' a' w', GO F' bg av X' gg' → (∀ b o, F b = some o → F' b = some o) → St n ((d, r) :: L) w0 F0 K0 F' (gg' :: Gr) a' w' → wpList P ops Q rest a' w') : wpList P ops Q (o :: rest) a w := by
 obtain ⟨gv, hG, hX⟩ := hO
 refine q02 (Gs := [gg]) (Gr := Gr) S hg hd hn ho hx hxs (C gv hG hX) ha (hp.trans (by simp)) fun v G' a' w' hv S' => ?_
 obtain ⟨rfl, gg', gn, gv', rfl, h1, h2⟩ := hv
 obtain ⟨F', hF, hgn, S2⟩ := q78 S'
 exact k gg' F' a' w' ⟨gv', h1, h2 F' hgn (hX.mono hF)⟩ hF S2
theorem qrx {l : List (List UInt8)} [hf : q0b P f] (S : St n L w0 F0 K0 F G a w) (hg : o.guard = none) (hd : o.dst = some d) (hn : Nat.blt d n.sz = true)
  (ho : o.op = .call { callee := .value x, args := xs, argTypes := ts }) (hx : ev L x = some (.func (.func f) ⟨fi⟩ ⟨ca⟩)) (hxs : evs L xs.toList = some vs) (C : Ct P f args F [] (fun _ G' u => u5g l G' u)) (h0 : q7y l = 0) (ha : fi ++ vs ++ ca = args)
  (k : ∀ bg av gg F' a' w', GO F' bg av [] gg → LiM F' 1 StR av l → (∀ b o, F b = some o → F' b = some o) → St n ((d, .tuple ⟨[.pointer (some ⟨bg, 0, none⟩), .int .i64 0]⟩) :: L) w0 F0 K0 F' (gg :: G) a' w' → wpList P ops Q rest a' w') : wpList P ops Q (o :: rest) a w := by
 refine q02 (Gs := []) (Gr := G) S hg hd hn ho hx hxs C ha (by simp) fun v G' a' w' hv S' => ?_
 rcases hv with ⟨h9, -⟩ | ⟨-, b, av, gg, ga, rfl, rfl, h1, h2⟩
 ·exact absurd h0 h9
 ·obtain ⟨F', hF, hgn, S2⟩ := q78 S'
  exact k b av gg F' a' w' ⟨[], h1, trivial⟩ (h2.mono hgn) hF S2
theorem qie {Gr : List Grp} {gg : Grp} {bg : Nat} {av : Value} {X : GA} {aggs : List (List UInt8)} {key r : Vf} {kx : List UInt8} {e : En} [hf : q0b P f] (S : St n L w0 F0 K0 F G a w) (hg : o.guard = none) (hd : o.dst = some d) (hn : Nat.blt d n.sz = true)
  (ho : o.op = .call { callee := .value x, args := xs, argTypes := ts }) (hx : ev L x = some (.func (.func f) ⟨fi⟩ ⟨ca⟩)) (hxs : evs L xs.toList = some vs) (hO : GO F bg av X gg) (C : ∀ gv, GsS bg av gv gg → GvR F X gv → Ct P f args F [gg] (fun _ G' u => qv2 aggs X key gg G' u)) (ha : fi ++ vs ++ ca = args) (hp : G.flatten.Perm (gg :: Gr).flatten)
  (hk : q13 key = some kx) (he : alG X kx = some e) (h0 : ∀ i, i < aggs.length → (q43 aggs e.ways i).1 = 0) (hr : q1s ((List.range aggs.length).map fun i => (q43 aggs e.ways i).2) = r)
  (k : ∀ v F' a' w', TrS F' 4 VhR v r → (∀ b o, F b = some o → F' b = some o) → St n ((d, .tuple ⟨[v, .int .i64 0]⟩) :: L) w0 F0 K0 F' (gg :: Gr) a' w' → wpList P ops Q rest a' w') : wpList P ops Q (o :: rest) a w := by
 obtain ⟨gv, hG, hX⟩ := hO
 refine q02 (Gs := [gg]) (Gr := Gr) S hg hd hn ho hx hxs (C gv hG hX) ha (hp.trans (by simp)) fun v G' a' w' hv S' => ?_
 unfold qv2 at hv
 rw [hk] at hv
 simp only [he] at hv
 rcases hv with ⟨i, hi, h1, -⟩ | ⟨-, v, go, rfl, rfl, h2⟩
 ·exact absurd (h0 i hi) h1
 ·obtain ⟨F', hF, hgn, S2⟩ := q78 S'
  rw [hr] at h2
  exact k v F' a' w' (TrS.mono hgn h2.r) hF S2
theorem qqj {Gr : List Grp} {gg : Grp} {bg : Nat} {av : Value} {X : GA} {aggs : List (List UInt8)} {key : Vf} {kx : List UInt8} [hf : q0b P f] (S : St n L w0 F0 K0 F G a w) (hg : o.guard = none) (hd : o.dst = some d) (hn : Nat.blt d n.sz = true)
  (ho : o.op = .call { callee := .value x, args := xs, argTypes := ts }) (hx : ev L x = some (.func (.func f) ⟨fi⟩ ⟨ca⟩)) (hxs : evs L xs.toList = some vs) (hO : GO F bg av X gg) (C : ∀ gv, GsS bg av gv gg → GvR F X gv → Ct P f args F [gg] (fun _ G' u => qv2 aggs X key gg G' u)) (ha : fi ++ vs ++ ca = args) (hp : G.flatten.Perm (gg :: Gr).flatten)
  (hk : q13 key = some kx) (he : alG X kx = none)
  (k : ∀ a' w', St n ((d, .tuple ⟨[.slice none 0 0, .int .i64 5]⟩) :: L) w0 F0 K0 F (gg :: Gr) a' w' → wpList P ops Q rest a' w') : wpList P ops Q (o :: rest) a w := by
 obtain ⟨gv, hG, hX⟩ := hO
 refine q02 (Gs := [gg]) (Gr := Gr) S hg hd hn ho hx hxs (C gv hG hX) ha (hp.trans (by simp)) fun v G' a' w' hv S' => ?_
 unfold qv2 at hv
 rw [hk] at hv
 simp only [he] at hv
 obtain ⟨rfl, rfl⟩ := hv
 exact k a' w' S'
end
