/- Walks. -/
import Derived.Test.YtbhipiepfclneaaGreatDoorQ04
namespace Go.Wk
open Go
set_option linter.unusedVariables false
set_option linter.unusedSimpArgs false
section
variable {P : Program} {ops : Array Oper} {Q : Exit → Act → World → Prop} {Kw : World → Prop}
def YM (P : Program) (ops : Array Oper) (Kw : World → Prop) (lt : Bool) (o : Oper) (v : Value) (a : Act) : Prop :=
 match lt with | true => ∀ w, Kw w → YA P ops o v a w | false => ∀ w, YA P ops o v a w
theorem YM.at {lt o v a w} (h : YM P ops Kw lt o v a) (hw : lt = true → Kw w) : YA P ops o v a w := by cases lt <;> first | exact h w | exact h w (hw rfl)
theorem qqk {j : Nat} {oi oj : Oper} {v : Value} {w : World} (hj : ops[j]? = some oj) (hap : oi.apart ops oj = true)
  (hsi : ∀ cs b, oi.op ≠ .select cs b) (hsj : ∀ cs b, oj.op ≠ .select cs b) {K : Act → World → Prop} {a : Act} {lt : Bool}
  (hy : YM P ops Kw lt oi v a)
  (h : wpOp P ops (Qn Q) j K (a.put oi.dst v) w) :
  wpOp P ops (Qn Q) j (fun a' w' => YM P ops Kw lt oi v a' ∧ K (a'.put oi.dst v) w') a w := by
 have e : ∀ (b : Act), YK P ops (fun w => lt = true → Kw w) false oi v b w ↔ YM P ops Kw lt oi v b := fun b => by
  cases lt
  ·exact ⟨fun h w => h w (fun h => by cases h), fun h w _ => h w⟩
  ·exact ⟨fun h w hw => h w fun _ => hw, fun h w hw => h w (hw rfl)⟩
 have h2 := qf5 (Kw := fun w => lt = true → Kw w) hj hap hsi hsj ((e a).2 hy) (fun h => by cases h) h
 refine wpOp_mono (fun a' w' h3 => ⟨?_, h3.2⟩) h2
 have h4 := h3.1
 cases lt
 ·exact fun w => h4 w (fun h => by cases h)
 ·exact fun w hw => h4 w fun _ => hw
def q64 (brk : List Nat) (listed : Array Bool) : Prop := ∀ b ∈ brk, listed.getD b false = false
def q6l (P : Program) (ops : Array Oper) (Q : Exit → Act → World → Prop) (Kw : World → Prop) (brk : List Nat) : Nat → Array Bool → Act → World → Prop
 | 0, listed, a, w => (q64 brk listed → Kw w) ∧ Region.ready .any ops listed = [] ∧ Q .normal a w
 | fuel + 1, listed, a, w => (q64 brk listed → Kw w) ∧ (Region.ready .any ops listed = [] → Q .normal a w) ∧ ∀ i ∈ Region.ready .any ops listed, wpOp P ops Q i (q6l P ops Q Kw brk fuel (listed.setIfInBounds i true)) a w
theorem q6l.any {brk : List Nat} : ∀ {fuel : Nat} {listed : Array Bool} {a : Act} {w : World}, q6l P ops Q Kw brk fuel listed a w → wpAny P .any ops Q fuel listed a w
 | 0, _, _, _, h => h.2
 | fuel + 1, _, _, _, h => ⟨h.2.1, fun i hi => wpOp_mono (fun _ _ h => q6l.any h) (h.2.2 i hi)⟩
theorem q6l.kw {brk : List Nat} {fuel : Nat} {listed : Array Bool} {a : Act} {w : World} (h : q6l P ops Q Kw brk fuel listed a w) : q64 brk listed → Kw w := by cases fuel <;> exact h.1
theorem q3t {listed : Array Bool} {i j : Nat} (h : i ≠ j) (b c : Bool) : (listed.setIfInBounds i b).getD j c = listed.getD j c := by
 simp [Array.getD_eq_getD_getElem?, Array.getElem?_setIfInBounds, h]
theorem qfn {brk : List Nat} {i : Nat} {oi : Oper} {v : Value} {lt : Bool} (hi : ops[i]? = some oi) (hsel : ∀ (j : Nat) (o : Oper) cs b, ops[j]? = some o → o.op ≠ .select cs b)
  (hib : ∀ b ∈ brk, i ≠ b) (hbrk : lt = true → ∀ b ∈ brk, ∃ n, twB ops n b i = true) :
  ∀ (fuel : Nat) (listed : Array Bool) (a : Act) (w : World), Closed ops listed →
   (∀ j oj, ops[j]? = some oj → j ≠ i → listed.getD j true = false → (∀ e ∈ oj.after, Region.binds .any e = true → e.on ≠ i) → oi.apart ops oj = true) →
   i ∈ Region.ready .any ops listed → YM P ops Kw lt oi v a →
   q6l P ops (Qn Q) Kw brk fuel (listed.setIfInBounds i true) (a.put oi.dst v) w → q6l P ops (Qn Q) Kw brk (fuel + 1) listed a w := by
 have hset : ∀ (listed : Array Bool), q64 brk listed → q64 brk (listed.setIfInBounds i true) := fun listed hn b hb => by
  rw [q3t (hib b hb)]; exact hn b hb
 have hno : ∀ (listed : Array Bool), lt = true → Closed ops listed → i ∈ Region.ready .any ops listed → q64 brk listed := fun listed hl hc hr b hb => by
  obtain ⟨n, ht⟩ := hbrk hl b hb
  have hun := (mem_ready.1 hr).1
  cases hlb : listed.getD b false with
  | false => rfl
  | true =>
   have := q9p hc n b ht (fun ok hk e he hb' => hc b ok hk hlb e he hb')
   rw [getD_both hun] at this; cases this
 intro fuel
 induction fuel with
 | zero =>
  intro listed a w hc hfree hr hy H
  refine ⟨fun hn => H.kw (hset _ hn), fun h => (by rw [h] at hr; cases hr), fun j hj => ?_⟩
  by_cases hji : j = i
  ·subst hji; exact (hy.at fun hl => H.kw (hset _ (hno _ hl hc hr))).wpOp hi H
  ·have := ready_mono hj hji
   rw [H.2.1] at this
   cases this
 | succ fuel ih =>
  intro listed a w hc hfree hr hy H
  refine ⟨fun hn => H.kw (hset _ hn), fun h => (by rw [h] at hr; cases hr), fun j hj => ?_⟩
  by_cases hji : j = i
  ·subst hji; exact (hy.at fun hl => H.kw (hset _ (hno _ hl hc hr))).wpOp hi H
  ·have h1 := H.2.2 j (ready_mono hj hji)
   obtain ⟨hjun, oj, hoj, hall⟩ := mem_ready.1 hj
   have hun := (mem_ready.1 hr).1
   have hnot : ∀ e ∈ oj.after, Region.binds .any e = true → e.on ≠ i := fun e he hb heq => by
    have h1 := hall e he hb
    rw [heq] at h1
    have := getD_both hun
    rw [h1] at this; cases this
   have h2 := qqk hoj (hfree j oj hoj hji hjun hnot) (fun cs b => hsel i oi cs b hi) (fun cs b => hsel j oj cs b hoj) hy h1
   refine wpOp_mono (fun a' w' h3 => ih (listed.setIfInBounds j true) a' w' (hc.set hj) (fun k ok hk hki hun' hno => ?_) (ready_mono hr (Ne.symm hji)) h3.1 ?_) h2
   ·refine hfree k ok hk hki ?_ hno
    by_cases hjk : j = k
    ·subst hjk; exact hjun
    ·rw [getD_set_ne true hjk] at hun'; exact hun'
   ·rw [Array.setIfInBounds_comm _ _ hji]
    exact h3.2
inductive Od where
  | nil
  | one (k : Nat) (r : Od)
  | two (j k : Nat) (rj rk : Od)
  | three (i j k : Nat) (ri rj rk : Od)
def q22 (ops : Array Oper) (pf late brk : List Nat) : Nat → Od → Array Bool → Bool
 | 0, .nil, listed => (Region.ready .any ops listed).isEmpty
 | n + 1, .one k r, listed =>
  (bif pf.contains k then (Region.ready .any ops listed).contains k && Region.free .any ops listed k && brk.all (fun b => decide (k ≠ b)) && (bif late.contains k then brk.all (fun b => twB ops ops.size b k) else true)
   else decide (Region.ready .any ops listed = [k])) && q22 ops pf late brk n r (listed.setIfInBounds k true)
 | n + 1, .two j k rj rk, listed => decide (Region.ready .any ops listed = [j, k]) && q22 ops pf late brk n rj (listed.setIfInBounds j true) && q22 ops pf late brk n rk (listed.setIfInBounds k true)
 | n + 1, .three i j k ri rj rk, listed => decide (Region.ready .any ops listed = [i, j, k]) && q22 ops pf late brk n ri (listed.setIfInBounds i true) && q22 ops pf late brk n rj (listed.setIfInBounds j true) && q22 ops pf late brk n rk (listed.setIfInBounds k true)
 | _, _, _ => false
def qxo (ops : Array Oper) (pf late brk : List Nat) (ord : Od) : Bool := Region.noSelect ops && brk.all (fun b => Nat.blt b ops.size) && q22 ops pf late brk ops.size ord (Array.replicate ops.size false)
def qfa (P : Program) (ops : Array Oper) (k : Nat) (K : Act → World → Prop) (a : Act) (w : World) : Prop :=
 ∃ o, ops[k]? = some o ∧ if Region.wanted o (yielded ops a.tmps) then o.wp P a w K (Qn (fun _ _ _ => False)) else K (a.put o.dst undef) w
def wpM (P : Program) (ops : Array Oper) (Q : Exit → Act → World → Prop) (Kw : World → Prop) (pf late brk : List Nat) : Bool → Od → Act → World → Prop
 | live, .nil, a, w => (live = true → Kw w) ∧ Q .normal a w
 | live, .one k r, a, w => if pf.contains k = true then ∃ o, ops[k]? = some o ∧ ∃ v, YM P ops Kw (late.contains k) o v a ∧ wpM P ops Q Kw pf late brk live r (a.put o.dst v) w
  else (live = true → Kw w) ∧ qfa P ops k (wpM P ops Q Kw pf late brk (live && !brk.contains k) r) a w
 | live, .two j k rj rk, a, w => (live = true → Kw w) ∧ qfa P ops j (wpM P ops Q Kw pf late brk (live && !brk.contains j) rj) a w ∧ qfa P ops k (wpM P ops Q Kw pf late brk (live && !brk.contains k) rk) a w
 | live, .three i j k ri rj rk, a, w => (live = true → Kw w) ∧ qfa P ops i (wpM P ops Q Kw pf late brk (live && !brk.contains i) ri) a w ∧ qfa P ops j (wpM P ops Q Kw pf late brk (live && !brk.contains j) rj) a w ∧ qfa P ops k (wpM P ops Q Kw pf late brk (live && !brk.contains k) rk) a w
theorem q3i {k : Nat} {K K' : Act → World → Prop} {a : Act} {w : World} (h : qfa P ops k K a w) (hk : ∀ a w, K a w → K' a w) : wpOp P ops (Qn Q) k K' a w := by
 obtain ⟨o, h0, h⟩ := h
 unfold wpOp
 simp only [h0]
 split
 ·rename_i hw
  rw [if_pos hw] at h
  refine .inl (Oper.wp_mono (fun a' w' h' => hk a' w' h') ?_)
  unfold Oper.wp at *
  generalize (execOp a.eval o).run P w = r at *
  unfold Oper.upon at *
  split at h
  ·exact h
  ·exact h
  ·exact h
  ·refine Calls.mono h fun e w'' he => ?_
   cases e with
   | returned v => exact he
   | panicked c => exact he.elim
   | outgrown => obtain ⟨_, _, h⟩ := he; exact h.elim
  ·exact Rows.mono h fun v w'' he => he
  ·exact h.elim
  ·exact h.elim
 ·rename_i hw
  rw [if_neg hw] at h
  exact hk _ _ h
theorem q3w {pf late brk : List Nat} (hs : Region.noSelect ops = true) (hbs : ∀ b ∈ brk, b < ops.size) : ∀ (n : Nat) (live : Bool) (ord : Od) (listed : Array Bool) (a : Act) (w : World), Closed ops listed → listed.size = ops.size → (q64 brk listed → live = true) →
  q22 ops pf late brk n ord listed = true → wpM P ops Q Kw pf late brk live ord a w → q6l P ops (Qn Q) Kw brk n listed a w
 | 0, live, .nil, listed, _, _, _, _, hL, hB, h => ⟨fun hn => h.1 (hL hn), by simpa [q22] using hB, h.2⟩
 | 0, live, .one _ _, listed, _, _, _, _, hL, hB, h => by simp [q22] at hB
 | 0, live, .two _ _ _ _, listed, _, _, _, _, hL, hB, h => by simp [q22] at hB
 | 0, live, .three _ _ _ _ _ _, listed, _, _, _, _, hL, hB, h => by simp [q22] at hB
 | n + 1, live, .nil, listed, _, _, _, _, hL, hB, h => by simp [q22] at hB
 | n + 1, live, .two j k rj rk, listed, a, w, hc, hz, hL, hB, h => by
  have hset : ∀ x ∈ Region.ready .any ops listed, (q64 brk (listed.setIfInBounds x true) → (live && !brk.contains x) = true) := fun x hx hn => by
   have hxs : x < listed.size := by
    rw [hz]; obtain ⟨_, o, ho, _⟩ := mem_ready.1 hx; exact (Array.getElem?_eq_some_iff.1 ho).1
   have hxb : x ∉ brk := fun hb => by
    have := hn x hb
    simp [Array.getD_eq_getD_getElem?, Array.getElem?_setIfInBounds, hxs] at this
   have : live = true := hL fun b hb => by
    have h2 := hn b hb
    have hne : x ≠ b := fun e => hxb (by rw [e]; exact hb)
    rw [q3t hne] at h2; exact h2
   simp [this, hxb]
  simp only [q22, Bool.and_eq_true, decide_eq_true_eq] at hB
  obtain ⟨⟨hb, hj⟩, hk⟩ := hB
  have hrj : j ∈ Region.ready .any ops listed := by rw [hb]; simp
  have hrk : k ∈ Region.ready .any ops listed := by rw [hb]; simp
  obtain ⟨hkw, h1, h2⟩ := h
  refine ⟨fun hn => hkw (hL hn), fun h => (by rw [h] at hb; cases hb), fun i hi => ?_⟩
  rw [hb] at hi
  simp only [List.mem_cons, List.not_mem_nil, or_false] at hi
  rcases hi with rfl | rfl
  ·exact q3i h1 fun a' w' h' => q3w hs hbs n _ _ _ _ _ (hc.set hrj) (by simpa using hz) (hset _ hrj) hj h'
  ·exact q3i h2 fun a' w' h' => q3w hs hbs n _ _ _ _ _ (hc.set hrk) (by simpa using hz) (hset _ hrk) hk h'
 | n + 1, live, .three i j k ri rj rk, listed, a, w, hc, hz, hL, hB, h => by
  have hset : ∀ x ∈ Region.ready .any ops listed, (q64 brk (listed.setIfInBounds x true) → (live && !brk.contains x) = true) := fun x hx hn => by
   have hxs : x < listed.size := by
    rw [hz]; obtain ⟨_, o, ho, _⟩ := mem_ready.1 hx; exact (Array.getElem?_eq_some_iff.1 ho).1
   have hxb : x ∉ brk := fun hb => by
    have := hn x hb
    simp [Array.getD_eq_getD_getElem?, Array.getElem?_setIfInBounds, hxs] at this
   have : live = true := hL fun b hb => by
    have h2 := hn b hb
    have hne : x ≠ b := fun e => hxb (by rw [e]; exact hb)
    rw [q3t hne] at h2; exact h2
   simp [this, hxb]
  simp only [q22, Bool.and_eq_true, decide_eq_true_eq] at hB
  obtain ⟨⟨⟨hb, hi0⟩, hj⟩, hk⟩ := hB
  have hri : i ∈ Region.ready .any ops listed := by rw [hb]; simp
  have hrj : j ∈ Region.ready .any ops listed := by rw [hb]; simp
  have hrk : k ∈ Region.ready .any ops listed := by rw [hb]; simp
  obtain ⟨hkw, h0, h1, h2⟩ := h
  refine ⟨fun hn => hkw (hL hn), fun h => (by rw [h] at hb; cases hb), fun x hi => ?_⟩
  rw [hb] at hi
  simp only [List.mem_cons, List.not_mem_nil, or_false] at hi
  rcases hi with rfl | rfl | rfl
  ·exact q3i h0 fun a' w' h' => q3w hs hbs n _ _ _ _ _ (hc.set hri) (by simpa using hz) (hset _ hri) hi0 h'
  ·exact q3i h1 fun a' w' h' => q3w hs hbs n _ _ _ _ _ (hc.set hrj) (by simpa using hz) (hset _ hrj) hj h'
  ·exact q3i h2 fun a' w' h' => q3w hs hbs n _ _ _ _ _ (hc.set hrk) (by simpa using hz) (hset _ hrk) hk h'
 | n + 1, live, .one k r, listed, a, w, hc, hz, hL, hB, h => by
  have hset : ∀ x ∈ Region.ready .any ops listed, (q64 brk (listed.setIfInBounds x true) → (live && !brk.contains x) = true) := fun x hx hn => by
   have hxs : x < listed.size := by
    rw [hz]; obtain ⟨_, o, ho, _⟩ := mem_ready.1 hx; exact (Array.getElem?_eq_some_iff.1 ho).1
   have hxb : x ∉ brk := fun hb => by
    have := hn x hb
    simp [Array.getD_eq_getD_getElem?, Array.getElem?_setIfInBounds, hxs] at this
   have : live = true := hL fun b hb => by
    have h2 := hn b hb
    have hne : x ≠ b := fun e => hxb (by rw [e]; exact hb)
    rw [q3t hne] at h2; exact h2
   simp [this, hxb]
  have hz' : (listed.setIfInBounds k true).size = ops.size := by simpa using hz
  simp only [q22, Bool.and_eq_true] at hB
  obtain ⟨hb, hB'⟩ := hB
  unfold wpM at h
  by_cases hpf : pf.contains k = true
  ·rw [if_pos hpf] at h
   simp only [hpf, cond_true, Bool.and_eq_true] at hb
   obtain ⟨⟨⟨hr, hf⟩, hib⟩, hq⟩ := hb
   have hr' : k ∈ Region.ready .any ops listed := by simpa using hr
   obtain ⟨o, h0, v, hy, hK⟩ := h
   refine qfn h0 (Region.noSelect_spec hs) (fun b hb => ?_) (fun hlt b hb => ?_) n listed a w hc (Region.free_spec h0 hf) hr' hy
    (q3w hs hbs n _ r _ _ _ (hc.set hr') hz' (fun hn => by have := hset k hr' hn; rw [Bool.and_eq_true] at this; exact this.1) hB' hK)
   ·have := List.all_eq_true.1 hib b hb; simpa using this
   ·rw [hlt, cond_true] at hq
    exact ⟨_, List.all_eq_true.1 hq b hb⟩
  ·rw [if_neg hpf] at h
   have hpf' : pf.contains k = false := by simpa using hpf
   obtain ⟨hkw, h⟩ := h
   simp only [hpf', cond_false, decide_eq_true_eq] at hb
   have hr' : k ∈ Region.ready .any ops listed := by rw [hb]; simp
   refine ⟨fun hn => hkw (hL hn), fun h => (by rw [h] at hb; cases hb), fun i hi => ?_⟩
   rw [hb] at hi
   simp only [List.mem_singleton] at hi
   subst hi
   exact q3i h fun a' w' h' => q3w hs hbs n _ _ _ _ _ (hc.set hr') hz' (hset _ hr') hB' h'
theorem qka {a : Act} {w : World} {l : List Oper} (pf late brk : List Nat) (ord : Od) (hB : qxo l.toArray pf late brk ord = true)
  (h : wpM P l.toArray Q Kw pf late brk true ord a w) : wpAny P .any l.toArray (Qn Q) l.toArray.size (Array.replicate l.toArray.size false) a w := by
 simp only [qxo, Bool.and_eq_true] at hB
 obtain ⟨⟨hs, hb⟩, hm⟩ := hB
 exact (q3w (Q := Q) hs (fun b hb' => by have := List.all_eq_true.1 hb b hb'; simpa [Nat.blt_eq] using this) l.toArray.size true ord (Array.replicate l.toArray.size false) a w (fun j oj _ hl => by rw [getD_replicate_false] at hl; cases hl) (by simp) (fun _ => rfl) hm h).any
class qbc (G : List Grp) (g : Grp) (R : outParam (List Grp)) : Prop where
  h : ∃ G1 G2, G = G1 ++ g :: G2 ∧ R = G1 ++ G2
instance qbc.here {g : Grp} {G : List Grp} : qbc (g :: G) g G := ⟨[], G, rfl, rfl⟩
instance qbc.there {R} {g g1 : Grp} {G : List Grp} [h : qbc G g R] : qbc (g1 :: G) g (g1 :: R) := by
 obtain ⟨G1, G2, e, hR⟩ := h.h
 exact ⟨g1 :: G1, G2, by rw [e]; rfl, by rw [hR]; rfl⟩
def KwF (F : q01) (Kl : List (Nat × Obj)) (w : World) : Prop := (∀ b o, F b = some o → w.heap[b]? = some o) ∧ KwL Kl w
class u1v (Kl : List (Nat × Obj)) (b : Nat) (o : outParam Obj) : Prop where h : ∀ w, KwL Kl w → w.heap[b]? = some o
instance {b : Nat} {o : Obj} {r} : u1v ((b, o) :: r) b o := ⟨fun _ h => h.1⟩
instance {b c : Nat} {o p : Obj} {r} [h : u1v r b o] : u1v ((c, p) :: r) b o := ⟨fun w hw => h.h w hw.2⟩
variable {n : Sz} {L : List (Nat × Value)} {w0 : World} {F0 : q01} {K0 : List Nat} {F : q01} {G : List Grp} {a : Act} {w : World} {T : Act → Prop} {rest : List Oper} {o : Oper} {Kl : List (Nat × Obj)} {pf late brk : List Nat} {r : Od} {live : Bool} {Fk : q01}
theorem q0k {id : Nat} {l : List Oper} (pf late brk : List Nat) (ord : Od) (bl : List Nat) [hK : KOf G bl Kl] (S : St n L w0 F0 K0 F G a w) (hm : P.follows .mixedOrders = true) (hB : qxo l.toArray pf late brk ord = true)
  (h : ∀ w, St n L w0 F0 K0 F G a w → wpM P l.toArray Q (KwF F Kl) pf late brk true ord a w) : (Code.region id l.toArray true).wp P Q a w := by
 refine wp_mono (Q := Qn Q) (wp_region_any hm (qka pf late brk ord hB (h _ ⟨S.fr, S.tr.drew⟩))) fun e a w h => ?_
 cases e <;> first | exact h | exact h.elim
theorem q1g {k d : Nat} {v : Value} (b : Nat) {ob : Obj} {R} (S : St n L w0 F0 K0 F G a w) (ho : ops[k]? = some o) (hpf : pf.contains k = true) (hlt : late.contains k = true) (hw : Region.wanted o (yielded ops a.tmps) = true) (hd : o.dst = some d) (hn : Nat.blt d n.sz = true) [hh : Has G b ob R] [hk : u1v Kl b ob]
  (h : ∀ w', St n L w' q1e (keys [[(b, ob)]]) q1e [[(b, ob)]] a w' → SV P o a w' v) (kk : ∀ a', St n ((d, v) :: L) w0 F0 K0 F G a' w → wpM P ops Q (KwF Fk Kl) pf late brk live r a' w) : wpM P ops Q (KwF Fk Kl) pf late brk live (.one k r) a w := by
 unfold wpM
 rw [if_pos hpf]
 refine ⟨o, ho, ?_⟩
 refine ⟨v, ?_, by rw [hd]; exact kk _ (S.put hn v)⟩
 rw [hlt]
 exact fun w' hw' => .inl ⟨hw, h w' ⟨S.fr, At.tr (G := [[(b, ob)]]) ⟨(fun _ _ h => by cases h), (fun p hp => by simp only [qaF, List.flatten_nil, qaE, List.mem_singleton] at hp; subst hp; exact ⟨hk.h w' hw'.2, rfl⟩), by simp [keys]⟩⟩⟩
theorem qdu {k d : Nat} {v : Value} (S : St n L w0 F0 K0 F G a w) (ho : ops[k]? = some o) (hpf : pf.contains k = true) (hlt : late.contains k = true) (hw : Region.wanted o (yielded ops a.tmps) = true) (hd : o.dst = some d) (hn : Nat.blt d n.sz = true)
  (h : ∀ w', St n L w' Fk [] Fk [] a w' → SV P o a w' v) (kk : ∀ a', St n ((d, v) :: L) w0 F0 K0 F G a' w → wpM P ops Q (KwF Fk Kl) pf late brk live r a' w) : wpM P ops Q (KwF Fk Kl) pf late brk live (.one k r) a w := by
 unfold wpM
 rw [if_pos hpf]
 refine ⟨o, ho, ?_⟩
 refine ⟨v, ?_, by rw [hd]; exact kk _ (S.put hn v)⟩
 rw [hlt]
 exact fun w' hw' => .inl ⟨hw, h w' ⟨S.fr, At.tr (G := []) ⟨hw'.1, (fun p hp => by simp at hp), by simp [keys]⟩⟩⟩
theorem q19 {k d : Nat} {v : Value} (S : St n L w0 F0 K0 F G a w) (ho : ops[k]? = some o) (hpf : pf.contains k = true) (hlt : late.contains k = false) (hw : Region.wanted o (yielded ops a.tmps) = true) (hd : o.dst = some d) (hn : Nat.blt d n.sz = true)
  (h : ∀ w', St n L w' q1e [] q1e [] a w' → SV P o a w' v) (kk : ∀ a', St n ((d, v) :: L) w0 F0 K0 F G a' w → wpM P ops Q (KwF Fk Kl) pf late brk live r a' w) : wpM P ops Q (KwF Fk Kl) pf late brk live (.one k r) a w := by
 unfold wpM
 rw [if_pos hpf]
 refine ⟨o, ho, ?_⟩
 refine ⟨v, ?_, by rw [hd]; exact kk _ (S.put hn v)⟩
 rw [hlt]
 exact fun w' => .inl ⟨hw, h w' ⟨S.fr, At.tr (G := []) ⟨(fun _ _ h => by cases h), (fun p hp => by simp at hp), by simp [keys]⟩⟩⟩
theorem qtl {k d : Nat} (S : St n L w0 F0 K0 F G a w) (ho : ops[k]? = some o) (hpf : pf.contains k = true) (hw : Region.wanted o (yielded ops a.tmps) = false) (hd : o.dst = some d) (hn : Nat.blt d n.sz = true)
  (kk : ∀ a', St n ((d, undef) :: L) w0 F0 K0 F G a' w → wpM P ops Q (KwF Fk Kl) pf late brk live r a' w) : wpM P ops Q (KwF Fk Kl) pf late brk live (.one k r) a w := by
 unfold wpM
 rw [if_pos hpf]
 refine ⟨o, ho, ?_⟩
 refine ⟨undef, ?_, by rw [hd]; exact kk _ (S.put hn undef)⟩
 cases late.contains k
 ·exact fun w' => .inr ⟨hw, rfl⟩
 ·exact fun w' _ => .inr ⟨hw, rfl⟩
theorem q5a {k d : Nat} (S : St n L w0 F0 K0 F G a w) (ho : ops[k]? = some o) (hpf : pf.contains k = false) (hw : Region.wanted o (yielded ops a.tmps) = false) (hk : live = true → KwF Fk Kl w) (hd : o.dst = some d) (hn : Nat.blt d n.sz = true)
  (kk : ∀ a', St n ((d, undef) :: L) w0 F0 K0 F G a' w → wpM P ops Q (KwF Fk Kl) pf late brk (live && !brk.contains k) r a' w) : wpM P ops Q (KwF Fk Kl) pf late brk live (.one k r) a w := by
 unfold wpM
 rw [if_neg (by rw [hpf]; simp)]
 refine ⟨hk, o, ho, ?_⟩
 rw [hw, if_neg (by simp), hd]
 exact kk _ (S.put hn undef)
theorem q06 (a : Act) (hg : o.guard = none) : Region.wanted o (yielded ops a.tmps) = true := by simp [Region.wanted, hg]
theorem q1k {j dj : Nat} {want : Bool} (S : St n L w0 F0 K0 F G a w) (hg : o.guard = some (j, want)) (hj : (ops[j]?).bind (·.dst) = some dj) (hb : look L dj = some (.bool want)) : Region.wanted o (yielded ops a.tmps) = true := by
 rw [q7h S hg hj hb]; simp
theorem qcz {j dj : Nat} {want : Bool} (S : St n L w0 F0 K0 F G a w) (hg : o.guard = some (j, want)) (hj : (ops[j]?).bind (·.dst) = some dj) (hb : look L dj = some (.bool (!want))) : Region.wanted o (yielded ops a.tmps) = false := by
 rw [q7h S hg hj hb]; simp
theorem q8d {j dj : Nat} {want : Bool} (S : St n L w0 F0 K0 F G a w) (hg : o.guard = some (j, want)) (hj : (ops[j]?).bind (·.dst) = some dj) (hb : look L dj = some undef) : Region.wanted o (yielded ops a.tmps) = false := q8k S hg hj hb
theorem St.part {dj : Nat} {want b : Bool} {C : Prop} (S : St n L w0 F0 K0 F G a w) (hb : look L dj = some (.bool b)) (h1 : b = want → St n ((dj, .bool want) :: L) w0 F0 K0 F G a w → C) (h2 : b = (!want) → St n ((dj, .bool (!want)) :: L) w0 F0 K0 F G a w → C) : C := by
 by_cases h : b = want
 ·exact h1 h (S.lit hb h)
 ·have h' : b = (!want) := by cases b <;> cases want <;> simp_all
  exact h2 h' (S.lit hb h')
theorem St.shrink {F' : q01} (S : St n L w0 F0 K0 F' G a w) (hs : ∀ b o, F b = some o → F' b = some o) (h0 : ∀ b o, F0 b = some o → F b = some o) : St n L w0 F0 K0 F G a w := ⟨S.fr, S.tr.shrink hs h0⟩
theorem q5g (hk : live = true → KwF Fk Kl w) (h : Q .normal a w) : wpM P ops Q (KwF Fk Kl) pf late brk live .nil a w := ⟨hk, h⟩
theorem qtg {k : Nat} {K : Act → World → Prop} (ho : ops[k]? = some o) (h : wpList P ops (QK K) [o] a w) : qfa P ops k K a w := by
 refine ⟨o, ho, ?_⟩
 unfold wpList at h
 split
 ·rename_i hw
  rw [if_pos hw] at h
  rcases h with h | h
  ·unfold Oper.wp at *
   generalize (execOp a.eval o).run P w = r at *
   unfold Oper.upon at *
   split at h
   ·exact h
   ·exact h
   ·exact h
   ·refine Calls.mono h fun e w'' he => ?_
    cases e with
    | returned v => exact he
    | panicked c => exact he.elim
    | outgrown => obtain ⟨_, _, h⟩ := he; exact h.elim
   ·exact Rows.mono h fun v w'' he => he
   ·exact h.elim
   ·exact h.elim
  ·obtain ⟨_, _, h⟩ := h.2; exact h.elim
 ·rename_i hw
  rw [if_neg hw] at h
  exact h
theorem q1q {k : Nat} (ho : ops[k]? = some o) (hpf : pf.contains k = false) (hk : live = true → KwF Fk Kl w) (h : wpList P ops (QK (wpM P ops Q (KwF Fk Kl) pf late brk (live && !brk.contains k) r)) [o] a w) : wpM P ops Q (KwF Fk Kl) pf late brk live (.one k r) a w := by
 unfold wpM
 rw [if_neg (by rw [hpf]; simp)]
 exact ⟨hk, qtg ho h⟩
end
section
variable {P : Program} {n : Sz} {L : List (Nat × Value)} {w0 : World} {F0 : q01} {K0 : List Nat} {F : q01} {G : List Grp} {a : Act} {w : World} {o : Oper}
theorem q0j {b c : Bool} (h : SV P o a w (.bool b)) (e : b = c) : SV P o a w (.bool c) := by subst e; exact h
theorem u74 {t : TypeId} (ht : Ifc P t) : P.underlying t = some (.interface (P.methodsAt t)) := by
 obtain ⟨ms, h⟩ := ht.h
 simp [Program.methodsAt, h]
theorem qtb {x : Operand} {t yt : TypeId} [ht : Ifc P t] (S : St n L w0 F0 K0 F G a w) (ho : o.op = .binOp .neq t x (.const .nilIface) yt) (hx : ev L x = some .nilIface) : SV P o a w (.bool false) := by
 unfold SV execOp
 rw [ho]
 have e := S.fr.eval hx
 have h1 : (eqGuard .neq t x (.const .nilIface) .nilIface .nilIface).run P w = .ok () w := by simp [eqGuard]
 have h2 : a.eval (.const .nilIface) = .nilIface := rfl
 simp [e, h1, h2, run_neq_nil_nil w t (u74 ht)]
theorem qou {x : Operand} {t yt u : TypeId} {v : Value} [ht : Ifc P t] (S : St n L w0 F0 K0 F G a w) (ho : o.op = .binOp .neq t x (.const .nilIface) yt) (hx : ev L x = some (.iface u v)) : SV P o a w (.bool true) := by
 unfold SV execOp
 rw [ho]
 have e := S.fr.eval hx
 have h1 : (eqGuard .neq t x (.const .nilIface) (.iface u v) .nilIface).run P w = .ok () w := by simp [eqGuard]
 have h2 : a.eval (.const .nilIface) = .nilIface := rfl
 simp [e, h1, h2, run_neq_held_nil w t u v (u74 ht)]
theorem qe3 {P : Program} {f : FuncId} {F : q01} {args : List Value} {Q : Value → Prop} (h : ∀ w, At w F [] → Calls P f ⟨args⟩ w (fun e w' => ∃ v, e = .returned v ∧ Q v ∧ RowKit.Below w.heap.size w w')) : Ct P f args F [] (fun _ _ u => Q u) :=
 fun w hat => (h w hat).mono fun e w' ⟨v, he, hq, hb⟩ => ⟨v, F, [], he, qa4 hat hb, hq⟩
theorem tq : (∀ (p : Prop) [Decidable p], (decide p = true) = p) ∧ (∀ (p : Prop) (x : Decidable p), decide p = false ↔ ¬p) ∧
  (∀ (α : Type) [BEq α] [LawfulBEq α] (a b : α), (a == b) = true ↔ a = b) ∧ (∀ (α : Type) [BEq α] [LawfulBEq α] (a b : α), (a != b) = true ↔ a ≠ b) ∧ (∀ (α : Type) [BEq α] [LawfulBEq α] (a b : α), (a != b) = false ↔ a = b) ∧ (∀ (α : Type) [BEq α] [LawfulBEq α] (a b : α), (a == b) = false ↔ a ≠ b) ∧
  (∀ (α : Type) (a b : α), (a ≠ b) = ¬a = b) ∧ (∀ b : Bool, ((!b) = true) = (b = false)) ∧ (∀ b : Bool, ((!b) = false) = (b = true)) ∧ (∀ b : Bool, (¬b = true) = (b = false)) ∧ (∀ b : Bool, (¬b = false) = (b = true)) ∧ (!true) = false ∧ (!false) = true ∧
  (∀ n m : Nat, (n : Int) < (m : Int) ↔ n < m) ∧ (∀ m n : Nat, (m : Int) ≤ (n : Int) ↔ m ≤ n) ∧ (∀ a b : Nat, ¬a < b ↔ b ≤ a) ∧ (∀ a b : Nat, ¬a ≤ b ↔ b < a) :=
 ⟨fun _ _ => decide_eq_true_eq, fun _ _ => decide_eq_false_iff_not, fun _ _ _ _ _ => beq_iff_eq, fun _ _ _ _ _ => bne_iff_ne, fun _ _ _ _ _ => bne_eq_false_iff_eq, fun _ _ _ _ _ => beq_eq_false_iff_ne, fun _ _ _ => rfl, Bool.not_eq_true', Bool.not_eq_false', Bool.not_eq_true, Bool.not_eq_false, rfl, rfl, fun _ _ => Int.ofNat_lt, fun _ _ => Int.ofNat_le, fun _ _ => Nat.not_lt, fun _ _ => Nat.not_le⟩
class KIn (G : List Grp) (Kl : List (Nat × Obj)) : Prop where
  h : ∀ {n : Sz} {L : List (Nat × Value)} {w0 : World} {F0 : q01} {K0 : List Nat} {F : q01} {a : Act} {w : World}, St n L w0 F0 K0 F G a w → KwL Kl w
instance {G : List Grp} : KIn G [] := ⟨fun _ => trivial⟩
instance {G : List Grp} {b : Nat} {o : Obj} {R} {r : List (Nat × Obj)} [h : Has G b o R] [hr : KIn G r] : KIn G ((b, o) :: r) := ⟨fun S => ⟨S.has h, hr.h S⟩⟩
theorem q1i {Q : Exit → Act → World → Prop} {id : Nat} {l : List Oper} {y : Code} (h : ∀ K : Act → World → Prop, (∀ a w, y.wp P Q a w → K a w) → wpList P l.toArray (Exit.then K Q) l a w) : (Code.seq (Code.region id l.toArray false) y).wp P Q a w :=
 wp_seq_k fun K hK => wp_region_lit (h K hK)
end
section
variable {P : Program} {n : Sz} {L : List (Nat × Value)} {w0 : World} {F0 : q01} {K0 : List Nat} {F : q01} {G : List Grp} {a : Act} {w : World} {ops : Array Oper} {Q : Exit → Act → World → Prop} {rest : List Oper} {o : Oper} {Kl : List (Nat × Obj)} {pf late brk : List Nat} {r : Od} {live : Bool} {Fk : q01}
theorem kwg {F Fk : q01} {G : List Grp} {Kl : List (Nat × Obj)} {live : Bool} (S : St n L w0 F0 K0 F G a w) (h : ∀ b o, Fk b = some o → F b = some o) [hk : KIn G Kl] : live = true → KwF Fk Kl w := fun _ => ⟨fun b o hb => S.tr.frz b o (h b o hb), hk.h S⟩
theorem kwa {F Fk : q01} {G : List Grp} {Kl : List (Nat × Obj)} {live : Bool} (S : St n L w0 F0 K0 F G a w) (h : ∀ b o, Fk b = some o → F b = some o := by first | exact fun _ _ h => h | (intro b o h; solve_by_elim (maxDepth := 40))) [hk : KIn G Kl] : live = true → KwF Fk Kl w := kwg S h
end
section
variable {P : Program} {n : Sz} {L : List (Nat × Value)} {w0 : World} {F0 : q01} {K0 : List Nat} {F : q01} {G : List Grp} {a : Act} {w : World} {Q : Exit → Act → World → Prop}
theorem zk {p : Prop} (h : p := by repeat (first | exact trivial | refine ⟨rfl, ?_⟩)) : p := h
theorem fr1 {fn : Func} {t : Nat} {v : Value} {Post : q01 → List Grp → Value → Prop} (S : St n L w0 F0 K0 F G a w) (hf : fn.results = #[.tmp t]) (hp : Post F G v) (hl : look L t = some v := by rfl) (hds : n.ds = [] := by rfl) :
  bodyPost P fn (fun e w' => ∃ v F' G', e = .returned v ∧ Tr w0 F0 K0 w' F' G' ∧ Post F' G' v) .ret a w := q08 S (q0c hf (RV.tmp S hl)) hp hds
theorem fr2 {fn : Func} {t s : Nat} {v u : Value} {Post : q01 → List Grp → Value → Prop} (S : St n L w0 F0 K0 F G a w) (hf : fn.results = #[.tmp t, .tmp s]) (hp : Post F G (.tuple #[v, u])) (hl : look L t = some v := by rfl) (hm : look L s = some u := by rfl) (hds : n.ds = [] := by rfl) :
  bodyPost P fn (fun e w' => ∃ v F' G', e = .returned v ∧ Tr w0 F0 K0 w' F' G' ∧ Post F' G' v) .ret a w := q08 S (q0v hf (RV.tmp S hl) (RV.tmp S hm)) hp hds
theorem q00 {c : Operand} {x y : Code} {t : Bool} {p q : Prop} (S : St n L w0 F0 K0 F G a w) (hc : ev L c = some (.bool t)) (ht : p → x.wp P Q a w) (hf : q → y.wp P Q a w) (h1 : t = true → p := by intro h; (try simp only [tq] at h); exact h) (h2 : t = false → q := by intro h; (try simp only [tq] at h); exact h) : (Code.cond c x y).wp P Q a w :=
 q0l S hc (fun h => ht (h1 h)) (fun h => hf (h2 h))
theorem St.pt (dj : Nat) (want : Bool) {b : Bool} {C p q : Prop} (S : St n L w0 F0 K0 F G a w) (hb : look L dj = some (.bool b)) (h1 : p → St n ((dj, .bool want) :: L) w0 F0 K0 F G a w → C) (h2 : q → St n ((dj, .bool (!want)) :: L) w0 F0 K0 F G a w → C) (t1 : b = want → p := by intro h; (try simp only [tq] at h); exact h) (t2 : b = (!want) → q := by intro h; (try simp only [tq] at h); exact h) : C :=
 S.part hb (fun h => h1 (t1 h)) (fun h => h2 (t2 h))
variable {ops : Array Oper} {rest : List Oper} {o : Oper} {Kl : List (Nat × Obj)} {pf late brk : List Nat} {r : Od} {live : Bool} {Fk : q01} {d : Nat} {v : Value}
theorem wgd {j dj : Nat} {want b : Bool} {p q : Prop} (S : St n L w0 F0 K0 F G a w) (hy : p → St n ((dj, .bool want) :: L) w0 F0 K0 F G a w → wpList P ops Q ({ o with guard := none } :: rest) a w) (hs : q → ∀ a', St n ((d, undef) :: (dj, .bool (!want)) :: L) w0 F0 K0 F G a' w → wpList P ops Q rest a' w)
  (hg : o.guard = some (j, want) := by rfl) (hj : (ops[j]?).bind (·.dst) = some dj := by rfl) (hb : look L dj = some (.bool b) := by rfl) (hd : o.dst = some d := by rfl) (hn : Nat.blt d n.sz = true := by rfl) (t1 : b = want → p := by intro h; (try simp only [tq] at h); exact h) (t2 : b = (!want) → q := by intro h; (try simp only [tq] at h); exact h) : wpList P ops Q (o :: rest) a w :=
 qn6 S hg hj hb hd hn (fun h => hy (t1 h)) (fun h => hs (t2 h))
theorem wv (S : St n L w0 F0 K0 F G a w) (h : SV P o a w v) (k : ∀ a', St n ((d, v) :: L) w0 F0 K0 F G a' w → wpList P ops Q rest a' w) (hg : o.guard = none := by rfl) (hd : o.dst = some d := by rfl) (hn : Nat.blt d n.sz = true := by rfl) : wpList P ops Q (o :: rest) a w := q6b S hg hd hn h k
theorem wc0 {x : Operand} {xs : Array Operand} {ts : Array TypeId} {f : FuncId} {fi ca vs args : List Value} {Post : Value → Prop} [hf : q0b P f] (S : St n L w0 F0 K0 F G a w) (C : Ct P f args F [] (fun _ _ v => Post v)) (k : ∀ v a' w', Post v → St n ((d, v) :: L) w0 F0 K0 F G a' w' → wpList P ops Q rest a' w')
  (hg : o.guard = none := by rfl) (hd : o.dst = some d := by rfl) (hn : Nat.blt d n.sz = true := by rfl) (ho : o.op = .call { callee := .value x, args := xs, argTypes := ts } := by rfl) (hx : ev L x = some (.func (.func f) ⟨fi⟩ ⟨ca⟩) := by rfl) (hxs : evs L xs.toList = some vs := by rfl) (ha : fi ++ vs ++ ca = args := by rfl) : wpList P ops Q (o :: rest) a w := qnz S hg hd hn ho hx hxs C ha k
theorem wcF {x : Operand} {xs : Array Operand} {ts : Array TypeId} {f : FuncId} {fi ca vs args : List Value} {Post : q01 → Value → Prop} [hf : q0b P f] (S : St n L w0 F0 K0 F G a w) (C : Ct P f args F [] (fun F' _ u => Post F' u)) (k : ∀ v F' a' w', Post F' v → (∀ b o, F b = some o → F' b = some o) → St n ((d, v) :: L) w0 F0 K0 F' G a' w' → wpList P ops Q rest a' w')
  (hg : o.guard = none := by rfl) (hd : o.dst = some d := by rfl) (hn : Nat.blt d n.sz = true := by rfl) (ho : o.op = .call { callee := .value x, args := xs, argTypes := ts } := by rfl) (hx : ev L x = some (.func (.func f) ⟨fi⟩ ⟨ca⟩) := by rfl) (hxs : evs L xs.toList = some vs := by rfl) (ha : fi ++ vs ++ ca = args := by rfl) : wpList P ops Q (o :: rest) a w := qpa S hg hd hn ho hx hxs C ha k
theorem wso {t : TypeId} {x y : Operand} {z : Value} {sz by_ b off : Nat} {c : List Value} {e : TypeId} {R} (S : St n L w0 F0 K0 F G a w) (ho : o.op = .store t x y) (hx : ev L x = some (.pointer (some ⟨b, off, none⟩))) [hi : Inf P t z sz by_] [hh : Has G b (.cells ⟨c⟩ e (0, 0)) R]
  (k : ∀ w', St n L w0 F0 K0 F (R [(b, .cells ⟨c.take off ++ v.cells.toList ++ c.drop (off + sz)⟩ e (0, 0))]) a w' → wpList P ops Q rest a w') (hy : ev L y = some v := by rfl) (hv : v.cells.toList.length = sz := by rfl) (h1 : ∀ u ∈ v.cells.toList, u.oneCell' = true := by simp [Value.cells, Value.oneCell', splice]) (hl : Nat.ble (off + sz) c.length = true := by rfl) (hg : o.guard = none := by rfl) (hd : o.dst = none := by rfl) : wpList P ops Q (o :: rest) a w := q81 S hg ho hd hx hy hv h1 hl k
theorem wbx {t : TypeId} {x : Operand} (S : St n L w0 F0 K0 F G a w) (k : ∀ b a' w', St n ((d, .pointer (some ⟨b, 0, none⟩)) :: L) w0 F0 K0 F ([(b, .cells ⟨v.cells.toList⟩ t (0, 0))] :: G) a' w' → wpList P ops Q rest a' w') (hg : o.guard = none := by rfl) (hd : o.dst = some d := by rfl) (ho : o.op = .box t x := by rfl) (hn : Nat.blt d n.sz = true := by rfl) (hx : ev L x = some v := by rfl) : wpList P ops Q (o :: rest) a w := qxr S hg hd ho hn hx k
end
