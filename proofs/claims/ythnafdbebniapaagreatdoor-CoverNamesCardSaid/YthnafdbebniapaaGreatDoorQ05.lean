/- Walks. -/
import Derived.Test.YthnafdbebniapaaGreatDoorQ04
namespace Go.Wk
open Go
set_option linter.unusedSimpArgs false
set_option linter.unusedVariables false
section
variable {P : Program} {ops : Array Oper} {Q : Exit → Act → World → Prop} {Kw : World → Prop}
def YK (P : Program) (ops : Array Oper) (Kw : World → Prop) (st : Bool) (o : Oper) (v : Value) (a : Act) (w : World) : Prop :=
 match st with | true => YA P ops o v a w | false => ∀ w, Kw w → YA P ops o v a w
theorem YK.at {st o v a w} (h : YK P ops Kw st o v a w) (hw : Kw w) : YA P ops o v a w := by cases st <;> first | exact h | exact h w hw
theorem YK.of {st o v a w} (h : YB P ops st o v a w) : YK P ops Kw st o v a w := by
 cases st
 ·exact fun w _ => h w
 ·exact h
theorem wpOp_putK {j : Nat} {oi oj : Oper} {v : Value} {w : World} (hj : ops[j]? = some oj) (hap : oi.apart ops oj = true)
  (hsi : ∀ cs b, oi.op ≠ .select cs b) (hsj : ∀ cs b, oj.op ≠ .select cs b) {K : Act → World → Prop} {a : Act} {st : Bool}
  (hy : YK P ops Kw st oi v a w) (hst : st = true → quietOp oj.op = true)
  (h : wpOp P ops (Qn Q) j K (a.put oi.dst v) w) :
  wpOp P ops (Qn Q) j (fun a' w' => YK P ops Kw st oi v a' w' ∧ K (a'.put oi.dst v) w') a w := by
 cases st with
 | true =>
  have hy' : YB P ops true oi v a w := hy
  exact wpOp_put hj hap hsi hsj hy' hst h
 | false =>
  obtain ⟨h1, h2, h3⟩ := Oper.apart_spec hap
  have keep : ∀ u, ∀ w, YA P ops oi v a w → YA P ops oi v (a.put oj.dst u) w := fun u w hy =>
   hy.same (execOp_put oi hsi a oj.dst u h3) (wanted_put oi a oj.dst u h3)
  have keepA : ∀ u w', YK P ops Kw false oi v (a.put oj.dst u) w' := fun u _ w hw => keep u w (hy w hw)
  unfold wpOp at *
  simp only [hj] at *
  rw [wanted_put oj a oi.dst v h1] at h
  split
  ·rename_i hw
   simp only [hw, if_true] at h
   rcases h with h | h
   ·refine .inl ?_
    unfold Oper.wp at *
    rw [execOp_put oj hsj a oi.dst v h1] at h
    generalize (execOp a.eval oj).run P w = r at *
    cases r with
    | ok n w' =>
     cases n <;> simp only [Oper.upon] at h ⊢
     case value u => exact ⟨keepA u _, by rw [← Act.put_comm a v u h2]; exact h⟩
     case skip => exact ⟨keepA _ _, by rw [← Act.put_comm a v undef h2]; exact h⟩
     case defer d =>
      refine ⟨fun w hw => (keep undef w (hy w hw)).same ?_ ?_, ?_⟩
      ·cases oj.dst <;> rfl
      ·cases oj.dst <;> rfl
      ·have := Act.put_comm ({ a with defers := d :: a.defers }) (y := oj.dst) v undef h2
       rw [← this, ← Act.put_defers]
       exact h
     case enter f args =>
      refine Calls.mono h fun e w'' he => ?_
      cases e <;> first
       | exact he.elim
       | exact absurd he not_letsOut
       | exact ⟨keepA _ _, by rw [← Act.put_comm a v _ h2]; exact he⟩
     case row row args => exact Rows.mono h fun u w'' he => ⟨keepA _ _, by rw [← Act.put_comm a v _ h2]; exact he⟩
    | halt x w' => cases x <;> simp only [Oper.upon] at h ⊢ <;> exact h.elim
   ·exact absurd h.2 not_letsOut
  ·rename_i hw
   simp only [hw] at h
   exact ⟨keepA undef _, by rw [← Act.put_comm a v undef h2]; exact h⟩
def wpAnyK (P : Program) (ops : Array Oper) (Q : Exit → Act → World → Prop) (Kw : World → Prop) : Nat → Array Bool → Act → World → Prop
 | 0, listed, a, w => Kw w ∧ Region.ready .any ops listed = [] ∧ Q .normal a w
 | fuel + 1, listed, a, w => Kw w ∧ (Region.ready .any ops listed = [] → Q .normal a w) ∧ ∀ i ∈ Region.ready .any ops listed, wpOp P ops Q i (wpAnyK P ops Q Kw fuel (listed.setIfInBounds i true)) a w
theorem wpAnyK.any : ∀ {fuel : Nat} {listed : Array Bool} {a : Act} {w : World}, wpAnyK P ops Q Kw fuel listed a w → wpAny P .any ops Q fuel listed a w
 | 0, _, _, _, h => h.2
 | fuel + 1, _, _, _, h => ⟨h.2.1, fun i hi => wpOp_mono (fun _ _ h => wpAnyK.any h) (h.2.2 i hi)⟩
theorem wpAnyK.kw {fuel : Nat} {listed : Array Bool} {a : Act} {w : World} (h : wpAnyK P ops Q Kw fuel listed a w) : Kw w := by cases fuel <;> exact h.1
theorem wpAnyK_first {i : Nat} {oi : Oper} {v : Value} {st : Bool} (hi : ops[i]? = some oi) (hsel : ∀ (j : Nat) (o : Oper) cs b, ops[j]? = some o → o.op ≠ .select cs b) :
  ∀ (fuel : Nat) (listed : Array Bool) (a : Act) (w : World), Closed ops listed →
   (∀ j oj, ops[j]? = some oj → j ≠ i → listed.getD j true = false → (∀ e ∈ oj.after, Region.binds .any e = true → e.on ≠ i) → oi.apart ops oj = true) →
   (st = true → ∀ j oj, ops[j]? = some oj → j ≠ i → listed.getD j true = false → quietOp oj.op = true ∨ ∃ n, twB ops n j i = true) →
   i ∈ Region.ready .any ops listed → YK P ops Kw st oi v a w →
   wpAnyK P ops (Qn Q) Kw fuel (listed.setIfInBounds i true) (a.put oi.dst v) w → wpAnyK P ops (Qn Q) Kw (fuel + 1) listed a w := by
 intro fuel
 induction fuel with
 | zero =>
  intro listed a w _ _ _ hr hy H
  refine ⟨H.kw, fun h => (by rw [h] at hr; cases hr), fun j hj => ?_⟩
  by_cases hji : j = i
  ·subst hji; exact (hy.at H.kw).wpOp hi H
  ·have := ready_mono hj hji
   rw [H.2.1] at this
   cases this
 | succ fuel ih =>
  intro listed a w hc hfree hq hr hy H
  refine ⟨H.kw, fun h => (by rw [h] at hr; cases hr), fun j hj => ?_⟩
  by_cases hji : j = i
  ·subst hji; exact (hy.at H.kw).wpOp hi H
  ·have h1 := H.2.2 j (ready_mono hj hji)
   obtain ⟨hjun, oj, hoj, hall⟩ := mem_ready.1 hj
   have hun := (mem_ready.1 hr).1
   have hnot : ∀ e ∈ oj.after, Region.binds .any e = true → e.on ≠ i := fun e he hb heq => by
    have h1 := hall e he hb
    rw [heq] at h1
    have := getD_both hun
    rw [h1] at this; cases this
   have hqj : st = true → quietOp oj.op = true := fun hs => by
    rcases hq hs j oj hoj hji hjun with h | ⟨n, h⟩
    ·exact h
    ·have := tw_listed hc n j h (fun ok hk e he hb => by
      have : ok = oj := Option.some.inj (hk.symm.trans hoj)
      subst this
      exact hall e he hb)
     rw [getD_both hun] at this; cases this
   have h2 := wpOp_putK hoj (hfree j oj hoj hji hjun hnot) (fun cs b => hsel i oi cs b hi) (fun cs b => hsel j oj cs b hoj) hy hqj h1
   refine wpOp_mono (fun a' w' h3 => ih (listed.setIfInBounds j true) a' w' (hc.set hj) (fun k ok hk hki hun' hno => ?_) (fun hs k ok hk hki hun' => ?_) (ready_mono hr (Ne.symm hji)) h3.1 ?_) h2
   ·refine hfree k ok hk hki ?_ hno
    by_cases hjk : j = k
    ·subst hjk; exact hjun
    ·rw [getD_set_ne true hjk] at hun'; exact hun'
   ·refine hq hs k ok hk hki ?_
    by_cases hjk : j = k
    ·subst hjk; exact hjun
    ·rw [getD_set_ne true hjk] at hun'; exact hun'
   ·rw [Array.setIfInBounds_comm _ _ hji]
    exact h3.2
def mixFromL (ops : Array Oper) (pf late : List Nat) : Nat → Nat → Array Bool → Bool
 | 0, _, listed => (Region.ready .any ops listed).isEmpty
 | fuel + 1, k, listed =>
  (bif pf.contains k then (Region.ready .any ops listed).contains k && Region.free .any ops listed k && (match ops[k]? with
    | some o => !(stOp o.op && !late.contains k) || (List.range ops.size).all fun j => j == k || listed.getD j true || (match ops[j]? with | some oj => quietOp oj.op || twB ops ops.size j k | none => true)
    | none => false)
   else decide (Region.ready .any ops listed = [k])) && mixFromL ops pf late fuel (k + 1) (listed.setIfInBounds k true)
def mixBL (ops : Array Oper) (pf late : List Nat) : Bool := Region.noSelect ops && mixFromL ops pf late ops.size 0 (Array.replicate ops.size false)
def wpG (P : Program) (ops : Array Oper) (Q : Exit → Act → World → Prop) (Kw : World → Prop) (pf late : List Nat) : Nat → List Oper → Act → World → Prop
 | _, [], a, w => Kw w ∧ Q .normal a w
 | k, o :: r, a, w => if pf.contains k = true then ∃ v, YK P ops Kw (stOp o.op && !late.contains k) o v a w ∧ wpG P ops Q Kw pf late (k + 1) r (a.put o.dst v) w
  else Kw w ∧ (if Region.wanted o (yielded ops a.tmps) then o.wp P a w (wpG P ops Q Kw pf late (k + 1) r) (Qn Q) else wpG P ops Q Kw pf late (k + 1) r (a.put o.dst undef) w)
theorem wpAnyK_G {pf late : List Nat} (hs : Region.noSelect ops = true) : ∀ (l : List Oper) (k : Nat) (listed : Array Bool) (a : Act) (w : World), (∀ j, l[j]? = ops[k + j]?) → Closed ops listed →
  mixFromL ops pf late l.length k listed = true → wpG P ops Q Kw pf late k l a w → wpAnyK P ops (Qn Q) Kw l.length listed a w
 | [], _, _, _, _, _, _, hB, h => ⟨h.1, by simpa [mixFromL] using hB, h.2⟩
 | o :: l, k, listed, a, w, hl, hc, hB, h => by
  have h0 : ops[k]? = some o := by simpa using (hl 0).symm
  have hl' : ∀ j, l[j]? = ops[k + 1 + j]? := fun j => by have := hl (j + 1); simpa [Nat.add_assoc, Nat.add_comm 1 j] using this
  simp only [List.length_cons, mixFromL, Bool.and_eq_true] at hB
  obtain ⟨hb, hB'⟩ := hB
  unfold wpG at h
  by_cases hpf : pf.contains k = true
  ·rw [if_pos hpf] at h
   simp only [hpf, cond_true, Bool.and_eq_true, h0] at hb
   obtain ⟨⟨hr, hf⟩, hq⟩ := hb
   have hr' : k ∈ Region.ready .any ops listed := by simpa using hr
   obtain ⟨v, hy, hK⟩ := h
   refine wpAnyK_first h0 (Region.noSelect_spec hs) l.length listed a w hc (Region.free_spec h0 hf) (fun hst j oj hj hji hun => ?_) hr' hy
    (wpAnyK_G hs l (k + 1) _ _ _ hl' (hc.set hr') hB' hK)
   rw [hst] at hq
   simp only [Bool.not_true, Bool.false_or, List.all_eq_true, List.mem_range] at hq
   have := hq j (Array.getElem?_eq_some_iff.1 hj).1
   simp only [hj, Bool.or_eq_true, beq_iff_eq, hji, false_or, hun, Bool.false_eq_true] at this
   rcases this with h | h
   ·exact .inl h
   ·exact .inr ⟨_, h⟩
  ·rw [if_neg hpf] at h
   have hpf' : pf.contains k = false := by simpa using hpf
   obtain ⟨hkw, h⟩ := h
   simp only [hpf', cond_false, decide_eq_true_eq] at hb
   have hr' : k ∈ Region.ready .any ops listed := by rw [hb]; simp
   refine ⟨hkw, fun h => (by rw [h] at hb; cases hb), fun i hi => ?_⟩
   rw [hb] at hi
   simp only [List.mem_singleton] at hi
   subst hi
   unfold wpOp
   simp only [h0]
   split
   ·rename_i hw
    rw [if_pos hw] at h
    exact .inl (Oper.wp_mono (fun a' w' h' => wpAnyK_G hs l _ _ _ _ hl' (hc.set hr') hB' h') h)
   ·rename_i hw
    rw [if_neg hw] at h
    exact wpAnyK_G hs l _ _ _ _ hl' (hc.set hr') hB' h
theorem mixL_sound {a : Act} {w : World} {l : List Oper} (pf late : List Nat) (hB : mixBL l.toArray pf late = true)
  (h : wpG P l.toArray Q Kw pf late 0 l a w) : wpAny P .any l.toArray (Qn Q) l.toArray.size (Array.replicate l.toArray.size false) a w := by
 simp only [mixBL, Bool.and_eq_true] at hB
 have h2 := wpAnyK_G (Q := Q) hB.1 l 0 (Array.replicate l.toArray.size false) a w (by simp) (fun j oj _ hl => by rw [getD_replicate_false] at hl; cases hl) (by simpa using hB.2) h
 simpa using h2.any
def KwL : List (Nat × Obj) → World → Prop
 | [], _ => True
 | p :: r, w => w.heap[p.1]? = some p.2 ∧ KwL r w
class KOf (G : List Grp) (bl : List Nat) (Kl : outParam (List (Nat × Obj))) : Prop where h : True
instance {G : List Grp} : KOf G [] [] := ⟨trivial⟩
instance {G : List Grp} {b : Nat} {o : Obj} {R} {r : List Nat} {Kl} [Has G b o R] [KOf G r Kl] : KOf G (b :: r) ((b, o) :: Kl) := ⟨trivial⟩
variable {n : Sz} {L : List (Nat × Value)} {w0 : World} {F0 : Heap} {K0 : List Nat} {F : Heap} {G : List Grp} {a : Act} {w : World} {T : Act → Prop} {rest : List Oper} {o : Oper} {Kl : List (Nat × Obj)} {late : List Nat}
theorem wpc_mixL {id : Nat} {l : List Oper} (pf late : List Nat) (bl : List Nat) [hK : KOf G bl Kl] (S : St n L w0 F0 K0 F G a w) (hm : P.follows .mixedOrders = true) (hB : mixBL l.toArray pf late = true)
  (h : ∀ w, St n L w0 F0 K0 F G a w → wpG P l.toArray Q (KwL Kl) pf late 0 l a w) : (Code.region id l.toArray true).wp P Q a w := by
 refine wp_mono (Q := Qn Q) (wp_region_any hm (mixL_sound pf late hB (h _ ⟨S.fr, S.tr.drew⟩))) fun e a w h => ?_
 cases e <;> first | exact h | exact h.elim
variable {pf : List Nat}
theorem wppk_one {k : Nat} (hpf : pf.contains k = true) (hst : (stOp o.op && late.contains k) = false) (h : wpPre P ops w (fun a' => wpG P ops Q (KwL Kl) pf late (k + 1) rest a' w) [o] a) : wpG P ops Q (KwL Kl) pf late k (o :: rest) a w := by
 obtain ⟨v, hy, h⟩ := h
 unfold wpG
 rw [if_pos hpf]
 refine ⟨v, ?_, h⟩
 have e : (stOp o.op && !late.contains k) = stOp o.op := by revert hst; cases stOp o.op <;> cases late.contains k <;> simp
 rw [e]
 exact YK.of hy
theorem wppk_late {k d b : Nat} {v : Value} {ob : Obj} (S : St n L w0 F0 K0 F G a w) (hpf : pf.contains k = true) (hg : o.guard = none) (hd : o.dst = some d) (hn : Nat.blt d n.sz = true) (hlt : (stOp o.op && !late.contains k) = false) (hKl : ∀ w', KwL Kl w' → w'.heap[b]? = some ob)
  (h : ∀ w', St n L w' noHeap (keys [[(b, ob)]]) noHeap [[(b, ob)]] a w' → SV P o a w' v) (kk : ∀ a', St n ((d, v) :: L) w0 F0 K0 F G a' w → wpG P ops Q (KwL Kl) pf late (k + 1) rest a' w) : wpG P ops Q (KwL Kl) pf late k (o :: rest) a w := by
 unfold wpG
 rw [if_pos hpf]
 refine ⟨v, ?_, by rw [hd]; exact kk _ (S.put hn v)⟩
 rw [hlt]
 exact fun w' hw => .inl ⟨by simp [Region.wanted, hg], h w' ⟨S.fr, At.tr (G := [[(b, ob)]]) ⟨(fun _ _ h => by cases h), (fun p hp => by simp only [List.flatten_cons, List.flatten_nil, List.append_nil, List.mem_singleton] at hp; subst hp; exact ⟨hKl w' hw, rfl⟩), by simp [keys]⟩⟩⟩
def QK (K : Act → World → Prop) : Exit → Act → World → Prop
 | .normal, a, w => K a w
 | _, _, _ => False
theorem wplk_nil {k : Nat} (hk : KwL Kl w) (h : Q .normal a w) : wpG P ops Q (KwL Kl) pf late k [] a w := ⟨hk, h⟩
theorem wplk_one {k : Nat} (hpf : pf.contains k = false) (hk : KwL Kl w) (h : wpList P ops (QK (wpG P ops Q (KwL Kl) pf late (k + 1) rest)) [o] a w) : wpG P ops Q (KwL Kl) pf late k (o :: rest) a w := by
 unfold wpG
 rw [if_neg (by rw [hpf]; simp)]
 refine ⟨hk, ?_⟩
 unfold wpList at h
 split
 ·rename_i hw
  rw [if_pos hw] at h
  rcases h with h | h
  ·unfold Oper.wp at *
   generalize (execOp a.eval o).run P w = r at *
   unfold Oper.upon at *
   split at h
   ·exact h
   ·exact h
   ·exact h
   ·refine Calls.mono h fun e w'' he => ?_
    cases e with
    | returned v => exact he
    | panicked c => exact he.elim
    | outgrown => obtain ⟨_, _, h⟩ := he; exact h.elim
   ·exact Rows.mono h fun v w'' he => he
   ·exact h.elim
   ·exact h.elim
  ·obtain ⟨_, _, h⟩ := h.2; exact h.elim
 ·rename_i hw
  rw [if_neg hw] at h
  exact h
end
end Go.Wk
