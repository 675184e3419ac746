/- Ranges over a function: a round is walked by the same rules: what is shown of operations outside a round holds within one; the law of a range over a slice from its end, and a function's end behind it. Nothing here knows the program. -/
import Derived.Test.YtoaodbclgeeaeaaGreatDoorWk7
import Derived.RangeFuncFrom
import Derived.RangeFuncLeaves
import Derived.RangeFuncCalls
import Derived.TacticsIn
namespace Go.Wk
open Go
set_option linter.unusedSimpArgs false
set_option linter.unusedVariables false
set_option linter.unusedVariables false

/-- No operation of the list is a defer statement. -/
def noDefer (o : Oper) : Bool := match o.op with | .defer _ => false | _ => true
theorem noDefer_ne {o : Oper} (h : noDefer o = true) : ∀ c, o.op ≠ .defer c := fun c e => by simp [noDefer, e] at h
/-- The wide fence, in a round or in none. -/
def WF (ro : Option Nat) : Fence := { Fence.wide with round := ro }
theorem wf_none : WF none = Fence.wide := rfl
theorem wf_some (l : Nat) : Fence.wide.inRound l = WF (some l) := rfl

class NoOut (Q : Exit → Act → World → Prop) : Prop where h : ¬ LetsOut Q
instance {K : Act → World → Prop} {Q} [h : NoOut Q] : NoOut (Exit.then K Q) := ⟨fun ⟨a, w, q⟩ => h.h ⟨a, w, q⟩⟩
instance {id : Nat} {Q} [h : NoOut Q] : NoOut (Exit.inBlock id Q) := ⟨fun ⟨a, w, q⟩ => h.h ⟨a, w, q⟩⟩
instance : NoOut (fun _ _ _ => False) := ⟨fun ⟨_, _, q⟩ => q⟩

section
variable {P : Program} {ro : Option Nat}

theorem callsIn_wf {f : FuncId} {args : Array Value} {w : World} {R : Ending → World → Prop} (h : Calls P f args w R) : CallsIn (WF ro) 0 P f args w R := by
  have h1 : CallsIn Fence.wide 0 P f args w R := callsIn_wide.2 h
  exact h1
theorem rowsIn_wf {row : String} {args : Array Value} {w : World} {R : Value → World → Prop} (h : Rows P row args w R) : RowsIn (WF ro) 0 P row args w R := by
  have h1 : RowsIn Fence.wide 0 P row args w R := fun c cs _ => let ⟨v, w', r, s⟩ := h c cs; ⟨v, w', r, stepsIn_wide.2 s⟩
  exact h1

theorem uponIn_of {o : Oper} {a : Act} {next next' : Act → World → Prop} {Q : Exit → Act → World → Prop} {r : Result Next} (h : o.upon P a next Q r) (hn : ∀ a w, next a w → next' a w) : o.uponIn (WF ro) 0 P a next' Q r := by
  unfold Oper.upon at h
  unfold Oper.uponIn
  split at h
  · exact hn _ _ h
  · exact hn _ _ h
  · exact hn _ _ h
  · refine ⟨(fun hd => by cases hd), ?_⟩
    refine callsIn_wf (h.mono fun e w' he => ?_)
    cases e <;> first | exact hn _ _ he | exact he
  · refine ⟨(fun hd => by cases hd), ?_⟩
    exact rowsIn_wf (h.mono fun v w' he => hn _ _ he)
  · exact h
  · exact h.elim

theorem wpIn_of {o : Oper} {a : Act} {w : World} {next next' : Act → World → Prop} {Q : Exit → Act → World → Prop} (hd : noDefer o = true) (h : o.wp P a w next Q) (hn : ∀ a w, next a w → next' a w) : o.wpIn (WF ro) 0 P a w next' Q := by
  refine ⟨fun _ _ => trivial, ?_⟩
  rw [Oper.semAt_eq _ _ _ (noDefer_ne hd)]
  exact uponIn_of h hn

theorem opsIn_of {ops : Array Oper} {Q : Exit → Act → World → Prop} (hout : ¬ LetsOut Q) (hd : ∀ (i : Nat) (o : Oper), ops[i]? = some o → noDefer o = true) : ∀ (l : List Nat) (a : Act) (w : World), wpOps P ops Q l a w → wpOpsIn (WF ro) 0 P ops Q l a w
  | [], _, _, h => h
  | i :: r, a, w, h => by
    unfold wpOps at h
    unfold wpOpsIn
    split
    · rename_i e
      rw [e] at h
      exact opsIn_of hout hd r a w h
    · rename_i o e
      rw [e] at h
      simp only at h
      by_cases hw : Region.wanted o (yielded ops a.tmps) = true
      · rw [if_pos hw] at h ⊢
        rcases h with h | h
        · exact wpIn_of (hd i o e) h fun a w h => opsIn_of hout hd r a w h
        · exact absurd h.2 hout
      · simp only [if_neg hw] at h ⊢
        exact ⟨fun _ _ => trivial, opsIn_of hout hd r _ _ h⟩

theorem all_of {l : List Oper} (h : l.all noDefer = true) : ∀ (i : Nat) (o : Oper), l.toArray[i]? = some o → noDefer o = true := fun i o e => by
  rw [List.all_eq_true] at h
  exact h o (List.mem_of_getElem? (by simpa using e))

variable {Q : Exit → Act → World → Prop} {a : Act} {w : World}
/-- A region in a round. -/
theorem wpi_region {id : Nat} {l : List Oper} [hout : NoOut Q] (hd : l.all noDefer = true) (h : wpList P l.toArray Q l a w) : (Code.region id l.toArray false).wpIn (WF ro) 0 P Q a w := by
  refine wpIn_region (opsIn_of hout.h (all_of hd) _ _ _ ?_)
  rw [List.range_eq_range', ← Array.length_toList, wpOps_eq_wpList l.toArray.toList 0 (by simp)]
  exact h
/-- A region that draws its order, in a round. -/
theorem wpi_region_mix {id : Nat} {l : List Oper} (n : Nat) (hm : P.follows .mixedOrders = true) (hd : l.all noDefer = true) (hn : Nat.ble n l.length = true) (hB : mixB l.toArray n = true)
    (h : wpPre P l.toArray w.drew (fun a' => wpList P l.toArray (Qn Q) (l.drop n) a' w.drew) (l.take n) a) : (Code.region id l.toArray true).wpIn (WF ro) 0 P Q a w := by
  simp only [mixB, Bool.and_eq_true] at hB
  have hn' := Nat.le_of_ble_eq_true hn
  have h1 := mx_pre (Q := Q) (n := n) (l2 := l.drop n) (l.take n) 0 a w.drew (by rw [List.length_take]; omega) h
  rw [List.take_append_drop] at h1
  have h2 := wpAny_mx hB.1 l 0 (Array.replicate l.toArray.size false) a w.drew (by simp) (fun j oj _ hl => by rw [getD_replicate_false] at hl; cases hl) (by simpa using hB.2) h1
  refine wpIn_mono (Q := Qn Q) (wpIn_region_draw fun t => opsIn_of not_letsOut (all_of hd) _ _ _ ?_) fun e a w h => ?_
  · simp only [Region.schedule, hm, Bool.true_or, if_true]
    exact wpAny_sound l.toArray.size t _ a _ (by simpa using h2)
  · cases e <;> first | exact h | exact h.elim

variable {n : Sz} {L : List (Nat × Value)} {w0 : World} {F0 : Heap} {K0 : List Nat} {F : Heap} {G : List Grp}
theorem wpi_mix {id : Nat} {l : List Oper} (k : Nat) (S : St n L w0 F0 K0 F G a w) (hm : P.follows .mixedOrders = true) (hd : l.all noDefer = true) (hk : Nat.ble k l.length = true) (hB : mixB l.toArray k = true)
    (h : ∀ w, St n L w0 F0 K0 F G a w → wpPre P l.toArray w (fun a' => wpList P l.toArray (Qn Q) (l.drop k) a' w) (l.take k) a) : (Code.region id l.toArray true).wpIn (WF ro) 0 P Q a w :=
  wpi_region_mix k hm hd hk hB (h _ ⟨S.fr, S.tr.drew⟩)
theorem wpi_true {c : Operand} {x y : Code} (S : St n L w0 F0 K0 F G a w) (hc : ev L c = some (.bool true)) (h : x.wpIn (WF ro) 0 P Q a w) : (Code.cond c x y).wpIn (WF ro) 0 P Q a w := wpIn_cond_true (S.fr.eval hc) h
theorem wpi_false {c : Operand} {x y : Code} (S : St n L w0 F0 K0 F G a w) (hc : ev L c = some (.bool false)) (h : y.wpIn (WF ro) 0 P Q a w) : (Code.cond c x y).wpIn (WF ro) 0 P Q a w := wpIn_cond_false (S.fr.eval hc) h
theorem wpi_split {c : Operand} {x y : Code} {t : Bool} (S : St n L w0 F0 K0 F G a w) (hc : ev L c = some (.bool t)) (ht : t = true → x.wpIn (WF ro) 0 P Q a w) (hf : t = false → y.wpIn (WF ro) 0 P Q a w) : (Code.cond c x y).wpIn (WF ro) 0 P Q a w := wpIn_cond_split (S.fr.eval hc) ht hf
open Classical in
theorem wpi_loop {c : Code} (I : Nat → Act → World → Prop) (h₀ : ∃ m, I m a w)
    (round : ∀ m a w, I m a w → c.wpIn (WF ro) 0 P (Exit.then (fun a' w' => ∃ m', m' < m ∧ I m' a' w') Q) a w) : (Code.loop c).wpIn (WF ro) 0 P Q a w := by
  let μ : Act → World → Nat := fun a w => if h : ∃ m, I m a w then Classical.choose (least h) else 0
  refine wpIn_loop (fun a w => ∃ m, I m a w) μ h₀ fun a w hI => ?_
  have hμ : I (μ a w) a w := by simp only [μ, dif_pos hI]; exact (Classical.choose_spec (least hI)).1
  refine wpIn_mono (round _ a w hμ) fun e a' w' h => ?_
  cases e <;> try exact h
  obtain ⟨m', hm, hI'⟩ := h
  refine ⟨⟨m', hI'⟩, ?_⟩
  have : μ a' w' ≤ m' := by
    have hex : ∃ m, I m a' w' := ⟨m', hI'⟩
    simp only [μ, dif_pos hex]
    exact (Classical.choose_spec (least hex)).2 _ hI'
  omega
end
end Go.Wk
