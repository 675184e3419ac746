/- Walks. -/
import Derived.Test.YtbhipiepfclneaaGreatDoorQ03
import Derived.RangeFuncFrom
import Derived.RangeFuncCalls
import Derived.TacticsIn
namespace Go.Wk
open Go
set_option linter.unusedSimpArgs false
set_option linter.unusedVariables false
def q59 (o : Oper) : Bool := match o.op with | .defer _ => false | _ => true
theorem qau {o : Oper} (h : q59 o = true) : ∀ c, o.op ≠ .defer c := fun c e => by simp [q59, e] at h
def WF (ro : Option Nat) : Fence := { Fence.wide with round := ro }
class qcf (Q : Exit → Act → World → Prop) : Prop where h : ¬ LetsOut Q
instance {K : Act → World → Prop} {Q} [h : qcf Q] : qcf (Exit.then K Q) := ⟨fun ⟨a, w, q⟩ => h.h ⟨a, w, q⟩⟩
instance {id : Nat} {Q} [h : qcf Q] : qcf (Exit.inBlock id Q) := ⟨fun ⟨a, w, q⟩ => h.h ⟨a, w, q⟩⟩
instance : qcf (fun _ _ _ => False) := ⟨fun ⟨_, _, q⟩ => q⟩
section
variable {P : Program} {ro : Option Nat}
theorem qkb {f : FuncId} {args : Array Value} {w : World} {R : Ending → World → Prop} (h : Calls P f args w R) : CallsIn (WF ro) 0 P f args w R := by
 have h1 : CallsIn Fence.wide 0 P f args w R := callsIn_wide.2 h
 exact h1
theorem qqc {row : String} {args : Array Value} {w : World} {R : Value → World → Prop} (h : Rows P row args w R) : RowsIn (WF ro) 0 P row args w R := by
 have h1 : RowsIn Fence.wide 0 P row args w R := fun c cs _ => let ⟨v, w', r, s⟩ := h c cs; ⟨v, w', r, stepsIn_wide.2 s⟩
 exact h1
theorem qn5 {o : Oper} {a : Act} {next next' : Act → World → Prop} {Q : Exit → Act → World → Prop} {r : Result Next} (h : o.upon P a next Q r) (hn : ∀ a w, next a w → next' a w) : o.uponIn (WF ro) 0 P a next' Q r := by
 unfold Oper.upon at h
 unfold Oper.uponIn
 split at h
 ·exact hn _ _ h
 ·exact hn _ _ h
 ·exact hn _ _ h
 ·refine ⟨(fun hd => by cases hd), ?_⟩
  refine qkb (h.mono fun e w' he => ?_)
  cases e <;> first | exact hn _ _ he | exact he
 ·refine ⟨(fun hd => by cases hd), ?_⟩
  exact qqc (h.mono fun v w' he => hn _ _ he)
 ·exact h
 ·exact h.elim
theorem qyd {o : Oper} {a : Act} {w : World} {next next' : Act → World → Prop} {Q : Exit → Act → World → Prop} (hd : q59 o = true) (h : o.wp P a w next Q) (hn : ∀ a w, next a w → next' a w) : o.wpIn (WF ro) 0 P a w next' Q := by
 refine ⟨fun _ _ => trivial, ?_⟩
 rw [Oper.semAt_eq _ _ _ (qau hd)]
 exact qn5 h hn
theorem q98 {ops : Array Oper} {Q : Exit → Act → World → Prop} (hout : ¬ LetsOut Q) (hd : ∀ (i : Nat) (o : Oper), ops[i]? = some o → q59 o = true) : ∀ (l : List Nat) (a : Act) (w : World), wpOps P ops Q l a w → wpOpsIn (WF ro) 0 P ops Q l a w
 | [], _, _, h => h
 | i :: r, a, w, h => by
  unfold wpOps at h
  unfold wpOpsIn
  split
  ·rename_i e
   rw [e] at h
   exact q98 hout hd r a w h
  ·rename_i o e
   rw [e] at h
   simp only at h
   by_cases hw : Region.wanted o (yielded ops a.tmps) = true
   ·rw [if_pos hw] at h ⊢
    rcases h with h | h
    ·exact qyd (hd i o e) h fun a w h => q98 hout hd r a w h
    ·exact absurd h.2 hout
   ·simp only [if_neg hw] at h ⊢
    exact ⟨fun _ _ => trivial, q98 hout hd r _ _ h⟩
theorem u14 {l : List Oper} (h : l.all q59 = true) : ∀ (i : Nat) (o : Oper), l.toArray[i]? = some o → q59 o = true := fun i o e => by
 rw [List.all_eq_true] at h
 exact h o (List.mem_of_getElem? (by simpa using e))
variable {Q : Exit → Act → World → Prop} {a : Act} {w : World}
theorem q0o {id : Nat} {l : List Oper} [hout : qcf Q] (hd : l.all q59 = true) (h : wpList P l.toArray Q l a w) : (Code.region id l.toArray false).wpIn (WF ro) 0 P Q a w := by
 refine wpIn_region (q98 hout.h (u14 hd) _ _ _ ?_)
 rw [List.range_eq_range', ← Array.length_toList, wpOps_eq_wpList l.toArray.toList 0 (by simp)]
 exact h
variable {n : Sz} {L : List (Nat × Value)} {w0 : World} {F0 : q01} {K0 : List Nat} {F : q01} {G : List Grp}
theorem q3c {c : Operand} {x y : Code} {t : Bool} (S : St n L w0 F0 K0 F G a w) (hc : ev L c = some (.bool t)) (ht : t = true → x.wpIn (WF ro) 0 P Q a w) (hf : t = false → y.wpIn (WF ro) 0 P Q a w) : (Code.cond c x y).wpIn (WF ro) 0 P Q a w := wpIn_cond_split (S.fr.eval hc) ht hf
open Classical in
theorem qsi {c : Code} (I : Nat → Act → World → Prop) (h₀ : ∃ m, I m a w)
  (round : ∀ m a w, I m a w → c.wpIn (WF ro) 0 P (Exit.then (fun a' w' => ∃ m', m' < m ∧ I m' a' w') Q) a w) : (Code.loop c).wpIn (WF ro) 0 P Q a w := by
 let μ : Act → World → Nat := fun a w => if h : ∃ m, I m a w then Classical.choose (least h) else 0
 refine wpIn_loop (fun a w => ∃ m, I m a w) μ h₀ fun a w hI => ?_
 have hμ : I (μ a w) a w := by simp only [μ, dif_pos hI]; exact (Classical.choose_spec (least hI)).1
 refine wpIn_mono (round _ a w hμ) fun e a' w' h => ?_
 cases e <;> try exact h
 obtain ⟨m', hm, hI'⟩ := h
 refine ⟨⟨m', hI'⟩, ?_⟩
 have : μ a' w' ≤ m' := by
  have hex : ∃ m, I m a' w' := ⟨m', hI'⟩
  simp only [μ, dif_pos hex]
  exact (Classical.choose_spec (least hex)).2 _ hI'
 omega
end
section
variable {P : Program} {n : Sz} {L : List (Nat × Value)} {w0 : World} {F0 : q01} {K0 : List Nat} {F : q01} {G : List Grp} {a : Act} {w : World} {Q : Exit → Act → World → Prop}
def qir (P : Program) (gf bx k : Nat) (f : Nat → Nat) (F : q01) : Prop :=
 ∀ (l : Nat) (J : Nat → World → Prop) (Jx : World → Prop) (W : World), (∀ j W, J j W → At W F []) → J k W →
  (∀ (j : Nat) (W1 : World), j < k → J (j + 1) W1 → ∃ fn tmps zs bd, (Instr.yield l #[.int .i64 (j : Int), .int .i64 ((f j : Nat) : Int)]).run P W1 = .ok (.round l fn tmps zs bd) W1 ∧
   RoundIn Fence.wide 0 P l fn tmps zs bd W1 (fun e W' => (e = .returned (.bool true) ∧ J j W') ∨ (e = .returned (.bool false) ∧ Jx W'))) →
  CallsIn Fence.wide 0 P gf #[.func (.yield l) #[] #[], .pointer (some ⟨bx, 0, none⟩)] W (fun e W' => (∃ v, e = .returned v) ∧ (J 0 W' ∨ Jx W'))
theorem Tr.putObj {G1 G2 : List Grp} {b : Nat} {o o' : Obj} (h : Tr w0 F0 K0 w F (G1 ++ [(b, o)] :: G2)) : Tr w0 F0 K0 (w.putObj b o') F (G1 ++ [(b, o')] :: G2) := by
 have hb := (h.own (b, o) (by simp [List.flatten_append, qaF])).1
 exact h.write rfl rfl rfl (by simp) (World.putObj_heap_same (q37 hb)) fun k hk => World.putObj_heap_other hk
theorem Tr.get {G1 G2 : List Grp} {b : Nat} {o : Obj} (h : Tr w0 F0 K0 w F (G1 ++ [(b, o)] :: G2)) : w.heap[b]? = some o := (h.own (b, o) (by simp [List.flatten_append, qaF])).1
def q9q (W1 : World) (F1 : q01) (G1 : List Grp) (F : q01) (I : Nat → q01 → List Grp → Prop) (Ir : q01 → List Grp → Prop) (j : Nat) : Exit → Act → World → Prop
 | .normal, _, W' => ∃ F2 G2, Tr W1 F1 (keys G1) W' F2 G2 ∧ I j F2 G2
 | .ret, _, W' => ∃ F2 G2, Tr W1 F1 (keys G1) W' F2 G2 ∧ Ir F2 G2
 | _, _, _ => False
instance {W1 F1 G1 F I Ir j} : qcf (q9q W1 F1 G1 F I Ir j) := ⟨fun ⟨_, _, q⟩ => q⟩
theorem qhj {g : Operand} {p q : Tmp} {assign body : Code} {gf bx k : Nat} {f : Nat → Nat} [hfn : q0b P gf]
  (S : St n L w0 F0 K0 F G a w) (hds : n.ds = []) (hp : Nat.blt p n.sz = true) (hq : Nat.blt q n.sz = true) (hg : ev L g = some (.func (.func gf) ⟨[]⟩ ⟨[.pointer (some ⟨bx, 0, none⟩)]⟩)) (iter : qir P gf bx k f F)
  (I : Nat → q01 → List Grp → Prop) (Ir : q01 → List Grp → Prop) (h0 : I k F G) (Lr : Nat → List (Nat × Value))
  (hassign : ∀ (r j : Nat) (W : World) (F1 : q01) (G1 : List Grp) (a0 : Act) (K : Act → World → Prop), St n ((q, .int .i64 ((f j : Nat) : Int)) :: (p, .int .i64 (j : Int)) :: L) W F1 (keys G1) F1 G1 a0 W →
   (∀ a', St n (Lr j) W F1 (keys G1) F1 G1 a' W → K a' W) → assign.wpIn (WF (some r)) 0 P (Exit.then K (fun _ _ _ => False)) a0 W)
  (hround : ∀ (r j : Nat) (W : World) (F1 : q01) (G1 : List Grp) (a' : Act), j < k → (∀ b o, F b = some o → F1 b = some o) → I (j + 1) F1 G1 → St n (Lr j) W F1 (keys G1) F1 G1 a' W →
   body.wpIn (WF (some r)) 0 P (q9q W F1 G1 F I Ir j) a' W)
  (hdone : ∀ (D : Nat) (F1 : q01) (G1 : List Grp) (a' : Act) (w' : World), (∀ b o, F b = some o → F1 b = some o) → I 0 F1 G1 →
   St ⟨n.sz, [{ target := .collected D, args := #[] }]⟩ L w0 F0 K0 F1 ([(D, .deferred (some []))] :: G1) a' w' → Q .normal a' w')
  (hret : ∀ (D : Nat) (F1 : q01) (G1 : List Grp) (a' : Act) (w' : World), (∀ b o, F b = some o → F1 b = some o) → Ir F1 G1 →
   St ⟨n.sz, [{ target := .collected D, args := #[] }]⟩ L w0 F0 K0 F1 ([(D, .deferred (some []))] :: G1) a' w' → Q .ret a' w') :
  (Code.rangeFunc g #[p, q] assign body).wpIn (WF none) 0 P Q a w := by
 refine wpIn_rangeFunc ?_
 intro fn _
 rw [show (WF none).round = none from rfl]
 obtain ⟨rec, hrec⟩ : ∃ rec : LoopState → Option Code → Loop, rec = fun st pe => { state := st, pending := pe, fn, tmps := a.tmps, params := #[p, q], assign, body, defers := w.heap.size } := ⟨_, rfl⟩
 obtain ⟨W1, hW1⟩ : ∃ W1, (w.alloc (.deferred (some []))).alloc (.loop (rec .ready none)) = W1 := ⟨_, rfl⟩
 have hT1 : Tr w0 F0 K0 W1 F ([(w.heap.size + 1, .loop (rec .ready none))] :: [(w.heap.size, .deferred (some []))] :: G) := by
  have := (S.tr.alloc (.deferred (some []))).alloc (.loop (rec .ready none))
  rw [World.size_alloc, hW1] at this
  exact this
 generalize hD : w.heap.size = D at hT1 hrec
 have heval : a.eval g = .func (.func gf) #[] #[.pointer (some ⟨bx, 0, none⟩)] := S.fr.eval hg
 refine ⟨D + 1, [{ target := .collected D, args := #[] }], W1, { target := .fn (.func gf) #[.pointer (some ⟨bx, 0, none⟩)], args := #[.func (.yield (D + 1)) #[] #[]] }, W1, gf, #[.func (.yield (D + 1)) #[] #[], .pointer (some ⟨bx, 0, none⟩)], W1, ?_, ?_, ?_, ?_, (fun h => by cases h), ?_⟩
 ·rw [← hW1, hrec, ← hD]; exact run_enterLoop_outer _ _ _ _ _
 ·simp only [rangeCall, resolve, heval, Sem.run_pure]
  simp [Deferred.ofValue, Act.eval]
 ·exact fun _ _ => trivial
 ·simp only [invoke]
  exact q8l hfn _
 ·have hnf : (D : Nat) = w.heap.size := hD.symm
  refine (iter (D + 1)
   (fun j W => ∃ F1 G1, (∀ b o, F b = some o → F1 b = some o) ∧ I j F1 G1 ∧ Tr w0 F0 K0 W F1 ([] ++ [(D + 1, .loop (rec .ready none))] :: [(D, .deferred (some []))] :: G1))
   (fun W => ∃ F1 G1, (∀ b o, F b = some o → F1 b = some o) ∧ Ir F1 G1 ∧ Tr w0 F0 K0 W F1 ([] ++ [(D + 1, .loop (rec .done (some .ret)))] :: [(D, .deferred (some []))] :: G1))
   W1 (fun j W h => by
    obtain ⟨F1, G1, hF, _, ht⟩ := h
    exact ⟨fun b o hb => ht.frz b o (hF b o hb), fun p hp => by simp at hp, by simp [keys]⟩) ⟨F, G, fun _ _ h => h, h0, hT1⟩ ?_).mono ?_
  ·rintro j W hj ⟨F1, G1, hF, hi, ht⟩
   have hl := ht.get
   have hy := run_yield (P := P) (args := #[.int .i64 (j : Int), .int .i64 ((f j : Nat) : Int)]) hl (by rw [hrec]; rfl)
   rw [hrec] at hy
   refine ⟨fn, _, assign, body, hy, ?_⟩
   -- the frame of the round
   have hperm : (([] ++ [(D + 1, Obj.loop (rec .ready none))] :: [(D, .deferred (some []))] :: G1 : List Grp)).flatten.Perm (G1.flatten ++ ([[(D + 1, Obj.loop (rec .ready none))], [(D, .deferred (some []))]] : List Grp).flatten) := by
    simp only [qaG, qaF, List.flatten_nil, qaE, List.cons_append]
    exact (List.perm_append_comm (l₁ := [_, _]) (l₂ := G1.flatten))
   have hat : At W F1 G1 := ht.at_sub hperm
   have hfr0 : Fr n L { tmps := a.tmps, defers := [] } := ⟨S.fr.size, hds.symm, fun t v e => S.fr.get t v e⟩
   have hfr1 := (hfr0.put (.int .i64 (j : Int)) hp).put (.int .i64 ((f j : Nat) : Int)) hq
   refine roundIn_of_wpIn (F := Fence.wide) trivial ?_
   refine hassign (D + 1) j W F1 G1 _ _ ⟨by simpa [Act.put] using hfr1, hat.tr⟩ fun a' S1 => ?_
   refine ⟨_, run_beginRound hl (by rw [hrec]), ?_⟩
   have ht2 : Tr w0 F0 K0 (W.putObj (D + 1) (.loop { rec .ready none with state := .busy })) F1 ([] ++ [(D + 1, .loop { rec .ready none with state := .busy })] :: [(D, .deferred (some []))] :: G1) := ht.putObj
   generalize hW2 : W.putObj (D + 1) (.loop { rec .ready none with state := .busy }) = W2 at ht2
   have hperm2 : (([] ++ [(D + 1, Obj.loop { rec .ready none with state := .busy })] :: [(D, .deferred (some []))] :: G1 : List Grp)).flatten.Perm (G1.flatten ++ ([[(D + 1, Obj.loop { rec .ready none with state := .busy })], [(D, .deferred (some []))]] : List Grp).flatten) := by
    simp only [qaG, qaF, List.flatten_nil, qaE, List.cons_append]
    exact (List.perm_append_comm (l₁ := [_, _]) (l₂ := G1.flatten))
   have hat2 : At W2 F1 G1 := ht2.at_sub hperm2
   refine wpIn_mono (hround (D + 1) j W2 F1 G1 a' hj hF hi ⟨S1.fr, hat2.tr⟩) fun e a3 W3 hpost => ?_
   have fin : ∀ (jump : Option Code) (F2 : q01) (G2 : List Grp), Tr W2 F1 (keys G1) W3 F2 G2 → ∃ W4, (Instr.endRound (D + 1) jump).run P W3 = .ok (.bool jump.isNone) W4 ∧
     (∀ b o, F b = some o → F2 b = some o) ∧ Tr w0 F0 K0 W4 F2 ([] ++ [(D + 1, .loop (rec (if jump.isNone then .ready else .done) jump))] :: [(D, .deferred (some []))] :: G2) := fun jump F2 G2 h => by
    have hc := ht2.call hperm2 h
    have hc2 : Tr w0 F0 K0 W3 F2 ([] ++ [(D + 1, .loop { rec .ready none with state := .busy })] :: [(D, .deferred (some []))] :: G2) := hc.perm (by
     simp only [qaG, qaF, List.flatten_nil, qaE, List.cons_append, List.flatten_append]
     exact (List.perm_append_comm (l₁ := G2.flatten) (l₂ := [_, _])))
    have hl3 := hc2.get
    refine ⟨_, run_endRound (P := P) jump hl3, fun b o hb => h.ext b o (hF b o hb), ?_⟩
    have := hc2.putObj (o' := .loop { rec .ready none with state := if jump.isNone then .ready else .done, pending := jump })
    rw [hrec] at this ⊢
    exact this
   cases e with
   | normal =>
    obtain ⟨F2, G2, h1, h2⟩ := hpost
    obtain ⟨W4, hr, hF2, ht4⟩ := fin none F2 G2 h1
    exact ⟨_, _, hr, .inl ⟨rfl, F2, G2, hF2, h2, ht4⟩⟩
   | ret =>
    obtain ⟨F2, G2, h1, h2⟩ := hpost
    obtain ⟨W4, hr, hF2, ht4⟩ := fin (some .ret) F2 G2 h1
    exact ⟨_, _, hr, .inr ⟨rfl, F2, G2, hF2, h2, ht4⟩⟩
   | exit id => exact hpost.elim
   | goto t => exact hpost.elim
   | panic ch => exact hpost.elim
   | outgrown => exact hpost.elim
  ·have hmark : ∀ (F1 : q01) (G1 : List Grp) (st : LoopState) (pe : Option Code) (W2 : World), Tr w0 F0 K0 W2 F1 ([] ++ [(D + 1, .loop (rec st pe))] :: [(D, .deferred (some []))] :: G1) →
     St ⟨n.sz, [{ target := .collected D, args := #[] }]⟩ L w0 F0 K0 F1 ([(D, .deferred (some []))] :: G1) { a with defers := [{ target := .collected D, args := #[] }] ++ a.defers } (W2.putObj (D + 1) (.loop { rec st pe with state := .exhausted })) := fun F1 G1 st pe W2 ht => by
    refine ⟨⟨S.fr.size, ?_, fun t v e => S.fr.get t v e⟩, ?_⟩
    ·show _ ++ a.defers = _
     rw [S.fr.df, hds]; rfl
    ·have := ht.putObj (o' := .loop { rec st pe with state := .exhausted })
     exact this.sub (by simp only [qaG, qaF]; exact List.sublist_append_right _ _)
   rintro e W2 ⟨⟨v, rfl⟩, (⟨F1, G1, hF, hi, ht⟩ | ⟨F1, G1, hF, hi, ht⟩)⟩
   ·have := run_endLoop (P := P) ht.get (by rw [hrec]; simp)
    refine ⟨none, _, by rw [hrec] at this; exact this, ?_⟩
    have hm := hmark F1 G1 _ _ _ ht
    rw [hrec] at hm
    exact hdone D F1 G1 _ _ hF hi hm
   ·have := run_endLoop (P := P) ht.get (by rw [hrec]; simp)
    refine ⟨some .ret, _, by rw [hrec] at this; exact this, ?_⟩
    have hm := hmark F1 G1 _ _ _ ht
    rw [hrec] at hm
    exact wpIn_ret (hret D F1 G1 _ _ hF hi hm)
theorem q5j {W1 W' : World} {F1 F2 : q01} {G1 G2 : List Grp} {I Ir} {j : Nat} (h : Tr W1 F1 (keys G1) W' F2 G2) (hi : I j F2 G2) : q9q W1 F1 G1 F I Ir j .normal a W' := ⟨F2, G2, h, hi⟩
theorem qn8 {W1 W' : World} {F1 F2 : q01} {G1 G2 : List Grp} {I Ir} {j : Nat} (h : Tr W1 F1 (keys G1) W' F2 G2) (hi : Ir F2 G2) : q9q W1 F1 G1 F I Ir j .ret a W' := ⟨F2, G2, h, hi⟩
def qzr (w0 : World) (F0 : q01) (K0 : List Nat) (Post : q01 → List Grp → Value → Prop) : Ending → World → Prop := fun e w' => ∃ v F' G', e = .returned v ∧ Tr w0 F0 K0 w' F' G' ∧ Post F' G' v
instance {fn : Func} {w0 F0 K0 Post} : qcf (bodyPostM (WF none) 0 P fn (qzr w0 F0 K0 Post)) := ⟨fun ⟨_, _, _, _, _, h, _⟩ => by cases h⟩
instance {fn : Func} {X : World → Prop} : qcf (bodyPost P fn (fun e W' => (∃ v, e = .returned v) ∧ X W')) := ⟨fun ⟨_, _, ⟨_, h⟩, _⟩ => by cases h⟩
theorem qiq {fn : Func} {R : Ending → World → Prop} {v : Value} (S : St n L w0 F0 K0 F G a w) (h : (results fn a.tmps).run P w = .ok v w) (hR : R (.returned v) w) (hds : n.ds = [] := by rfl) : bodyPost P fn R .ret a w := ⟨S.fr.df.trans hds, v, h, hR⟩
theorem qjp {fn : Func} {R : Ending → World → Prop} {v : Value} (S : St n L w0 F0 K0 F G a w) (h : (results fn a.tmps).run P w = .ok v w) (hR : R (.returned v) w) (hds : n.ds = [] := by rfl) : bodyPost P fn R .normal a w := ⟨S.fr.df.trans hds, v, h, hR⟩
theorem Ct.enterM {f : FuncId} {fn : Func} {c : Code} {args : List Value} {k : Nat} {Post} (hf : P.funcs[f]? = some fn) (hb : fn.body = some c) (hn : fn.ntmps = k) (hl : Nat.ble args.length k = true)
  (h : ∀ w a, St (OfNat.ofNat k) (number 0 args) w F (keys G) F G a w → c.wpIn (WF none) 0 P (bodyPostM (WF none) 0 P fn (qzr w F (keys G) Post)) a w) : Ct P f args F G Post := by
 intro w hw
 have hl' := Nat.le_of_ble_eq_true hl
 have := callsIn_of_wp_marks (F := WF none) (n := 0) (args := ⟨args⟩) hf hb trivial (h w _ ⟨⟨?_, rfl, fun t v e => ?_⟩, hw.tr⟩) rfl
 ·exact callsIn_wide.1 this
 ·show _ = k
  simp [hn]; omega
 ·obtain ⟨_, h2⟩ := q4t _ _ _ _ e
  simp only [Nat.sub_zero] at h2
  have := (List.getElem?_eq_some_iff.1 h2).1
  rw [Array.getElem?_append_left (by simpa using this)]
  simpa using h2
theorem qhi {fn : Func} {Post : q01 → List Grp → Value → Prop} {v : Value} (S : St n L w0 F0 K0 F G a w) (h : (results fn a.tmps).run P w = .ok v w) (hp : Post F G v) (hds : n.ds = [] := by rfl) :
  bodyPostM (WF none) 0 P fn (qzr w0 F0 K0 Post) .ret a w := by
 show LeavesInM (WF none) 0 P fn a.tmps (qzr w0 F0 K0 Post) a.defers .returning w
 rw [S.fr.df, hds]
 exact ⟨v, h, v, F, G, rfl, S.tr, hp⟩
theorem q76 {fn : Func} {Post : q01 → List Grp → Value → Prop} {k D : Nat} {R} (S : St ⟨k, [{ target := .collected D, args := #[] }]⟩ L w0 F0 K0 F G a w) [hh : Has G D (.deferred (some [])) R]
  (h : ∀ w', St ⟨k, [{ target := .collected D, args := #[] }]⟩ L w0 F0 K0 F (R [(D, .deferred none)]) a w' → ∃ v, (results fn a.tmps).run P w' = .ok v w' ∧ Post F (R [(D, .deferred none)]) v) :
  bodyPostM (WF none) 0 P fn (qzr w0 F0 K0 Post) .ret a w := by
 show LeavesInM (WF none) 0 P fn a.tmps (qzr w0 F0 K0 Post) a.defers .returning w
 rw [S.fr.df]
 obtain ⟨G1, G2, e, hR⟩ := hh.h
 have hD := S.has hh
 have ht := S.tr
 rw [e] at ht
 have ht2 : Tr w0 F0 K0 (w.putObj D (.deferred none)) F (R [(D, .deferred none)]) := by rw [hR]; exact ht.putObj
 obtain ⟨v, hr, hp⟩ := h (w.putObj D (.deferred none)) ⟨S.fr, ht2⟩
 refine ⟨by simp, .inl ⟨D, _, rfl, run_takeDeferred hD, v, hr, v, F, _, rfl, ht2, hp⟩⟩
theorem qag {ops : Array Oper} {rest : List Oper} {o : Oper} {d : Nat} {x : Operand} {xs : Array Operand} {ts : Array TypeId} {f : FuncId} {fi ca vs args : List Value} {B : Nat → Value} {C : Nat → List Value} {e : TypeId} [hf : q0b P f] (S : St n L w0 F0 K0 F G a w) (hg : o.guard = none) (hd : o.dst = some d) (hn : Nat.blt d n.sz = true)
  (ho : o.op = .call { callee := .value x, args := xs, argTypes := ts }) (hx : ev L x = some (.func (.func f) ⟨fi⟩ ⟨ca⟩)) (hxs : evs L xs.toList = some vs) (C0 : Ct P f args F [] (fun _ G' u => ∃ b, u = B b ∧ G' = [[(b, .cells ⟨C b⟩ e (0, 0))]])) (ha : fi ++ vs ++ ca = args)
  (k : ∀ b F' a' w', (∀ b o, F b = some o → F' b = some o) → (∀ j v, (C b)[j]? = some v → Cel F' b j v) → St n ((d, B b) :: L) w0 F0 K0 F' G a' w' → wpList P ops Q rest a' w') : wpList P ops Q (o :: rest) a w := by
 refine q2p (Gs := []) (Gr := G) S hg hd hn ho hx hxs C0 ha (by simp) fun v F' G' a' w' hv hF S' => ?_
 obtain ⟨b, rfl, rfl⟩ := hv
 have S2 : St n ((d, B b) :: L) w0 F0 K0 F' ([] ++ [(b, .cells ⟨C b⟩ e (0, 0))] :: G) a' w' := S'
 have hle := q2h S2
 refine k b _ a' w' (fun c o h => hle c o (hF c o h)) (fun j v hj => ⟨_, _, _, q01.add_new (p := (b, _)) (List.mem_singleton.2 rfl) (by simp), by simpa using hj⟩) (St.freeze S2)
theorem qpa {ops : Array Oper} {rest : List Oper} {o : Oper} {d : Nat} {x : Operand} {xs : Array Operand} {ts : Array TypeId} {f : FuncId} {fi ca vs args : List Value} {Post : q01 → Value → Prop} [hf : q0b P f] (S : St n L w0 F0 K0 F G a w) (hg : o.guard = none) (hd : o.dst = some d) (hn : Nat.blt d n.sz = true)
  (ho : o.op = .call { callee := .value x, args := xs, argTypes := ts }) (hx : ev L x = some (.func (.func f) ⟨fi⟩ ⟨ca⟩)) (hxs : evs L xs.toList = some vs) (C0 : Ct P f args F [] (fun F' _ u => Post F' u)) (ha : fi ++ vs ++ ca = args)
  (k : ∀ v F' a' w', Post F' v → (∀ b o, F b = some o → F' b = some o) → St n ((d, v) :: L) w0 F0 K0 F' G a' w' → wpList P ops Q rest a' w') : wpList P ops Q (o :: rest) a w := by
 refine q2p (Gs := []) (Gr := G) S hg hd hn ho hx hxs C0 ha (by simp) fun v F' G' a' w' hv hF S' => ?_
 exact k v F' a' w' hv hF ⟨S'.fr, S'.tr.sub (by rw [List.flatten_append]; exact List.sublist_append_right _ _)⟩
variable {ops : Array Oper} {rest : List Oper} {o : Oper} {ro : Option Nat}
theorem CallsIn.enter0 {f : FuncId} {fn : Func} {c : Code} {args : List Value} {k : Nat} {R : Ending → World → Prop} (hf : P.funcs[f]? = some fn) (hb : fn.body = some c) (hn : fn.ntmps = k) (hl : Nat.ble args.length k = true) (hat : At w F [])
  (h : ∀ a, St (OfNat.ofNat k) (number 0 args) w F [] F [] a w → c.wpIn (WF none) 0 P (bodyPost P fn R) a w) : CallsIn Fence.wide 0 P f ⟨args⟩ w R := by
 have hl' := Nat.le_of_ble_eq_true hl
 have := callsIn_of_wp (F := WF none) (n := 0) (args := ⟨args⟩) hf hb trivial (h _ ⟨⟨?_, rfl, fun t v e => ?_⟩, hat.tr⟩) rfl
 ·exact this
 ·show _ = k
  simp [hn]; omega
 ·obtain ⟨_, h2⟩ := q4t _ _ _ _ e
  simp only [Nat.sub_zero] at h2
  have := (List.getElem?_eq_some_iff.1 h2).1
  rw [Array.getElem?_append_left (by simpa using this)]
  simpa using h2
theorem q8i {d : Nat} {v : Value} (S : St n L w0 F0 K0 F G a w) (hg : o.guard = none) (hd : o.dst = some d) (hn : Nat.blt d n.sz = true) (hnd : q59 o = true) (h : SV P o a w v)
  (k : ∀ a', St n ((d, v) :: L) w0 F0 K0 F G a' w → wpListIn (WF ro) 0 P ops Q rest a' w) : wpListIn (WF ro) 0 P ops Q (o :: rest) a w := by
 refine wpListIn_plain hg fun K hK => ⟨fun _ _ => trivial, ?_⟩
 rw [Oper.semAt_eq _ _ _ (qau hnd)]
 unfold SV at h
 rw [h, Oper.uponIn_value, hd]
 exact hK _ _ (k _ (S.put hn v))
def q1e : q01 := fun _ => none
theorem qkx {d l : Nat} {x : Operand} {xs : Array Operand} {ts : Array TypeId} {vs : List Value} {fn : FuncId} {tmps : Array Value} {zs bd : Code} {R : Ending → World → Prop} (S : St n L w0 F0 K0 F G a w) (hg : o.guard = none) (hd : o.dst = some d) (hn : Nat.blt d n.sz = true)
  (ho : o.op = .call { callee := .value x, args := xs, argTypes := ts }) (hx : ev L x = some (.func (.yield l) ⟨[]⟩ ⟨[]⟩)) (hxs : evs L xs.toList = some vs) (hy : (Instr.yield l ⟨vs⟩).run P w = .ok (.round l fn tmps zs bd) w) (hr : RoundIn Fence.wide 0 P l fn tmps zs bd w R)
  (k : ∀ e w', R e w' → ∃ v, e = .returned v ∧ ∀ a', St n ((d, v) :: L) w' q1e [] q1e [] a' w' → wpListIn (WF none) 0 P ops Q rest a' w') : wpListIn (WF none) 0 P ops Q (o :: rest) a w := by
 refine wpListIn_plain hg fun K hK => ⟨fun _ _ => trivial, ?_⟩
 rw [Oper.semAt_eq _ _ _ (fun c e => by rw [ho] at e; cases e)]
 have e1 : xs.map a.eval = ⟨vs⟩ := by
  have := S.fr.evals hxs
  apply Array.ext'; simpa using this
 have e2 : (execOp a.eval o).run P w = .ok (.round l fn tmps zs bd) w := by
  unfold execOp
  rw [ho]
  simp only [resolve, S.fr.eval hx, Deferred.ofValue, e1, Sem.run_bind, Sem.run_pure, Result.andThen_ok, invoke]
  simpa using hy
 rw [e2, Oper.uponIn_round]
 refine ⟨(fun h => by cases h), RoundIn.mono (F := Fence.wide) hr fun e w' hR => ?_⟩
 obtain ⟨v, rfl, hk⟩ := k e w' hR
 rw [hd]
 exact hK _ _ (hk _ ⟨S.fr.put v hn, At.tr (G := []) ⟨(fun _ _ h => by cases h), (fun _ h => by cases h), List.nodup_nil⟩⟩)
end
section
variable {P : Program} {ops : Array Oper} {Q : Exit → Act → World → Prop} {Kw : World → Prop}
def YK (P : Program) (ops : Array Oper) (Kw : World → Prop) (st : Bool) (o : Oper) (v : Value) (a : Act) (w : World) : Prop :=
 match st with | true => YA P ops o v a w | false => ∀ w, Kw w → YA P ops o v a w
theorem YK.at {st o v a w} (h : YK P ops Kw st o v a w) (hw : Kw w) : YA P ops o v a w := by cases st <;> first | exact h | exact h w hw
theorem YK.of {st o v a w} (h : YB P ops st o v a w) : YK P ops Kw st o v a w := by
 cases st
 ·exact fun w _ => h w
 ·exact h
theorem qf5 {j : Nat} {oi oj : Oper} {v : Value} {w : World} (hj : ops[j]? = some oj) (hap : oi.apart ops oj = true)
  (hsi : ∀ cs b, oi.op ≠ .select cs b) (hsj : ∀ cs b, oj.op ≠ .select cs b) {K : Act → World → Prop} {a : Act} {st : Bool}
  (hy : YK P ops Kw st oi v a w) (hst : st = true → q56 oj.op = true)
  (h : wpOp P ops (Qn Q) j K (a.put oi.dst v) w) :
  wpOp P ops (Qn Q) j (fun a' w' => YK P ops Kw st oi v a' w' ∧ K (a'.put oi.dst v) w') a w := by
 cases st with
 | true =>
  have hy' : YB P ops true oi v a w := hy
  exact wpOp_put hj hap hsi hsj hy' hst h
 | false =>
  obtain ⟨h1, h2, h3⟩ := Oper.apart_spec hap
  have keep : ∀ u, ∀ w, YA P ops oi v a w → YA P ops oi v (a.put oj.dst u) w := fun u w hy =>
   hy.same (execOp_put oi hsi a oj.dst u h3) (wanted_put oi a oj.dst u h3)
  have keepA : ∀ u w', YK P ops Kw false oi v (a.put oj.dst u) w' := fun u _ w hw => keep u w (hy w hw)
  unfold wpOp at *
  simp only [hj] at *
  rw [wanted_put oj a oi.dst v h1] at h
  split
  ·rename_i hw
   simp only [hw, if_true] at h
   rcases h with h | h
   ·refine .inl ?_
    unfold Oper.wp at *
    rw [execOp_put oj hsj a oi.dst v h1] at h
    generalize (execOp a.eval oj).run P w = r at *
    cases r with
    | ok n w' =>
     cases n <;> simp only [Oper.upon] at h ⊢
     case value u => exact ⟨keepA u _, by rw [← Act.put_comm a v u h2]; exact h⟩
     case skip => exact ⟨keepA _ _, by rw [← Act.put_comm a v undef h2]; exact h⟩
     case defer d =>
      refine ⟨fun w hw => (keep undef w (hy w hw)).same ?_ ?_, ?_⟩
      ·cases oj.dst <;> rfl
      ·cases oj.dst <;> rfl
      ·have := Act.put_comm ({ a with defers := d :: a.defers }) (y := oj.dst) v undef h2
       rw [← this, ← Act.put_defers]
       exact h
     case enter f args =>
      refine Calls.mono h fun e w'' he => ?_
      cases e <;> first
       | exact he.elim
       | exact absurd he q4i
       | exact ⟨keepA _ _, by rw [← Act.put_comm a v _ h2]; exact he⟩
     case row row args => exact Rows.mono h fun u w'' he => ⟨keepA _ _, by rw [← Act.put_comm a v _ h2]; exact he⟩
    | halt x w' => cases x <;> simp only [Oper.upon] at h ⊢ <;> exact h.elim
   ·exact absurd h.2 q4i
  ·rename_i hw
   simp only [hw] at h
   exact ⟨keepA undef _, by rw [← Act.put_comm a v undef h2]; exact h⟩
def q6m (P : Program) (ops : Array Oper) (Q : Exit → Act → World → Prop) (Kw : World → Prop) : Nat → Array Bool → Act → World → Prop
 | 0, listed, a, w => Kw w ∧ Region.ready .any ops listed = [] ∧ Q .normal a w
 | fuel + 1, listed, a, w => Kw w ∧ (Region.ready .any ops listed = [] → Q .normal a w) ∧ ∀ i ∈ Region.ready .any ops listed, wpOp P ops Q i (q6m P ops Q Kw fuel (listed.setIfInBounds i true)) a w
theorem q6m.any : ∀ {fuel : Nat} {listed : Array Bool} {a : Act} {w : World}, q6m P ops Q Kw fuel listed a w → wpAny P .any ops Q fuel listed a w
 | 0, _, _, _, h => h.2
 | fuel + 1, _, _, _, h => ⟨h.2.1, fun i hi => wpOp_mono (fun _ _ h => q6m.any h) (h.2.2 i hi)⟩
theorem q6m.kw {fuel : Nat} {listed : Array Bool} {a : Act} {w : World} (h : q6m P ops Q Kw fuel listed a w) : Kw w := by cases fuel <;> exact h.1
theorem qfd {i : Nat} {oi : Oper} {v : Value} {st : Bool} (hi : ops[i]? = some oi) (hsel : ∀ (j : Nat) (o : Oper) cs b, ops[j]? = some o → o.op ≠ .select cs b) :
  ∀ (fuel : Nat) (listed : Array Bool) (a : Act) (w : World), Closed ops listed →
   (∀ j oj, ops[j]? = some oj → j ≠ i → listed.getD j true = false → (∀ e ∈ oj.after, Region.binds .any e = true → e.on ≠ i) → oi.apart ops oj = true) →
   (st = true → ∀ j oj, ops[j]? = some oj → j ≠ i → listed.getD j true = false → q56 oj.op = true ∨ ∃ n, twB ops n j i = true) →
   i ∈ Region.ready .any ops listed → YK P ops Kw st oi v a w →
   q6m P ops (Qn Q) Kw fuel (listed.setIfInBounds i true) (a.put oi.dst v) w → q6m P ops (Qn Q) Kw (fuel + 1) listed a w := by
 intro fuel
 induction fuel with
 | zero =>
  intro listed a w _ _ _ hr hy H
  refine ⟨H.kw, fun h => (by rw [h] at hr; cases hr), fun j hj => ?_⟩
  by_cases hji : j = i
  ·subst hji; exact (hy.at H.kw).wpOp hi H
  ·have := ready_mono hj hji
   rw [H.2.1] at this
   cases this
 | succ fuel ih =>
  intro listed a w hc hfree hq hr hy H
  refine ⟨H.kw, fun h => (by rw [h] at hr; cases hr), fun j hj => ?_⟩
  by_cases hji : j = i
  ·subst hji; exact (hy.at H.kw).wpOp hi H
  ·have h1 := H.2.2 j (ready_mono hj hji)
   obtain ⟨hjun, oj, hoj, hall⟩ := mem_ready.1 hj
   have hun := (mem_ready.1 hr).1
   have hnot : ∀ e ∈ oj.after, Region.binds .any e = true → e.on ≠ i := fun e he hb heq => by
    have h1 := hall e he hb
    rw [heq] at h1
    have := getD_both hun
    rw [h1] at this; cases this
   have hqj : st = true → q56 oj.op = true := fun hs => by
    rcases hq hs j oj hoj hji hjun with h | ⟨n, h⟩
    ·exact h
    ·have := q9p hc n j h (fun ok hk e he hb => by
      have : ok = oj := Option.some.inj (hk.symm.trans hoj)
      subst this
      exact hall e he hb)
     rw [getD_both hun] at this; cases this
   have h2 := qf5 hoj (hfree j oj hoj hji hjun hnot) (fun cs b => hsel i oi cs b hi) (fun cs b => hsel j oj cs b hoj) hy hqj h1
   refine wpOp_mono (fun a' w' h3 => ih (listed.setIfInBounds j true) a' w' (hc.set hj) (fun k ok hk hki hun' hno => ?_) (fun hs k ok hk hki hun' => ?_) (ready_mono hr (Ne.symm hji)) h3.1 ?_) h2
   ·refine hfree k ok hk hki ?_ hno
    by_cases hjk : j = k
    ·subst hjk; exact hjun
    ·rw [getD_set_ne true hjk] at hun'; exact hun'
   ·refine hq hs k ok hk hki ?_
    by_cases hjk : j = k
    ·subst hjk; exact hjun
    ·rw [getD_set_ne true hjk] at hun'; exact hun'
   ·rw [Array.setIfInBounds_comm _ _ hji]
    exact h3.2
def q6o (ops : Array Oper) (pf late : List Nat) : Nat → Nat → Array Bool → Bool
 | 0, _, listed => (Region.ready .any ops listed).isEmpty
 | fuel + 1, k, listed =>
  (bif pf.contains k then (Region.ready .any ops listed).contains k && Region.free .any ops listed k && (match ops[k]? with
    | some o => !(stOp o.op && !late.contains k) || (List.range ops.size).all fun j => j == k || listed.getD j true || (match ops[j]? with | some oj => q56 oj.op || twB ops ops.size j k | none => true)
    | none => false)
   else decide (Region.ready .any ops listed = [k])) && q6o ops pf late fuel (k + 1) (listed.setIfInBounds k true)
def qwl (ops : Array Oper) (pf late : List Nat) : Bool := Region.noSelect ops && q6o ops pf late ops.size 0 (Array.replicate ops.size false)
def wpG (P : Program) (ops : Array Oper) (Q : Exit → Act → World → Prop) (Kw : World → Prop) (pf late : List Nat) : Nat → List Oper → Act → World → Prop
 | _, [], a, w => Kw w ∧ Q .normal a w
 | k, o :: r, a, w => if pf.contains k = true then ∃ v, YK P ops Kw (stOp o.op && !late.contains k) o v a w ∧ wpG P ops Q Kw pf late (k + 1) r (a.put o.dst v) w
  else Kw w ∧ (if Region.wanted o (yielded ops a.tmps) then o.wp P a w (wpG P ops Q Kw pf late (k + 1) r) (Qn Q) else wpG P ops Q Kw pf late (k + 1) r (a.put o.dst undef) w)
theorem q9b {pf late : List Nat} (hs : Region.noSelect ops = true) : ∀ (l : List Oper) (k : Nat) (listed : Array Bool) (a : Act) (w : World), (∀ j, l[j]? = ops[k + j]?) → Closed ops listed →
  q6o ops pf late l.length k listed = true → wpG P ops Q Kw pf late k l a w → q6m P ops (Qn Q) Kw l.length listed a w
 | [], _, _, _, _, _, _, hB, h => ⟨h.1, by simpa [q6o] using hB, h.2⟩
 | o :: l, k, listed, a, w, hl, hc, hB, h => by
  have h0 : ops[k]? = some o := by simpa using (hl 0).symm
  have hl' : ∀ j, l[j]? = ops[k + 1 + j]? := fun j => by have := hl (j + 1); simpa [Nat.add_assoc, Nat.add_comm 1 j] using this
  simp only [qaC, q6o, Bool.and_eq_true] at hB
  obtain ⟨hb, hB'⟩ := hB
  unfold wpG at h
  by_cases hpf : pf.contains k = true
  ·rw [if_pos hpf] at h
   simp only [hpf, cond_true, Bool.and_eq_true, h0] at hb
   obtain ⟨⟨hr, hf⟩, hq⟩ := hb
   have hr' : k ∈ Region.ready .any ops listed := by simpa using hr
   obtain ⟨v, hy, hK⟩ := h
   refine qfd h0 (Region.noSelect_spec hs) l.length listed a w hc (Region.free_spec h0 hf) (fun hst j oj hj hji hun => ?_) hr' hy
    (q9b hs l (k + 1) _ _ _ hl' (hc.set hr') hB' hK)
   rw [hst] at hq
   simp only [Bool.not_true, Bool.false_or, List.all_eq_true, List.mem_range] at hq
   have := hq j (Array.getElem?_eq_some_iff.1 hj).1
   simp only [hj, Bool.or_eq_true, beq_iff_eq, hji, false_or, hun, Bool.false_eq_true] at this
   rcases this with h | h
   ·exact .inl h
   ·exact .inr ⟨_, h⟩
  ·rw [if_neg hpf] at h
   have hpf' : pf.contains k = false := by simpa using hpf
   obtain ⟨hkw, h⟩ := h
   simp only [hpf', cond_false, decide_eq_true_eq] at hb
   have hr' : k ∈ Region.ready .any ops listed := by rw [hb]; simp
   refine ⟨hkw, fun h => (by rw [h] at hb; cases hb), fun i hi => ?_⟩
   rw [hb] at hi
   simp only [List.mem_singleton] at hi
   subst hi
   unfold wpOp
   simp only [h0]
   split
   ·rename_i hw
    rw [if_pos hw] at h
    exact .inl (Oper.wp_mono (fun a' w' h' => q9b hs l _ _ _ _ hl' (hc.set hr') hB' h') h)
   ·rename_i hw
    rw [if_neg hw] at h
    exact q9b hs l _ _ _ _ hl' (hc.set hr') hB' h
theorem qko {a : Act} {w : World} {l : List Oper} (pf late : List Nat) (hB : qwl l.toArray pf late = true)
  (h : wpG P l.toArray Q Kw pf late 0 l a w) : wpAny P .any l.toArray (Qn Q) l.toArray.size (Array.replicate l.toArray.size false) a w := by
 simp only [qwl, Bool.and_eq_true] at hB
 have h2 := q9b (Q := Q) hB.1 l 0 (Array.replicate l.toArray.size false) a w (by simp) (fun j oj _ hl => by rw [getD_replicate_false] at hl; cases hl) (by simpa using hB.2) h
 simpa using h2.any
def KwL : List (Nat × Obj) → World → Prop
 | [], _ => True
 | p :: r, w => w.heap[p.1]? = some p.2 ∧ KwL r w
class KOf (G : List Grp) (bl : List Nat) (Kl : outParam (List (Nat × Obj))) : Prop where h : True
instance {G : List Grp} : KOf G [] [] := ⟨trivial⟩
instance {G : List Grp} {b : Nat} {o : Obj} {R} {r : List Nat} {Kl} [Has G b o R] [KOf G r Kl] : KOf G (b :: r) ((b, o) :: Kl) := ⟨trivial⟩
variable {n : Sz} {L : List (Nat × Value)} {w0 : World} {F0 : q01} {K0 : List Nat} {F : q01} {G : List Grp} {a : Act} {w : World} {T : Act → Prop} {rest : List Oper} {o : Oper} {Kl : List (Nat × Obj)} {late : List Nat}
theorem q5v {id : Nat} {l : List Oper} (pf late : List Nat) (bl : List Nat) [hK : KOf G bl Kl] (S : St n L w0 F0 K0 F G a w) (hm : P.follows .mixedOrders = true) (hB : qwl l.toArray pf late = true)
  (h : ∀ w, St n L w0 F0 K0 F G a w → wpG P l.toArray Q (KwL Kl) pf late 0 l a w) : (Code.region id l.toArray true).wp P Q a w := by
 refine wp_mono (Q := Qn Q) (wp_region_any hm (qko pf late hB (h _ ⟨S.fr, S.tr.drew⟩))) fun e a w h => ?_
 cases e <;> first | exact h | exact h.elim
variable {pf : List Nat}
theorem q0r {k : Nat} (hpf : pf.contains k = true) (hst : (stOp o.op && late.contains k) = false) (h : q26 P ops w (fun a' => wpG P ops Q (KwL Kl) pf late (k + 1) rest a' w) [o] a) : wpG P ops Q (KwL Kl) pf late k (o :: rest) a w := by
 obtain ⟨v, hy, h⟩ := h
 unfold wpG
 rw [if_pos hpf]
 refine ⟨v, ?_, h⟩
 have e : (stOp o.op && !late.contains k) = stOp o.op := by revert hst; cases stOp o.op <;> cases late.contains k <;> simp
 rw [e]
 exact YK.of hy
theorem q0q {k d b : Nat} {v : Value} {ob : Obj} (S : St n L w0 F0 K0 F G a w) (hpf : pf.contains k = true) (hg : o.guard = none) (hd : o.dst = some d) (hn : Nat.blt d n.sz = true) (hlt : (stOp o.op && !late.contains k) = false) (hKl : ∀ w', KwL Kl w' → w'.heap[b]? = some ob)
  (h : ∀ w', St n L w' q1e (keys [[(b, ob)]]) q1e [[(b, ob)]] a w' → SV P o a w' v) (kk : ∀ a', St n ((d, v) :: L) w0 F0 K0 F G a' w → wpG P ops Q (KwL Kl) pf late (k + 1) rest a' w) : wpG P ops Q (KwL Kl) pf late k (o :: rest) a w := by
 unfold wpG
 rw [if_pos hpf]
 refine ⟨v, ?_, by rw [hd]; exact kk _ (S.put hn v)⟩
 rw [hlt]
 exact fun w' hw => .inl ⟨by simp [Region.wanted, hg], h w' ⟨S.fr, At.tr (G := [[(b, ob)]]) ⟨(fun _ _ h => by cases h), (fun p hp => by simp only [qaF, List.flatten_nil, qaE, List.mem_singleton] at hp; subst hp; exact ⟨hKl w' hw, rfl⟩), by simp [keys]⟩⟩⟩
def QK (K : Act → World → Prop) : Exit → Act → World → Prop
 | .normal, a, w => K a w
 | _, _, _ => False
theorem q5s {k : Nat} (hk : KwL Kl w) (h : Q .normal a w) : wpG P ops Q (KwL Kl) pf late k [] a w := ⟨hk, h⟩
theorem q2q {k : Nat} (hpf : pf.contains k = false) (hk : KwL Kl w) (h : wpList P ops (QK (wpG P ops Q (KwL Kl) pf late (k + 1) rest)) [o] a w) : wpG P ops Q (KwL Kl) pf late k (o :: rest) a w := by
 unfold wpG
 rw [if_neg (by rw [hpf]; simp)]
 refine ⟨hk, ?_⟩
 unfold wpList at h
 split
 ·rename_i hw
  rw [if_pos hw] at h
  rcases h with h | h
  ·unfold Oper.wp at *
   generalize (execOp a.eval o).run P w = r at *
   unfold Oper.upon at *
   split at h
   ·exact h
   ·exact h
   ·exact h
   ·refine Calls.mono h fun e w'' he => ?_
    cases e with
    | returned v => exact he
    | panicked c => exact he.elim
    | outgrown => obtain ⟨_, _, h⟩ := he; exact h.elim
   ·exact Rows.mono h fun v w'' he => he
   ·exact h.elim
   ·exact h.elim
  ·obtain ⟨_, _, h⟩ := h.2; exact h.elim
 ·rename_i hw
  rw [if_neg hw] at h
  exact h
theorem qn9 {t e : TypeId} {m sz by1 by2 sz2 : Nat} {parts : Array (Nat × Operand)} {xs : List Operand} {vs : List Value} {z ze : Value} [ht : Und P t (.array m e)] [hi : Inf P t z sz2 by1] [he : Inf P e ze sz by2] (S : St n L w0 F0 K0 F G a w) (ho : o.op = .build t parts)
  (hp : qgv 0 parts.toList = some xs) (hx : evs L xs = some vs) (hv : ∀ v ∈ vs, v.cells.toList.length = sz) (hz : z.cells.size = vs.length * sz) : SV P o a w (.agg ⟨vs.flatMap (·.cells.toList)⟩) := by
 have h1 := q91 sz vs 0 z.cells hv (by rw [hz, Nat.zero_add])
 have h7 : (parts.map fun (i, x) => (i, a.eval x)).toList = idx 0 vs := congrArg Array.toList (S.evalParts (qca hp) hx)
 unfold SV execOp
 rw [ho]
 simp only [Instr.build, Sem.run_bind, q4q hi, Result.andThen_ok, run_underlying ht.h, run_sizeOf he, h7, h1, Sem.run_pure]
 simp
end
