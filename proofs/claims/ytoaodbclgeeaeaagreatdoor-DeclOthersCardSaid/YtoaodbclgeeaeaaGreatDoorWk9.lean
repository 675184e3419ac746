/- The law of a range over a function that hands out the elements of a slice from its end; a function's end behind such a range. Nothing here knows the program. -/
import Derived.Test.YtoaodbclgeeaeaaGreatDoorWk8
namespace Go.Wk
open Go
set_option linter.unusedSimpArgs false
set_option linter.unusedVariables false
set_option linter.unusedVariables false

section
variable {P : Program} {n : Sz} {L : List (Nat × Value)} {w0 : World} {F0 : Heap} {K0 : List Nat} {F : Heap} {G : List Grp} {a : Act} {w : World} {Q : Exit → Act → World → Prop}

/-- The function gf, with the box bx, hands yield the pairs (j, f j), j from k - 1 down to 0. -/
def BackIter (P : Program) (gf bx k : Nat) (f : Nat → Nat) (F : Heap) : Prop :=
  ∀ (l : Nat) (J : Nat → World → Prop) (Jx : World → Prop) (W : World), (∀ j W, J j W → At W F []) → J k W →
    (∀ (j : Nat) (W1 : World), j < k → J (j + 1) W1 → ∃ fn tmps as bd, (Instr.yield l #[.int .i64 (j : Int), .int .i64 ((f j : Nat) : Int)]).run P W1 = .ok (.round l fn tmps as bd) W1 ∧
      RoundIn Fence.wide 0 P l fn tmps as bd W1 (fun e W' => (e = .returned (.bool true) ∧ J j W') ∨ (e = .returned (.bool false) ∧ Jx W'))) →
    CallsIn Fence.wide 0 P gf #[.func (.yield l) #[] #[], .pointer (some ⟨bx, 0, none⟩)] W (fun e W' => (∃ v, e = .returned v) ∧ (J 0 W' ∨ Jx W'))

theorem Tr.putObj {G1 G2 : List Grp} {b : Nat} {o o' : Obj} (h : Tr w0 F0 K0 w F (G1 ++ [(b, o)] :: G2)) : Tr w0 F0 K0 (w.putObj b o') F (G1 ++ [(b, o')] :: G2) := by
  have hb := (h.own (b, o) (by simp [List.flatten_append, List.flatten_cons])).1
  exact h.write rfl rfl rfl (by simp) (World.putObj_heap_same (heap_lt hb)) fun k hk => World.putObj_heap_other hk
theorem Tr.get {G1 G2 : List Grp} {b : Nat} {o : Obj} (h : Tr w0 F0 K0 w F (G1 ++ [(b, o)] :: G2)) : w.heap[b]? = some o := (h.own (b, o) (by simp [List.flatten_append, List.flatten_cons])).1
theorem At.to0 (h : At w F G) : At w F [] := ⟨h.frz, fun p hp => by simp at hp, by simp [keys]⟩

/-- How a round may be left. -/
def roundP (W1 : World) (F1 : Heap) (G1 : List Grp) (F : Heap) (I : Nat → Heap → List Grp → Prop) (Ir : Heap → List Grp → Prop) (j : Nat) : Exit → Act → World → Prop
  | .normal, _, W' => ∃ F2 G2, Tr W1 F1 (keys G1) W' F2 G2 ∧ I j F2 G2
  | .ret, _, W' => ∃ F2 G2, Tr W1 F1 (keys G1) W' F2 G2 ∧ Ir F2 G2
  | _, _, _ => False
instance {W1 F1 G1 F I Ir j} : NoOut (roundP W1 F1 G1 F I Ir j) := ⟨fun ⟨_, _, q⟩ => q⟩

theorem wpi_back {g : Operand} {p q : Tmp} {assign body : Code} {gf bx k : Nat} {f : Nat → Nat} [hfn : HasFn P gf]
    (S : St n L w0 F0 K0 F G a w) (hds : n.ds = []) (hp : Nat.blt p n.sz = true) (hq : Nat.blt q n.sz = true) (hg : ev L g = some (.func (.func gf) ⟨[]⟩ ⟨[.pointer (some ⟨bx, 0, none⟩)]⟩)) (iter : BackIter P gf bx k f F)
    (I : Nat → Heap → List Grp → Prop) (Ir : Heap → List Grp → Prop) (h0 : I k F G) (Lr : Nat → List (Nat × Value))
    (hassign : ∀ (r j : Nat) (W : World) (F1 : Heap) (G1 : List Grp) (a0 : Act) (K : Act → World → Prop), St n ((q, .int .i64 ((f j : Nat) : Int)) :: (p, .int .i64 (j : Int)) :: L) W F1 (keys G1) F1 G1 a0 W →
      (∀ a', St n (Lr j) W F1 (keys G1) F1 G1 a' W → K a' W) → assign.wpIn (WF (some r)) 0 P (Exit.then K (fun _ _ _ => False)) a0 W)
    (hround : ∀ (r j : Nat) (W : World) (F1 : Heap) (G1 : List Grp) (a' : Act), j < k → (∀ b o, F b = some o → F1 b = some o) → I (j + 1) F1 G1 → St n (Lr j) W F1 (keys G1) F1 G1 a' W →
      body.wpIn (WF (some r)) 0 P (roundP W F1 G1 F I Ir j) a' W)
    (hdone : ∀ (D : Nat) (F1 : Heap) (G1 : List Grp) (a' : Act) (w' : World), (∀ b o, F b = some o → F1 b = some o) → I 0 F1 G1 →
      St ⟨n.sz, [{ target := .collected D, args := #[] }]⟩ L w0 F0 K0 F1 ([(D, .deferred (some []))] :: G1) a' w' → Q .normal a' w')
    (hret : ∀ (D : Nat) (F1 : Heap) (G1 : List Grp) (a' : Act) (w' : World), (∀ b o, F b = some o → F1 b = some o) → Ir F1 G1 →
      St ⟨n.sz, [{ target := .collected D, args := #[] }]⟩ L w0 F0 K0 F1 ([(D, .deferred (some []))] :: G1) a' w' → Q .ret a' w') :
    (Code.rangeFunc g #[p, q] assign body).wpIn (WF none) 0 P Q a w := by
  refine wpIn_rangeFunc ?_
  intro fn _
  rw [show (WF none).round = none from rfl]
  obtain ⟨rec, hrec⟩ : ∃ rec : LoopState → Option Code → Loop, rec = fun st pe => { state := st, pending := pe, fn, tmps := a.tmps, params := #[p, q], assign, body, defers := w.heap.size } := ⟨_, rfl⟩
  obtain ⟨W1, hW1⟩ : ∃ W1, (w.alloc (.deferred (some []))).alloc (.loop (rec .ready none)) = W1 := ⟨_, rfl⟩
  have hT1 : Tr w0 F0 K0 W1 F ([(w.heap.size + 1, .loop (rec .ready none))] :: [(w.heap.size, .deferred (some []))] :: G) := by
    have := (S.tr.alloc (.deferred (some []))).alloc (.loop (rec .ready none))
    rw [World.size_alloc, hW1] at this
    exact this
  generalize hD : w.heap.size = D at hT1 hrec
  have heval : a.eval g = .func (.func gf) #[] #[.pointer (some ⟨bx, 0, none⟩)] := S.fr.eval hg
  refine ⟨D + 1, [{ target := .collected D, args := #[] }], W1, { target := .fn (.func gf) #[.pointer (some ⟨bx, 0, none⟩)], args := #[.func (.yield (D + 1)) #[] #[]] }, W1, gf, #[.func (.yield (D + 1)) #[] #[], .pointer (some ⟨bx, 0, none⟩)], W1, ?_, ?_, ?_, ?_, (fun h => by cases h), ?_⟩
  · rw [← hW1, hrec, ← hD]; exact run_enterLoop_outer _ _ _ _ _
  · simp only [rangeCall, resolve, heval, Sem.run_pure]
    simp [Deferred.ofValue, Act.eval]
  · exact fun _ _ => trivial
  · simp only [invoke]
    exact run_callFunc hfn _
  · have hnf : (D : Nat) = w.heap.size := hD.symm
    refine (iter (D + 1)
      (fun j W => ∃ F1 G1, (∀ b o, F b = some o → F1 b = some o) ∧ I j F1 G1 ∧ Tr w0 F0 K0 W F1 ([] ++ [(D + 1, .loop (rec .ready none))] :: [(D, .deferred (some []))] :: G1))
      (fun W => ∃ F1 G1, (∀ b o, F b = some o → F1 b = some o) ∧ Ir F1 G1 ∧ Tr w0 F0 K0 W F1 ([] ++ [(D + 1, .loop (rec .done (some .ret)))] :: [(D, .deferred (some []))] :: G1))
      W1 (fun j W h => by
        obtain ⟨F1, G1, hF, _, ht⟩ := h
        exact ⟨fun b o hb => ht.frz b o (hF b o hb), fun p hp => by simp at hp, by simp [keys]⟩) ⟨F, G, fun _ _ h => h, h0, hT1⟩ ?_).mono ?_
    · rintro j W hj ⟨F1, G1, hF, hi, ht⟩
      have hl := ht.get
      have hy := run_yield (P := P) (args := #[.int .i64 (j : Int), .int .i64 ((f j : Nat) : Int)]) hl (by rw [hrec]; rfl)
      rw [hrec] at hy
      refine ⟨fn, _, assign, body, hy, ?_⟩
      -- the frame of the round
      have hperm : (([] ++ [(D + 1, Obj.loop (rec .ready none))] :: [(D, .deferred (some []))] :: G1 : List Grp)).flatten.Perm (G1.flatten ++ ([[(D + 1, Obj.loop (rec .ready none))], [(D, .deferred (some []))]] : List Grp).flatten) := by
        simp only [List.nil_append, List.flatten_cons, List.flatten_nil, List.append_nil, List.cons_append]
        exact (List.perm_append_comm (l₁ := [_, _]) (l₂ := G1.flatten))
      have hat : At W F1 G1 := ht.at_sub hperm
      have hfr0 : Fr n L { tmps := a.tmps, defers := [] } := ⟨S.fr.size, hds.symm, fun t v e => S.fr.get t v e⟩
      have hfr1 := (hfr0.put (.int .i64 (j : Int)) hp).put (.int .i64 ((f j : Nat) : Int)) hq
      refine roundIn_of_wpIn (F := Fence.wide) trivial ?_
      refine hassign (D + 1) j W F1 G1 _ _ ⟨by simpa [Act.put] using hfr1, hat.tr⟩ fun a' S1 => ?_
      refine ⟨_, run_beginRound hl (by rw [hrec]), ?_⟩
      have ht2 : Tr w0 F0 K0 (W.putObj (D + 1) (.loop { rec .ready none with state := .busy })) F1 ([] ++ [(D + 1, .loop { rec .ready none with state := .busy })] :: [(D, .deferred (some []))] :: G1) := ht.putObj
      generalize hW2 : W.putObj (D + 1) (.loop { rec .ready none with state := .busy }) = W2 at ht2
      have hperm2 : (([] ++ [(D + 1, Obj.loop { rec .ready none with state := .busy })] :: [(D, .deferred (some []))] :: G1 : List Grp)).flatten.Perm (G1.flatten ++ ([[(D + 1, Obj.loop { rec .ready none with state := .busy })], [(D, .deferred (some []))]] : List Grp).flatten) := by
        simp only [List.nil_append, List.flatten_cons, List.flatten_nil, List.append_nil, List.cons_append]
        exact (List.perm_append_comm (l₁ := [_, _]) (l₂ := G1.flatten))
      have hat2 : At W2 F1 G1 := ht2.at_sub hperm2
      refine wpIn_mono (hround (D + 1) j W2 F1 G1 a' hj hF hi ⟨S1.fr, hat2.tr⟩) fun e a3 W3 hpost => ?_
      have fin : ∀ (jump : Option Code) (F2 : Heap) (G2 : List Grp), Tr W2 F1 (keys G1) W3 F2 G2 → ∃ W4, (Instr.endRound (D + 1) jump).run P W3 = .ok (.bool jump.isNone) W4 ∧
          (∀ b o, F b = some o → F2 b = some o) ∧ Tr w0 F0 K0 W4 F2 ([] ++ [(D + 1, .loop (rec (if jump.isNone then .ready else .done) jump))] :: [(D, .deferred (some []))] :: G2) := fun jump F2 G2 h => by
        have hc := ht2.call hperm2 h
        have hc2 : Tr w0 F0 K0 W3 F2 ([] ++ [(D + 1, .loop { rec .ready none with state := .busy })] :: [(D, .deferred (some []))] :: G2) := hc.perm (by
          simp only [List.nil_append, List.flatten_cons, List.flatten_nil, List.append_nil, List.cons_append, List.flatten_append]
          exact (List.perm_append_comm (l₁ := G2.flatten) (l₂ := [_, _])))
        have hl3 := hc2.get
        refine ⟨_, run_endRound (P := P) jump hl3, fun b o hb => h.ext b o (hF b o hb), ?_⟩
        have := hc2.putObj (o' := .loop { rec .ready none with state := if jump.isNone then .ready else .done, pending := jump })
        rw [hrec] at this ⊢
        exact this
      cases e with
      | normal =>
        obtain ⟨F2, G2, h1, h2⟩ := hpost
        obtain ⟨W4, hr, hF2, ht4⟩ := fin none F2 G2 h1
        exact ⟨_, _, hr, .inl ⟨rfl, F2, G2, hF2, h2, ht4⟩⟩
      | ret =>
        obtain ⟨F2, G2, h1, h2⟩ := hpost
        obtain ⟨W4, hr, hF2, ht4⟩ := fin (some .ret) F2 G2 h1
        exact ⟨_, _, hr, .inr ⟨rfl, F2, G2, hF2, h2, ht4⟩⟩
      | exit id => exact hpost.elim
      | goto t => exact hpost.elim
      | panic ch => exact hpost.elim
      | outgrown => exact hpost.elim
    · have hmark : ∀ (F1 : Heap) (G1 : List Grp) (st : LoopState) (pe : Option Code) (W2 : World), Tr w0 F0 K0 W2 F1 ([] ++ [(D + 1, .loop (rec st pe))] :: [(D, .deferred (some []))] :: G1) →
          St ⟨n.sz, [{ target := .collected D, args := #[] }]⟩ L w0 F0 K0 F1 ([(D, .deferred (some []))] :: G1) { a with defers := [{ target := .collected D, args := #[] }] ++ a.defers } (W2.putObj (D + 1) (.loop { rec st pe with state := .exhausted })) := fun F1 G1 st pe W2 ht => by
        refine ⟨⟨S.fr.size, ?_, fun t v e => S.fr.get t v e⟩, ?_⟩
        · show _ ++ a.defers = _
          rw [S.fr.df, hds]; rfl
        · have := ht.putObj (o' := .loop { rec st pe with state := .exhausted })
          exact this.sub (by simp only [List.nil_append, List.flatten_cons]; exact List.sublist_append_right _ _)
      rintro e W2 ⟨⟨v, rfl⟩, (⟨F1, G1, hF, hi, ht⟩ | ⟨F1, G1, hF, hi, ht⟩)⟩
      · have := run_endLoop (P := P) ht.get (by rw [hrec]; simp)
        refine ⟨none, _, by rw [hrec] at this; exact this, ?_⟩
        have hm := hmark F1 G1 _ _ _ ht
        rw [hrec] at hm
        exact hdone D F1 G1 _ _ hF hi hm
      · have := run_endLoop (P := P) ht.get (by rw [hrec]; simp)
        refine ⟨some .ret, _, by rw [hrec] at this; exact this, ?_⟩
        have hm := hmark F1 G1 _ _ _ ht
        rw [hrec] at hm
        exact wpIn_ret (hret D F1 G1 _ _ hF hi hm)

theorem round_normal {W1 W' : World} {F1 F2 : Heap} {G1 G2 : List Grp} {I Ir} {j : Nat} (h : Tr W1 F1 (keys G1) W' F2 G2) (hi : I j F2 G2) : roundP W1 F1 G1 F I Ir j .normal a W' := ⟨F2, G2, h, hi⟩
theorem round_ret {W1 W' : World} {F1 F2 : Heap} {G1 G2 : List Grp} {I Ir} {j : Nat} (h : Tr W1 F1 (keys G1) W' F2 G2) (hi : Ir F2 G2) : roundP W1 F1 G1 F I Ir j .ret a W' := ⟨F2, G2, h, hi⟩

/-- What a contract says of a call's end. -/
def RetP (w0 : World) (F0 : Heap) (K0 : List Nat) (Post : Heap → List Grp → Value → Prop) : Ending → World → Prop := fun e w' => ∃ v F' G', e = .returned v ∧ Tr w0 F0 K0 w' F' G' ∧ Post F' G' v
instance {fn : Func} {w0 F0 K0 Post} : NoOut (bodyPostM (WF none) 0 P fn (RetP w0 F0 K0 Post)) := ⟨fun ⟨_, _, _, _, _, h, _⟩ => by cases h⟩

instance {fn : Func} {X : World → Prop} : NoOut (bodyPost P fn (fun e W' => (∃ v, e = .returned v) ∧ X W')) := ⟨fun ⟨_, _, ⟨_, h⟩, _⟩ => by cases h⟩

theorem post_ret {fn : Func} {R : Ending → World → Prop} {v : Value} (S : St n L w0 F0 K0 F G a w) (h : (results fn a.tmps).run P w = .ok v w) (hR : R (.returned v) w) (hds : n.ds = [] := by rfl) : bodyPost P fn R .ret a w := ⟨S.fr.df.trans hds, v, h, hR⟩
theorem post_end {fn : Func} {R : Ending → World → Prop} {v : Value} (S : St n L w0 F0 K0 F G a w) (h : (results fn a.tmps).run P w = .ok v w) (hR : R (.returned v) w) (hds : n.ds = [] := by rfl) : bodyPost P fn R .normal a w := ⟨S.fr.df.trans hds, v, h, hR⟩

/-- A function whose body holds a range over a function. -/
theorem Ct.enterM {f : FuncId} {fn : Func} {c : Code} {args : List Value} {k : Nat} {Post} (hf : P.funcs[f]? = some fn) (hb : fn.body = some c) (hn : fn.ntmps = k) (hl : Nat.ble args.length k = true)
    (h : ∀ w a, St (OfNat.ofNat k) (number 0 args) w F (keys G) F G a w → c.wpIn (WF none) 0 P (bodyPostM (WF none) 0 P fn (RetP w F (keys G) Post)) a w) : Ct P f args F G Post := by
  intro w hw
  have hl' := Nat.le_of_ble_eq_true hl
  have := callsIn_of_wp_marks (F := WF none) (n := 0) (args := ⟨args⟩) hf hb trivial (h w _ ⟨⟨?_, rfl, fun t v e => ?_⟩, hw.tr⟩) rfl
  · exact callsIn_wide.1 this
  · show _ = k
    simp [hn]; omega
  · obtain ⟨_, h2⟩ := look_number _ _ _ _ e
    simp only [Nat.sub_zero] at h2
    have := (List.getElem?_eq_some_iff.1 h2).1
    rw [Array.getElem?_append_left (by simpa using this)]
    simpa using h2

/-- Its end, no range begun. -/
theorem fin_retN {fn : Func} {Post : Heap → List Grp → Value → Prop} {v : Value} (S : St n L w0 F0 K0 F G a w) (h : (results fn a.tmps).run P w = .ok v w) (hp : Post F G v) (hds : n.ds = [] := by rfl) :
    bodyPostM (WF none) 0 P fn (RetP w0 F0 K0 Post) .ret a w := by
  show LeavesInM (WF none) 0 P fn a.tmps (RetP w0 F0 K0 Post) a.defers .returning w
  rw [S.fr.df, hds]
  exact ⟨v, h, v, F, G, rfl, S.tr, hp⟩
/-- Its end behind the range. -/
theorem fin_retM {fn : Func} {Post : Heap → List Grp → Value → Prop} {k D : Nat} {R} (S : St ⟨k, [{ target := .collected D, args := #[] }]⟩ L w0 F0 K0 F G a w) [hh : Has G D (.deferred (some [])) R]
    (h : ∀ w', St ⟨k, [{ target := .collected D, args := #[] }]⟩ L w0 F0 K0 F (R [(D, .deferred none)]) a w' → ∃ v, (results fn a.tmps).run P w' = .ok v w' ∧ Post F (R [(D, .deferred none)]) v) :
    bodyPostM (WF none) 0 P fn (RetP w0 F0 K0 Post) .ret a w := by
  show LeavesInM (WF none) 0 P fn a.tmps (RetP w0 F0 K0 Post) a.defers .returning w
  rw [S.fr.df]
  obtain ⟨G1, G2, e, hR⟩ := hh.h
  have hD := S.has hh
  have ht := S.tr
  rw [e] at ht
  have ht2 : Tr w0 F0 K0 (w.putObj D (.deferred none)) F (R [(D, .deferred none)]) := by rw [hR]; exact ht.putObj
  obtain ⟨v, hr, hp⟩ := h (w.putObj D (.deferred none)) ⟨S.fr, ht2⟩
  refine ⟨by simp, .inl ⟨D, _, rfl, run_takeDeferred hD, v, hr, v, F, _, rfl, ht2, hp⟩⟩

/-- A call that hands back one group of blocks, which turn no more. -/
theorem wpl_callFrz {ops : Array Oper} {rest : List Oper} {o : Oper} {d : Nat} {x : Operand} {xs : Array Operand} {ts : Array TypeId} {f : FuncId} {fi ca vs args : List Value} {B : Nat → Value} {C : Nat → List Value} {e : TypeId} [hf : HasFn P f] (S : St n L w0 F0 K0 F G a w) (hg : o.guard = none) (hd : o.dst = some d) (hn : Nat.blt d n.sz = true)
    (ho : o.op = .call { callee := .value x, args := xs, argTypes := ts }) (hx : ev L x = some (.func (.func f) ⟨fi⟩ ⟨ca⟩)) (hxs : evs L xs.toList = some vs) (C0 : Ct P f args F [] (fun _ G' u => ∃ b, u = B b ∧ G' = [[(b, .cells ⟨C b⟩ e (0, 0))]])) (ha : fi ++ vs ++ ca = args)
    (k : ∀ b F' a' w', (∀ b o, F b = some o → F' b = some o) → (∀ j v, (C b)[j]? = some v → Cel F' b j v) → St n ((d, B b) :: L) w0 F0 K0 F' G a' w' → wpList P ops Q rest a' w') : wpList P ops Q (o :: rest) a w := by
  refine wpl_call (Gs := []) (Gr := G) S hg hd hn ho hx hxs C0 ha (by simp) fun v F' G' a' w' hv hF S' => ?_
  obtain ⟨b, rfl, rfl⟩ := hv
  have S2 : St n ((d, B b) :: L) w0 F0 K0 F' ([] ++ [(b, .cells ⟨C b⟩ e (0, 0))] :: G) a' w' := S'
  have hle := add_le S2
  refine k b _ a' w' (fun c o h => hle c o (hF c o h)) (fun j v hj => ⟨_, _, _, Heap.add_new (p := (b, _)) (List.mem_singleton.2 rfl) (by simp), by simpa using hj⟩) (St.freeze S2)

/-- A call whose own new blocks are let go. -/
theorem wpl_callF {ops : Array Oper} {rest : List Oper} {o : Oper} {d : Nat} {x : Operand} {xs : Array Operand} {ts : Array TypeId} {f : FuncId} {fi ca vs args : List Value} {Post : Heap → Value → Prop} [hf : HasFn P f] (S : St n L w0 F0 K0 F G a w) (hg : o.guard = none) (hd : o.dst = some d) (hn : Nat.blt d n.sz = true)
    (ho : o.op = .call { callee := .value x, args := xs, argTypes := ts }) (hx : ev L x = some (.func (.func f) ⟨fi⟩ ⟨ca⟩)) (hxs : evs L xs.toList = some vs) (C0 : Ct P f args F [] (fun F' _ u => Post F' u)) (ha : fi ++ vs ++ ca = args)
    (k : ∀ v F' a' w', Post F' v → (∀ b o, F b = some o → F' b = some o) → St n ((d, v) :: L) w0 F0 K0 F' G a' w' → wpList P ops Q rest a' w') : wpList P ops Q (o :: rest) a w := by
  refine wpl_call (Gs := []) (Gr := G) S hg hd hn ho hx hxs C0 ha (by simp) fun v F' G' a' w' hv hF S' => ?_
  exact k v F' a' w' hv hF ⟨S'.fr, S'.tr.sub (by rw [List.flatten_append]; exact List.sublist_append_right _ _)⟩

/-! ### the iterator's own walk -/
variable {ops : Array Oper} {rest : List Oper} {o : Oper} {ro : Option Nat}
theorem CallsIn.enter0 {f : FuncId} {fn : Func} {c : Code} {args : List Value} {k : Nat} {R : Ending → World → Prop} (hf : P.funcs[f]? = some fn) (hb : fn.body = some c) (hn : fn.ntmps = k) (hl : Nat.ble args.length k = true) (hat : At w F [])
    (h : ∀ a, St (OfNat.ofNat k) (number 0 args) w F [] F [] a w → c.wpIn (WF none) 0 P (bodyPost P fn R) a w) : CallsIn Fence.wide 0 P f ⟨args⟩ w R := by
  have hl' := Nat.le_of_ble_eq_true hl
  have := callsIn_of_wp (F := WF none) (n := 0) (args := ⟨args⟩) hf hb trivial (h _ ⟨⟨?_, rfl, fun t v e => ?_⟩, hat.tr⟩) rfl
  · exact this
  · show _ = k
    simp [hn]; omega
  · obtain ⟨_, h2⟩ := look_number _ _ _ _ e
    simp only [Nat.sub_zero] at h2
    have := (List.getElem?_eq_some_iff.1 h2).1
    rw [Array.getElem?_append_left (by simpa using this)]
    simpa using h2
theorem wpli_v {d : Nat} {v : Value} (S : St n L w0 F0 K0 F G a w) (hg : o.guard = none) (hd : o.dst = some d) (hn : Nat.blt d n.sz = true) (hnd : noDefer o = true) (h : SV P o a w v)
    (k : ∀ a', St n ((d, v) :: L) w0 F0 K0 F G a' w → wpListIn (WF ro) 0 P ops Q rest a' w) : wpListIn (WF ro) 0 P ops Q (o :: rest) a w := by
  refine wpListIn_plain hg fun K hK => ⟨fun _ _ => trivial, ?_⟩
  rw [Oper.semAt_eq _ _ _ (noDefer_ne hnd)]
  unfold SV at h
  rw [h, Oper.uponIn_value, hd]
  exact hK _ _ (k _ (S.put hn v))
def noHeap : Heap := fun _ => none
theorem wpli_yield {d l : Nat} {x : Operand} {xs : Array Operand} {ts : Array TypeId} {vs : List Value} {fn : FuncId} {tmps : Array Value} {as bd : Code} {R : Ending → World → Prop} (S : St n L w0 F0 K0 F G a w) (hg : o.guard = none) (hd : o.dst = some d) (hn : Nat.blt d n.sz = true)
    (ho : o.op = .call { callee := .value x, args := xs, argTypes := ts }) (hx : ev L x = some (.func (.yield l) ⟨[]⟩ ⟨[]⟩)) (hxs : evs L xs.toList = some vs) (hy : (Instr.yield l ⟨vs⟩).run P w = .ok (.round l fn tmps as bd) w) (hr : RoundIn Fence.wide 0 P l fn tmps as bd w R)
    (k : ∀ e w', R e w' → ∃ v, e = .returned v ∧ ∀ a', St n ((d, v) :: L) w' noHeap [] noHeap [] a' w' → wpListIn (WF none) 0 P ops Q rest a' w') : wpListIn (WF none) 0 P ops Q (o :: rest) a w := by
  refine wpListIn_plain hg fun K hK => ⟨fun _ _ => trivial, ?_⟩
  rw [Oper.semAt_eq _ _ _ (fun c e => by rw [ho] at e; cases e)]
  have e1 : xs.map a.eval = ⟨vs⟩ := by
    have := S.fr.evals hxs
    apply Array.ext'; simpa using this
  have e2 : (execOp a.eval o).run P w = .ok (.round l fn tmps as bd) w := by
    unfold execOp
    rw [ho]
    simp only [resolve, S.fr.eval hx, Deferred.ofValue, e1, Sem.run_bind, Sem.run_pure, Result.andThen_ok, invoke]
    simpa using hy
  rw [e2, Oper.uponIn_round]
  refine ⟨(fun h => by cases h), RoundIn.mono (F := Fence.wide) hr fun e w' hR => ?_⟩
  obtain ⟨v, rfl, hk⟩ := k e w' hR
  rw [hd]
  exact hK _ _ (hk _ ⟨S.fr.put v hn, At.tr (G := []) ⟨(fun _ _ h => by cases h), (fun _ h => by cases h), List.nodup_nil⟩⟩)
end
end Go.Wk
