/- Regions that draw their order and whose operations only make things, each out of what it waits for: what is known of each of them is known behind the region, in whichever order they came. Nothing here knows the program. -/
import Derived.Test.YtoaodbclgeeaeaaGreatDoorWk14
namespace Go.Wk
open Go
set_option linter.unusedVariables false
set_option linter.unusedSimpArgs false

/-- What is known of a value, and stays so as memory grows. -/
structure PM where
  p : Value → Heap → Prop
  mono : ∀ v F F', (∀ b o, F b = some o → F' b = some o) → p v F → p v F'
instance : Inhabited PM := ⟨⟨fun _ _ => True, fun _ _ _ _ h => h⟩⟩
def PM.is (v : Value) : PM := ⟨fun u _ => u = v, fun _ _ _ _ h => h⟩

section
variable {P : Program} {ops : Array Oper} {Q : Exit → Act → World → Prop} {n : Sz} {w0 : World} {F0 F1 : Heap} {K0 : List Nat} {a : Act} {w : World}

theorem stepM_put {i : Nat} {K : Act → World → Prop} {o : Oper} (ho : ops[i]? = some o) (hK : ∀ a' w', K a' w' → a'.defers = a.defers) (h : stepM P ops i K a w) : stepM P ops i (fun a' w' => (∃ v, a' = a.put o.dst v) ∧ K a' w') a w := by
  obtain ⟨o', ho', h⟩ := h
  obtain rfl : o' = o := Option.some.inj (ho'.symm.trans ho)
  refine ⟨o', ho', ?_⟩
  split
  · rename_i hw
    rw [if_pos hw] at h
    unfold Oper.wp at *
    generalize (execOp a.eval o').run P w = r at *
    unfold Oper.upon at *
    split at h
    · exact ⟨⟨_, rfl⟩, h⟩
    · exact ⟨⟨_, rfl⟩, h⟩
    · have := hK _ _ h
      exfalso
      cases hd : o'.dst <;> rw [hd] at this <;> simp [Act.put] at this
    · refine Calls.mono h fun e w'' he => ?_
      cases e with
      | returned v => exact ⟨⟨_, rfl⟩, he⟩
      | panicked c => exact he.elim
      | outgrown => exact he
    · exact Rows.mono h fun v w'' he => ⟨⟨_, rfl⟩, he⟩
    · exact h.elim
    · exact h.elim
  · rename_i hw
    rw [if_neg hw] at h
    exact ⟨⟨_, rfl⟩, h⟩
theorem kp0 {L : List (Nat × Value)} : subL L [] := trivial
theorem kp {L r : List (Nat × Value)} {t : Nat} {v : Value} (e : look L t = some v) (h : subL L r) : subL L ((t, v) :: r) := ⟨e, h⟩
/-- What is known of the j-th operation. -/
def FactAt (dl : List Nat) (pl : List PM) (L : List (Nat × Value)) (F : Heap) (j : Nat) : Prop := ∃ v, look L (dl.getD j 0) = some v ∧ (pl.getD j default).p v F
def DepF (dl : List Nat) (pl : List PM) (L : List (Nat × Value)) (F : Heap) : List Edge → Prop
  | [] => True
  | e :: r => (Region.binds .any e = true → FactAt dl pl L F e.on) ∧ DepF dl pl L F r
theorem depF_of {dl : List Nat} {pl : List PM} {L : List (Nat × Value)} {F : Heap} : ∀ {es : List Edge}, (∀ e ∈ es, Region.binds .any e = true → FactAt dl pl L F e.on) → DepF dl pl L F es
  | [], _ => trivial
  | e :: r, h => ⟨h e (List.mem_cons_self ..), depF_of fun x hx => h x (List.mem_cons_of_mem _ hx)⟩
/-- One operation's duty. -/
def Duty (P : Program) (ops : Array Oper) (n : Sz) (w0 : World) (F0 : Heap) (K0 : List Nat) (L0 : List (Nat × Value)) (F1 : Heap) (dl : List Nat) (pl : List PM) (i : Nat) (o : Oper) : Prop :=
  ∀ L F a w, (∀ b o, F1 b = some o → F b = some o) → (∀ t v, look L0 t = some v → look L t = some v) → St n L w0 F0 K0 F [] a w → DepF dl pl L F o.after.toList →
    stepM P ops i (fun a' w' => ∃ v F', (∀ b o, F b = some o → F' b = some o) ∧ St n [(dl.getD i 0, v)] w0 F0 K0 F' [] a' w' ∧ (pl.getD i default).p v F') a w
def Duties (P : Program) (ops : Array Oper) (n : Sz) (w0 : World) (F0 : Heap) (K0 : List Nat) (L0 : List (Nat × Value)) (F1 : Heap) (dl : List Nat) (pl : List PM) : Nat → List Oper → Prop
  | _, [] => True
  | i, o :: r => Duty P ops n w0 F0 K0 L0 F1 dl pl i o ∧ Duties P ops n w0 F0 K0 L0 F1 dl pl (i + 1) r
theorem duties_at {L0 : List (Nat × Value)} {dl : List Nat} {pl : List PM} {l : List Oper} : ∀ {k i : Nat} {o : Oper}, Duties P ops n w0 F0 K0 L0 F1 dl pl k l → l[i]? = some o → Duty P ops n w0 F0 K0 L0 F1 dl pl (k + i) o := by
  induction l with
  | nil => intro k i o _ e; rw [List.getElem?_nil] at e; cases e
  | cons x r ih =>
    intro k i o h e
    cases i with
    | zero =>
      rw [List.getElem?_cons_zero] at e
      obtain rfl := Option.some.inj e
      exact h.1
    | succ i =>
      rw [List.getElem?_cons_succ] at e
      have := ih (i := i) h.2 e
      rwa [Nat.add_assoc, Nat.add_comm 1 i] at this
/-- The region's form: no guards that are asked here; each operation waits for earlier ones alone, and fills a slot of its own. -/
def factsB (L0 : List (Nat × Value)) (dl : List Nat) (l : List Oper) : Bool :=
  decide (l.map (·.dst) = dl.map some) && decide dl.Nodup && L0.all (fun p => !dl.contains p.1) &&
    ((List.range l.length).all fun i => match l[i]? with | some o => o.after.toList.all fun e => Nat.blt e.on i | none => true)
theorem look_none_of {L : List (Nat × Value)} {t : Nat} (h : ∀ p ∈ L, p.1 ≠ t) : look L t = none := by
  cases hl : look L t with
  | none => rfl
  | some v => exact absurd rfl (h _ (look_mem hl))
def Know (n : Sz) (w0 : World) (F0 : Heap) (K0 : List Nat) (L0 : List (Nat × Value)) (F1 : Heap) (dl : List Nat) (pl : List PM) (listed : Array Bool) (a : Act) (w : World) : Prop :=
  ∃ L F, (∀ b o, F1 b = some o → F b = some o) ∧ (∀ t v, look L0 t = some v → look L t = some v) ∧ St n L w0 F0 K0 F [] a w ∧ ∀ i, listed.getD i false = true → FactAt dl pl L F i
theorem count_set {l : Array Bool} {i : Nat} (h : l.getD i true = false) : (l.setIfInBounds i true).toList.count false + 1 = l.toList.count false := by
  have hi : i < l.size := by
    rw [Array.getD_eq_getD_getElem?] at h
    cases hx : l[i]? with
    | none => rw [hx] at h; cases h
    | some b => exact (Array.getElem?_eq_some_iff.1 hx).1
  have hv : l.toList[i]'(by simpa using hi) = false := by
    rw [Array.getD_eq_getD_getElem?, Array.getElem?_eq_getElem hi] at h
    simpa using h
  rw [Array.toList_setIfInBounds, List.count_set (by simpa using hi), hv]
  have : 0 < l.toList.count false := List.count_pos_iff.2 (by rw [← hv]; exact List.getElem_mem _)
  simp only [beq_self_eq_true, if_true, Bool.true_eq_false, beq_iff_eq, if_false]
  omega
theorem wpAny_facts {l : List Oper} {L0 : List (Nat × Value)} {dl : List Nat} {pl : List PM} (hB : factsB L0 dl l = true) (hD : Duties P l.toArray n w0 F0 K0 L0 F1 dl pl 0 l)
    (hend : ∀ L F a w, (∀ b o, F1 b = some o → F b = some o) → (∀ t v, look L0 t = some v → look L t = some v) → St n L w0 F0 K0 F [] a w → (∀ i, i < l.length → FactAt dl pl L F i) → Q .normal a w) :
    ∀ (fuel : Nat) (listed : Array Bool) (a : Act) (w : World), listed.size = l.length → listed.toList.count false = fuel → Know n w0 F0 K0 L0 F1 dl pl listed a w → wpAny P .any l.toArray (Qn Q) fuel listed a w := by
  simp only [factsB, Bool.and_eq_true, decide_eq_true_eq] at hB
  obtain ⟨⟨⟨hdst, hnd⟩, hL0⟩, hac⟩ := hB
  have hlen : l.length = dl.length := by have := congrArg List.length hdst; simpa using this
  have hd : ∀ i o, l[i]? = some o → o.dst = some (dl.getD i 0) := fun i o ho => by
    have h1 := congrArg (fun x => x[i]?) hdst
    simp only [List.getElem?_map, ho, Option.map_some] at h1
    have hi : i < dl.length := by rw [← hlen]; exact (List.getElem?_eq_some_iff.1 ho).1
    rw [List.getElem?_eq_getElem hi, Option.map_some] at h1
    rw [List.getD_eq_getElem?_getD, List.getElem?_eq_getElem hi]
    exact Option.some.inj h1
  have hall : ∀ listed : Array Bool, listed.size = l.length → Region.ready .any l.toArray listed = [] → ∀ i, i < l.length → listed.getD i false = true := fun listed hsz hr => by
    intro i
    induction i using Nat.strongRecOn with
    | _ i ih =>
    intro hi
    cases hx : listed.getD i false with
    | true => rfl
    | false =>
      exfalso
      have hmem : i ∈ Region.ready .any l.toArray listed := by
        refine mem_ready.2 ⟨?_, l[i], by simp [hi], fun e he _ => ?_⟩
        · rw [Array.getD_eq_getD_getElem?, Array.getElem?_eq_getElem (by omega)] at hx ⊢; exact hx
        · have h9 := List.all_eq_true.1 hac i (List.mem_range.2 hi)
          rw [List.getElem?_eq_getElem hi] at h9
          have h10 := List.all_eq_true.1 h9 e (by simpa using he)
          rw [Nat.blt_eq] at h10
          exact ih e.on h10 (by omega)
      rw [hr] at hmem; cases hmem
  have hfin : ∀ (listed : Array Bool) (a : Act) (w : World), listed.size = l.length → Know n w0 F0 K0 L0 F1 dl pl listed a w → Region.ready .any l.toArray listed = [] → Q .normal a w := fun listed a w hsz ⟨L, F, h1, h2, h3, h4⟩ hr =>
    hend L F a w h1 h2 h3 fun i hi => h4 i (hall listed hsz hr i hi)
  intro fuel
  induction fuel with
  | zero =>
    intro listed a w hsz hc hk
    have hr : Region.ready .any l.toArray listed = [] := by
      rw [List.eq_nil_iff_forall_not_mem]
      intro i hi
      have h1 := (mem_ready.1 hi).1
      have := count_set h1
      omega
    exact ⟨hr, hfin listed a w hsz hk hr⟩
  | succ fuel ih =>
    intro listed a w hsz hc hk
    refine ⟨hfin listed a w hsz hk, fun i hi => ?_⟩
    obtain ⟨hun, o, ho, hdeps⟩ := mem_ready.1 hi
    have ho' : l[i]? = some o := by simpa using ho
    have hdo := hd i o ho'
    obtain ⟨L, F, h1, h2, S, h4⟩ := hk
    have hduty := duties_at hD ho'
    rw [Nat.zero_add] at hduty
    have hst := hduty L F a w h1 h2 S (depF_of fun e he hb => h4 _ (hdeps e (by simpa using he) hb))
    have hst2 := stepM_put ho (fun a' w' ⟨v, F', _, S', _⟩ => S'.fr.df.trans S.fr.df.symm) hst
    refine wpOp_stepM hst2 fun a' w' ⟨⟨u, hu⟩, v, F', hF', S', hp⟩ => ih _ a' w' (by simpa using hsz) (by have := count_set hun; omega) ?_
    have hdn : dl.getD i 0 < n.sz := by
      have h9 := S'.fr.get (dl.getD i 0) v (by simp [look_cons])
      have := (Array.getElem?_eq_some_iff.1 h9).1
      rw [S'.fr.size] at this; exact this
    have huv : u = v := by
      have h9 := S'.fr.get (dl.getD i 0) v (by simp [look_cons])
      have hda : dl.getD i 0 < a.tmps.size := by rw [S.fr.size]; exact hdn
      rw [hu, hdo] at h9
      simp only [Act.put, Array.getElem?_setIfInBounds, if_true, hda] at h9
      exact Option.some.inj h9
    subst huv
    have hi2 : i < dl.length := by rw [← hlen]; exact (List.getElem?_eq_some_iff.1 ho').1
    have hdi : dl.getD i 0 ∈ dl := by rw [List.getD_eq_getElem?_getD, List.getElem?_eq_getElem hi2]; exact List.getElem_mem _
    refine ⟨(dl.getD i 0, u) :: L, F', fun b o h => hF' _ _ (h1 _ _ h), fun t v ht => ?_, ⟨by rw [hu, hdo]; exact S.fr.put u (by rw [Nat.blt_eq]; exact hdn), S'.tr⟩, fun j hj => ?_⟩
    · rw [look_cons, if_neg]
      · exact h2 t v ht
      · intro e
        have := List.all_eq_true.1 hL0 _ (look_mem ht)
        rw [Bool.not_eq_true', ← e, List.contains_eq_mem, decide_eq_false_iff_not] at this
        exact this hdi
    · by_cases hji : j = i
      · subst hji; exact ⟨u, by rw [look_cons, if_pos rfl], hp⟩
      · have hj' : listed.getD j false = true := by rw [getD_set_ne' (Ne.symm hji)] at hj; exact hj
        obtain ⟨v2, e2, hp2⟩ := h4 j hj'
        have hj2 : j < dl.length := by
          rw [← hlen, ← hsz]
          rw [Array.getD_eq_getD_getElem?] at hj'
          cases hx : listed[j]? with
          | none => rw [hx] at hj'; cases hj'
          | some b => exact (Array.getElem?_eq_some_iff.1 hx).1
        refine ⟨v2, ?_, (pl.getD j default).mono _ _ _ hF' hp2⟩
        rw [look_cons, if_neg]
        · exact e2
        · intro e
          rw [List.getD_eq_getElem?_getD, List.getD_eq_getElem?_getD, List.getElem?_eq_getElem hi2, List.getElem?_eq_getElem hj2, Option.getD_some, Option.getD_some] at e
          have h8 := List.pairwise_iff_getElem.1 hnd
          rcases Nat.lt_or_gt_of_ne hji with h7 | h7
          · exact h8 j i hj2 hi2 h7 e.symm
          · exact h8 i j hi2 hj2 h7 e
/-- Behind such a region all is known. -/
theorem wpc_facts {id : Nat} {l : List Oper} {L0 : List (Nat × Value)} (dl : List Nat) (pl : List PM) (S : St n L0 w0 F0 K0 F1 [] a w) (hm : P.follows .mixedOrders = true) (hB : factsB L0 dl l = true)
    (hD : Duties P l.toArray n w0 F0 K0 L0 F1 dl pl 0 l)
    (hend : ∀ L F a w, (∀ b o, F1 b = some o → F b = some o) → (∀ t v, look L0 t = some v → look L t = some v) → St n L w0 F0 K0 F [] a w → (∀ i, i < l.length → FactAt dl pl L F i) → Q .normal a w) : (Code.region id l.toArray true).wp P Q a w := by
  refine wp_mono (Q := Qn Q) (wp_region_any hm (wpAny_facts hB hD hend _ _ _ _ (by simp) ?_ ⟨L0, F1, fun _ _ h => h, fun _ _ h => h, ⟨S.fr, S.tr.drew⟩, fun i hi => ?_⟩)) fun e a w h => ?_
  · rw [List.size_toArray, Array.toList_replicate, List.count_replicate_self]
  · rw [getD_replicate_false] at hi; cases hi
  · cases e <;> first | exact h | exact h.elim
end
section
variable {P : Program} {ops : Array Oper} {Q : Exit → Act → World → Prop} {n : Sz} {L : List (Nat × Value)} {w0 : World} {F0 : Heap} {K0 : List Nat} {F : Heap} {G : List Grp} {a : Act} {w : World} {rest : List Oper} {o : Oper}
/-- 'v = append(s, x...)', s and x slices that never turn, s without room. -/
theorem wpl_appendGrow {d : Nat} {t e : TypeId} {s x : Operand} {z : Value} {sz by_ b off b2 off2 q m c : Nat} {xs news : List Value} [ht : Und P t (.slice e)] [hi : Inf P e z sz by_] (S : St n L w0 F0 K0 F G a w)
    (hg : o.guard = none) (hd : o.dst = some d) (hn : Nat.blt d n.sz = true) (ho : o.op = .call { callee := .builtin .append, args := #[s, x], argTypes := #[t, t] }) (hs : ev L s = some (.slice (some ⟨b, off, none⟩) q q)) (hx : ev L x = some (.slice (some ⟨b2, off2, none⟩) m c))
    (hz : z.cells.toList.length = sz) (hxs : xs.length = q * sz) (hl : news.length = m * sz) (h1 : Cels F b off xs) (h2 : Cels F b2 off2 news) (hm : 0 < m)
    (hlen : (q + m) * by_ ≤ 140737488355328) (h63 : q + m ≤ 9223372036854775807)
    (k : ∀ v' g' a' w', OwnS e sz v' (q + m) (xs ++ news) g' → St n ((d, v') :: L) w0 F0 K0 F (g' :: G) a' w' → wpList P ops Q rest a' w') : wpList P ops Q (o :: rest) a w := by
  refine wpList_plain hg fun K hK => ?_
  have e2 := S.fr.eval hs
  have e3 := S.fr.eval hx
  obtain ⟨i, i1, i2, i3, i4⟩ := hi.h
  have hr := run_append_grow (P := P) w t o.type e i z ht.h i1 i2 ⟨b, off, none⟩ q q xs (by rw [i3]; exact hxs) (fun j u hj => by rw [addr_add]; exact S.cel (h1 j u hj)) ⟨b2, off2, none⟩ m c news (by rw [i3]; exact hl) (fun j u hj => by rw [addr_add]; exact S.cel (h2 j u hj)) (by omega) (by omega) (by rw [i4]; exact growslice_fits (by omega) hlen)
  have hge := grownCap_ge w (q + m) q e
  have hcm := grownCap_le_maxLen w (q + m) q e (by simp only [maxLen]; exact h63)
  have hzs : z.cells.size = sz := by simpa using hz
  have hxl : (xs ++ news).length = (q + m) * sz := by rw [List.length_append, hxs, hl, Nat.add_mul]
  unfold Oper.wp execOp
  rw [ho]
  simp [resolve, invoke, builtin, e2, e3, hr, Oper.upon_value, hd]
  refine hK _ _ (k _ [(w.heap.size, .cells (xs.toArray ++ news.toArray ++ Builtin.zeroCells z.cells (grownCap w (q + m) q e - (q + m))) e (0, 0))] _ _ ⟨hxl, .inr ⟨_, _, _, rfl, rfl, hge, hcm, ?_, ?_⟩⟩ ⟨S.fr.put _ hn, by simpa using S.tr.drew.alloc _⟩)
  · simp only [Array.size_append, List.size_toArray, size_zeroCells, hzs, hxs, hl, ← Nat.add_mul]
    congr 1; omega
  · simp only [Array.toList_append, List.append_assoc]
    rw [← List.append_assoc, ← hxl]
    exact List.take_left
end
end Go.Wk
