/- Walks. -/
import Derived.Test.YtgefmjghdijbfaaGreatDoorKEvalNames02
import Derived.Test.YtgefmjghdijbfaaGreatDoorQ26
import Derived.Test.YtgefmjghdijbfaaGreatDoorQ09
import Derived.Test.YtgefmjghdijbfaaGreatDoorKEvalNamesTy
set_option maxHeartbeats 8000000
set_option maxRecDepth 20000
namespace Go.Wk
open Go
set_option linter.unusedVariables false
set_option linter.unusedSimpArgs false
instance : Inhabited PM := ⟨⟨fun _ _ => True, fun _ _ _ _ h => h⟩⟩
def PM.is (v : Value) : PM := ⟨fun u _ => u = v, fun _ _ _ _ h => h⟩
section
variable {P : Program} {ops : Array Oper} {Q : Exit → Act → World → Prop} {n : Sz} {w0 : World} {F0 F1 : Heap} {K0 : List Nat} {a : Act} {w : World}
theorem stepM_put {i : Nat} {K : Act → World → Prop} {o : Oper} (ho : ops[i]? = some o) (hK : ∀ a' w', K a' w' → a'.defers = a.defers) (h : stepM P ops i K a w) : stepM P ops i (fun a' w' => (∃ v, a' = a.put o.dst v) ∧ K a' w') a w := by
 obtain ⟨o', ho', h⟩ := h
 obtain rfl : o' = o := Option.some.inj (ho'.symm.trans ho)
 refine ⟨o', ho', ?_⟩
 split
 ·rename_i hw
  rw [if_pos hw] at h
  unfold Oper.wp at *
  generalize (execOp a.eval o').run P w = r at *
  unfold Oper.upon at *
  split at h
  ·exact ⟨⟨_, rfl⟩, h⟩
  ·exact ⟨⟨_, rfl⟩, h⟩
  ·have := hK _ _ h
   exfalso
   cases hd : o'.dst <;> rw [hd] at this <;> simp [Act.put] at this
  ·refine Calls.mono h fun e w'' he => ?_
   cases e with
   | returned v => exact ⟨⟨_, rfl⟩, he⟩
   | panicked c => exact he.elim
   | outgrown => exact he
  ·exact Rows.mono h fun v w'' he => ⟨⟨_, rfl⟩, he⟩
  ·exact h.elim
  ·exact h.elim
 ·rename_i hw
  rw [if_neg hw] at h
  exact ⟨⟨_, rfl⟩, h⟩
theorem kp0 {L : List (Nat × Value)} : subL L [] := trivial
theorem kp {L r : List (Nat × Value)} {t : Nat} {v : Value} (e : look L t = some v) (h : subL L r) : subL L ((t, v) :: r) := ⟨e, h⟩
def FactAt (dl : List Nat) (pl : List PM) (L : List (Nat × Value)) (F : Heap) (j : Nat) : Prop := ∃ v, look L (dl.getD j 0) = some v ∧ (pl.getD j default).p v F
def DepF (dl : List Nat) (pl : List PM) (L : List (Nat × Value)) (F : Heap) : List Edge → Prop
 | [] => True
 | e :: r => (Region.binds .any e = true → FactAt dl pl L F e.on) ∧ DepF dl pl L F r
theorem depF_of {dl : List Nat} {pl : List PM} {L : List (Nat × Value)} {F : Heap} : ∀ {es : List Edge}, (∀ e ∈ es, Region.binds .any e = true → FactAt dl pl L F e.on) → DepF dl pl L F es
 | [], _ => trivial
 | e :: r, h => ⟨h e (List.mem_cons_self ..), depF_of fun x hx => h x (List.mem_cons_of_mem _ hx)⟩
def Duty (P : Program) (ops : Array Oper) (n : Sz) (w0 : World) (F0 : Heap) (K0 : List Nat) (L0 : List (Nat × Value)) (F1 : Heap) (dl : List Nat) (pl : List PM) (i : Nat) (o : Oper) : Prop :=
 ∀ L F a w, (∀ b o, F1 b = some o → F b = some o) → (∀ t v, look L0 t = some v → look L t = some v) → St n L w0 F0 K0 F [] a w → DepF dl pl L F o.after.toList →
  stepM P ops i (fun a' w' => ∃ v F', (∀ b o, F b = some o → F' b = some o) ∧ St n [(dl.getD i 0, v)] w0 F0 K0 F' [] a' w' ∧ (pl.getD i default).p v F') a w
def Duties (P : Program) (ops : Array Oper) (n : Sz) (w0 : World) (F0 : Heap) (K0 : List Nat) (L0 : List (Nat × Value)) (F1 : Heap) (dl : List Nat) (pl : List PM) : Nat → List Oper → Prop
 | _, [] => True
 | i, o :: r => Duty P ops n w0 F0 K0 L0 F1 dl pl i o ∧ Duties P ops n w0 F0 K0 L0 F1 dl pl (i + 1) r
theorem duties_at {L0 : List (Nat × Value)} {dl : List Nat} {pl : List PM} {l : List Oper} : ∀ {k i : Nat} {o : Oper}, Duties P ops n w0 F0 K0 L0 F1 dl pl k l → l[i]? = some o → Duty P ops n w0 F0 K0 L0 F1 dl pl (k + i) o := by
 induction l with
 | nil => intro k i o _ e; rw [List.getElem?_nil] at e; cases e
 | cons x r ih =>
  intro k i o h e
  cases i with
  | zero =>
   rw [List.getElem?_cons_zero] at e
   obtain rfl := Option.some.inj e
   exact h.1
  | succ i =>
   rw [List.getElem?_cons_succ] at e
   have := ih (i := i) h.2 e
   rwa [Nat.add_assoc, Nat.add_comm 1 i] at this
def factsB (L0 : List (Nat × Value)) (dl : List Nat) (l : List Oper) : Bool :=
 decide (l.map (·.dst) = dl.map some) && decide dl.Nodup && L0.all (fun p => !dl.contains p.1) &&
  ((List.range l.length).all fun i => match l[i]? with | some o => o.after.toList.all fun e => !Region.binds .any e || Nat.blt e.on i | none => true)
def Know (n : Sz) (w0 : World) (F0 : Heap) (K0 : List Nat) (L0 : List (Nat × Value)) (F1 : Heap) (dl : List Nat) (pl : List PM) (listed : Array Bool) (a : Act) (w : World) : Prop :=
 ∃ L F, (∀ b o, F1 b = some o → F b = some o) ∧ (∀ t v, look L0 t = some v → look L t = some v) ∧ St n L w0 F0 K0 F [] a w ∧ ∀ i, listed.getD i false = true → FactAt dl pl L F i
theorem count_set {l : Array Bool} {i : Nat} (h : l.getD i true = false) : (l.setIfInBounds i true).toList.count false + 1 = l.toList.count false := by
 have hi : i < l.size := by
  rw [Array.getD_eq_getD_getElem?] at h
  cases hx : l[i]? with
  | none => rw [hx] at h; cases h
  | some b => exact (Array.getElem?_eq_some_iff.1 hx).1
 have hv : l.toList[i]'(by simpa using hi) = false := by
  rw [Array.getD_eq_getD_getElem?, Array.getElem?_eq_getElem hi] at h
  simpa using h
 rw [Array.toList_setIfInBounds, List.count_set (by simpa using hi), hv]
 have : 0 < l.toList.count false := List.count_pos_iff.2 (by rw [← hv]; exact List.getElem_mem _)
 simp only [beq_self_eq_true, if_true, Bool.true_eq_false, beq_iff_eq, if_false]
 omega
theorem wpAny_facts {l : List Oper} {L0 : List (Nat × Value)} {dl : List Nat} {pl : List PM} (hB : factsB L0 dl l = true) (hD : Duties P l.toArray n w0 F0 K0 L0 F1 dl pl 0 l)
  (hend : ∀ L F a w, (∀ b o, F1 b = some o → F b = some o) → (∀ t v, look L0 t = some v → look L t = some v) → St n L w0 F0 K0 F [] a w → (∀ i, i < l.length → FactAt dl pl L F i) → Q .normal a w) :
  ∀ (fuel : Nat) (listed : Array Bool) (a : Act) (w : World), listed.size = l.length → listed.toList.count false = fuel → Know n w0 F0 K0 L0 F1 dl pl listed a w → wpAny P .any l.toArray (Qn Q) fuel listed a w := by
 simp only [factsB, Bool.and_eq_true, decide_eq_true_eq] at hB
 obtain ⟨⟨⟨hdst, hnd⟩, hL0⟩, hac⟩ := hB
 have hlen : l.length = dl.length := by have := congrArg List.length hdst; simpa using this
 have hd : ∀ i o, l[i]? = some o → o.dst = some (dl.getD i 0) := fun i o ho => by
  have h1 := congrArg (fun x => x[i]?) hdst
  simp only [List.getElem?_map, ho, Option.map_some] at h1
  have hi : i < dl.length := by rw [← hlen]; exact (List.getElem?_eq_some_iff.1 ho).1
  rw [List.getElem?_eq_getElem hi, Option.map_some] at h1
  rw [List.getD_eq_getElem?_getD, List.getElem?_eq_getElem hi]
  exact Option.some.inj h1
 have hall : ∀ listed : Array Bool, listed.size = l.length → Region.ready .any l.toArray listed = [] → ∀ i, i < l.length → listed.getD i false = true := fun listed hsz hr => by
  intro i
  induction i using Nat.strongRecOn with
  | _ i ih =>
  intro hi
  cases hx : listed.getD i false with
  | true => rfl
  | false =>
   exfalso
   have hmem : i ∈ Region.ready .any l.toArray listed := by
    refine mem_ready.2 ⟨?_, l[i], by simp [hi], fun e he hbd => ?_⟩
    ·rw [Array.getD_eq_getD_getElem?, Array.getElem?_eq_getElem (by omega)] at hx ⊢; exact hx
    ·have h9 := List.all_eq_true.1 hac i (List.mem_range.2 hi)
     rw [List.getElem?_eq_getElem hi] at h9
     have h10 := List.all_eq_true.1 h9 e (by simpa using he)
     rw [hbd, Bool.not_true, Bool.false_or, Nat.blt_eq] at h10
     exact ih e.on h10 (by omega)
   rw [hr] at hmem; cases hmem
 have hfin : ∀ (listed : Array Bool) (a : Act) (w : World), listed.size = l.length → Know n w0 F0 K0 L0 F1 dl pl listed a w → Region.ready .any l.toArray listed = [] → Q .normal a w := fun listed a w hsz ⟨L, F, h1, h2, h3, h4⟩ hr =>
  hend L F a w h1 h2 h3 fun i hi => h4 i (hall listed hsz hr i hi)
 intro fuel
 induction fuel with
 | zero =>
  intro listed a w hsz hc hk
  have hr : Region.ready .any l.toArray listed = [] := by
   rw [List.eq_nil_iff_forall_not_mem]
   intro i hi
   have h1 := (mem_ready.1 hi).1
   have := count_set h1
   omega
  exact ⟨hr, hfin listed a w hsz hk hr⟩
 | succ fuel ih =>
  intro listed a w hsz hc hk
  refine ⟨hfin listed a w hsz hk, fun i hi => ?_⟩
  obtain ⟨hun, o, ho, hdeps⟩ := mem_ready.1 hi
  have ho' : l[i]? = some o := by simpa using ho
  have hdo := hd i o ho'
  obtain ⟨L, F, h1, h2, S, h4⟩ := hk
  have hduty := duties_at hD ho'
  rw [Nat.zero_add] at hduty
  have hst := hduty L F a w h1 h2 S (depF_of fun e he hb => h4 _ (hdeps e (by simpa using he) hb))
  have hst2 := stepM_put ho (fun a' w' ⟨v, F', _, S', _⟩ => S'.fr.df.trans S.fr.df.symm) hst
  refine wpOp_stepM hst2 fun a' w' ⟨⟨u, hu⟩, v, F', hF', S', hp⟩ => ih _ a' w' (by simpa using hsz) (by have := count_set hun; omega) ?_
  have hdn : dl.getD i 0 < n.sz := by
   have h9 := S'.fr.get (dl.getD i 0) v (by simp [look_cons])
   have := (Array.getElem?_eq_some_iff.1 h9).1
   rw [S'.fr.size] at this; exact this
  have huv : u = v := by
   have h9 := S'.fr.get (dl.getD i 0) v (by simp [look_cons])
   have hda : dl.getD i 0 < a.tmps.size := by rw [S.fr.size]; exact hdn
   rw [hu, hdo] at h9
   simp only [Act.put, Array.getElem?_setIfInBounds, if_true, hda] at h9
   exact Option.some.inj h9
  subst huv
  have hi2 : i < dl.length := by rw [← hlen]; exact (List.getElem?_eq_some_iff.1 ho').1
  have hdi : dl.getD i 0 ∈ dl := by rw [List.getD_eq_getElem?_getD, List.getElem?_eq_getElem hi2]; exact List.getElem_mem _
  refine ⟨(dl.getD i 0, u) :: L, F', fun b o h => hF' _ _ (h1 _ _ h), fun t v ht => ?_, ⟨by rw [hu, hdo]; exact S.fr.put u (by rw [Nat.blt_eq]; exact hdn), S'.tr⟩, fun j hj => ?_⟩
  ·rw [look_cons, if_neg]
   ·exact h2 t v ht
   ·intro e
    have := List.all_eq_true.1 hL0 _ (look_mem ht)
    rw [Bool.not_eq_true', ← e, List.contains_eq_mem, decide_eq_false_iff_not] at this
    exact this hdi
  ·by_cases hji : j = i
   ·subst hji; exact ⟨u, by rw [look_cons, if_pos rfl], hp⟩
   ·have hj' : listed.getD j false = true := by rw [getD_set_ne' (Ne.symm hji)] at hj; exact hj
    obtain ⟨v2, e2, hp2⟩ := h4 j hj'
    have hj2 : j < dl.length := by
     rw [← hlen, ← hsz]
     rw [Array.getD_eq_getD_getElem?] at hj'
     cases hx : listed[j]? with
     | none => rw [hx] at hj'; cases hj'
     | some b => exact (Array.getElem?_eq_some_iff.1 hx).1
    refine ⟨v2, ?_, (pl.getD j default).mono _ _ _ hF' hp2⟩
    rw [look_cons, if_neg]
    ·exact e2
    ·intro e
     rw [List.getD_eq_getElem?_getD, List.getD_eq_getElem?_getD, List.getElem?_eq_getElem hi2, List.getElem?_eq_getElem hj2, Option.getD_some, Option.getD_some] at e
     have h8 := List.pairwise_iff_getElem.1 hnd
     rcases Nat.lt_or_gt_of_ne hji with h7 | h7
     ·exact h8 j i hj2 hi2 h7 e.symm
     ·exact h8 i j hi2 hj2 h7 e
theorem wpc_facts {id : Nat} {l : List Oper} {L0 : List (Nat × Value)} (dl : List Nat) (pl : List PM) (S : St n L0 w0 F0 K0 F1 [] a w) (hm : P.follows .mixedOrders = true) (hB : factsB L0 dl l = true)
  (hD : Duties P l.toArray n w0 F0 K0 L0 F1 dl pl 0 l)
  (hend : ∀ L F a w, (∀ b o, F1 b = some o → F b = some o) → (∀ t v, look L0 t = some v → look L t = some v) → St n L w0 F0 K0 F [] a w → (∀ i, i < l.length → FactAt dl pl L F i) → Q .normal a w) : (Code.region id l.toArray true).wp P Q a w := by
 refine wp_mono (Q := Qn Q) (wp_region_any hm (wpAny_facts hB hD hend _ _ _ _ (by simp) ?_ ⟨L0, F1, fun _ _ h => h, fun _ _ h => h, ⟨S.fr, S.tr.drew⟩, fun i hi => ?_⟩)) fun e a w h => ?_
 ·rw [List.size_toArray, Array.toList_replicate, List.count_replicate_self]
 ·rw [getD_replicate_false] at hi; cases hi
 ·cases e <;> first | exact h | exact h.elim
end
section
variable {P : Program} {ops : Array Oper} {Q : Exit → Act → World → Prop} {n : Sz} {L : List (Nat × Value)} {w0 : World} {F0 : Heap} {K0 : List Nat} {F : Heap} {G : List Grp} {a : Act} {w : World} {rest : List Oper} {o : Oper}
theorem wpl_appendGrow {d : Nat} {t e : TypeId} {s x : Operand} {z : Value} {sz by_ b off b2 off2 q m c : Nat} {xs news : List Value} [ht : Und P t (.slice e)] [hi : Inf P e z sz by_] (S : St n L w0 F0 K0 F G a w)
  (hg : o.guard = none) (hd : o.dst = some d) (hn : Nat.blt d n.sz = true) (ho : o.op = .call { callee := .builtin .append, args := #[s, x], argTypes := #[t, t] }) (hs : ev L s = some (.slice (some ⟨b, off, none⟩) q q)) (hx : ev L x = some (.slice (some ⟨b2, off2, none⟩) m c))
  (hz : z.cells.toList.length = sz) (hxs : xs.length = q * sz) (hl : news.length = m * sz) (h1 : Cels F b off xs) (h2 : Cels F b2 off2 news) (hm : 0 < m)
  (hlen : (q + m) * by_ ≤ 140737488355328) (h63 : q + m ≤ 9223372036854775807)
  (k : ∀ v' g' a' w', OwnS e sz v' (q + m) (xs ++ news) g' → St n ((d, v') :: L) w0 F0 K0 F (g' :: G) a' w' → wpList P ops Q rest a' w') : wpList P ops Q (o :: rest) a w := by
 refine wpList_plain hg fun K hK => ?_
 have e2 := S.fr.eval hs
 have e3 := S.fr.eval hx
 obtain ⟨i, i1, i2, i3, i4⟩ := hi.h
 have hr := run_append_grow (P := P) w t o.type e i z ht.h i1 i2 ⟨b, off, none⟩ q q xs (by rw [i3]; exact hxs) (fun j u hj => by rw [addr_add]; exact S.cel (h1 j u hj)) ⟨b2, off2, none⟩ m c news (by rw [i3]; exact hl) (fun j u hj => by rw [addr_add]; exact S.cel (h2 j u hj)) (by omega) (by omega) (by rw [i4]; exact growslice_fits (by omega) hlen)
 have hge := grownCap_ge w (q + m) q e
 have hcm := grownCap_le_maxLen w (q + m) q e (by simp only [maxLen]; exact h63)
 have hzs : z.cells.size = sz := by simpa using hz
 have hxl : (xs ++ news).length = (q + m) * sz := by rw [List.length_append, hxs, hl, Nat.add_mul]
 unfold Oper.wp execOp
 rw [ho]
 simp [resolve, invoke, builtin, e2, e3, hr, Oper.upon_value, hd]
 refine hK _ _ (k _ [(w.heap.size, .cells (xs.toArray ++ news.toArray ++ Builtin.zeroCells z.cells (grownCap w (q + m) q e - (q + m))) e (0, 0))] _ _ ⟨hxl, .inr ⟨_, _, _, rfl, rfl, hge, hcm, ?_, ?_⟩⟩ ⟨S.fr.put _ hn, by simpa using S.tr.drew.alloc _⟩)
 ·simp only [Array.size_append, List.size_toArray, size_zeroCells, hzs, hxs, hl, ← Nat.add_mul]
  congr 1; omega
 ·simp only [Array.toList_append, List.append_assoc]
  rw [← List.append_assoc, ← hxl]
  exact List.take_left
end
end Go.Wk
namespace Go.Proofs.YtgefmjghdijbfaaGreatDoor
open Go Go.Wk Go.Un Go.De Go.Num
set_option linter.unusedSimpArgs false
set_option linter.unusedVariables false
attribute [local irreducible] Go.wpList Go.Code.wp Go.wpStill Go.Wk.wpPre Go.bodyPost Go.Calls Go.Wk.Ct Go.Wk.OwnS Go.Wk.wpG Go.Wk.wpM
def pRec {α : Type} (n : Nat) (R : Heap → α → List Value → Prop) [hR : Mon R] (x : α) : PM := ⟨fun v F => ∃ cs, v = .agg ⟨cs⟩ ∧ cs.length = n ∧ R F x cs, fun v F F' h ⟨cs, e, hn, hr⟩ => ⟨cs, e, hn, hR.h h hr⟩⟩
def pLim {α : Type} (sz : Nat) (R : Heap → α → List Value → Prop) [hR : Mon R] (l : List α) : PM := ⟨fun v F => LiM F sz R v l, fun v F F' h hv => hv.mono h⟩
def pTrs {α : Type} (sz : Nat) (R : Heap → α → List Value → Prop) [hR : Mon R] (l : Rose α) : PM := ⟨fun v F => TrS F sz R v l, fun v F F' h hv => hv.mono h⟩
section
variable {P : Program} {ops : Array Oper} {n : Sz} {w0 : World} {F0 F1 : Heap} {K0 : List Nat} {L0 : List (Nat × Value)} {dl : List Nat} {pl : List PM} {i : Nat} {o : Oper} {d sz by_ : Nat} {z : Value}
theorem look_top {L : List (Nat × Value)} {v : Value} : Wk.look ((d, v) :: L) d = some v := by unfold Wk.look; simp
theorem dy_load {t b : Nat} {ty : TypeId} {cs : List Value} {α : Type} {R : Heap → α → List Value → Prop} [hM : Mon R] {x : α} [Ag P ty] [Inf P ty z sz by_] (hc : Cels F1 b 0 cs) (hR : R F1 x cs) (hi : ops[i]? = some o := by rfl) (hg : o.guard = none := by rfl) (hd : o.dst = some d := by rfl) (hn : Nat.blt d n.sz = true := by rfl)
  (ho : o.op = .load ty (.tmp t) := by rfl) (hl : Wk.look L0 t = some (ptr b) := by rfl) (hd2 : dl.getD i 0 = d := by rfl) (hp : pl.getD i default = pRec sz R x := by rfl) (hs : cs.length = sz := by rfl) : Duty P ops n w0 F0 K0 L0 F1 dl pl i o := by
 intro L F a w hF hL S _
 refine stepM_of hi ?_
 refine wpl_v S hg hd hn (sv_loadAF S ho (hL t _ hl) (Cels.mono hF hc) hs) fun a' S3 => ?_
 refine wpList_nil ⟨.agg ⟨cs⟩, F, fun _ _ h => h, S3.keep ?_, ?_⟩
 ·rw [hd2]; exact ⟨look_top, trivial⟩
 ·rw [hp]; exact ⟨cs, rfl, hs, hM.h hF hR⟩
theorem depF_at {L : List (Nat × Value)} {F : Heap} {j : Nat} : ∀ {es : List Edge}, DepF dl pl L F es → (es.any fun e => Nat.beq e.on j && Region.binds .any e) = true → FactAt dl pl L F j
 | [], _, h => by cases h
 | e :: r, hd, h => by
  rw [List.any_cons, Bool.or_eq_true, Bool.and_eq_true] at h
  rcases h with ⟨h1, h2⟩ | h
  ·have := hd.1 h2
   rwa [Nat.eq_of_beq_eq_true h1] at this
  ·exact depF_at hd.2 h
theorem dy_sl1 {ty e : TypeId} {parts : Array (Nat × Operand)} {α : Type} {R : Heap → α → List Value → Prop} [hM : Mon R] {x1 : α × Rose α} [Und P ty (.slice e)] [Inf P e z sz by_] (j1 : Nat) (hi : ops[i]? = some o := by rfl) (hg : o.guard = none := by rfl) (hd : o.dst = some d := by rfl) (hn : Nat.blt d n.sz = true := by rfl)
  (ho : o.op = .buildSlice ty 1 parts := by rfl) (hq : unidx 0 parts.toList = some [.tmp (dl.getD j1 0)] := by rfl) (h1 : (o.after.toList.any fun e => Nat.beq e.on j1 && Region.binds .any e) = true := by rfl) (f1 : pl.getD j1 default = pRec sz (RoR sz R) x1 := by rfl) (hz : z.cells.toList.length = sz := by rfl) (hb : Nat.ble (1 * sz) 16777216 = true := by rfl) (hsz : Nat.blt 0 sz = true := by rfl) (hd2 : dl.getD i 0 = d := by rfl) (hp : pl.getD i default = pTrs sz R (.cons x1.1 x1.2 .nil) := by rfl) : Duty P ops n w0 F0 K0 L0 F1 dl pl i o := by
 intro L F a w hF hL S hdep
 refine stepM_of hi ?_
 obtain ⟨v1, e1, p1⟩ := depF_at hdep h1
 rw [f1] at p1
 obtain ⟨c1, rfl, hn1, hR1⟩ := p1
 refine wpl_buildSlice S hg hd hn ho hq (vs := [.agg ⟨c1⟩]) (by simp only [evs, ev, e1]) hz (by simp only [List.mem_cons, List.not_mem_nil, or_false, forall_eq_or_imp, forall_eq, Value.cells]; exact hn1) rfl hb hsz fun b a' w' hown S => ?_
 simp only [Value.cells, List.flatMap_cons, List.flatMap_nil, List.append_nil] at S
 obtain ⟨F', hle, hbl, S⟩ := frz1 S
 refine wpList_nil ⟨.slice (some ⟨b, 0, none⟩) 1 1, F', hle, S.keep ⟨by rw [hd2]; exact look_top, trivial⟩, ?_⟩
 rw [hp]
 exact trs_lim (lim_of (l := ([x1] : List (α × Rose α))) hbl (LiC.one hn1 (Mon.h hle hR1)) (show 1 ≤ _ by decide))
theorem dy_sl2 {ty e : TypeId} {parts : Array (Nat × Operand)} {α : Type} {R : Heap → α → List Value → Prop} [hM : Mon R] {x1 x2 : α × Rose α} [Und P ty (.slice e)] [Inf P e z sz by_] (j1 j2 : Nat) (hi : ops[i]? = some o := by rfl) (hg : o.guard = none := by rfl) (hd : o.dst = some d := by rfl) (hn : Nat.blt d n.sz = true := by rfl)
  (ho : o.op = .buildSlice ty 2 parts := by rfl) (hq : unidx 0 parts.toList = some [.tmp (dl.getD j1 0), .tmp (dl.getD j2 0)] := by rfl) (h1 : (o.after.toList.any fun e => Nat.beq e.on j1 && Region.binds .any e) = true := by rfl) (h2 : (o.after.toList.any fun e => Nat.beq e.on j2 && Region.binds .any e) = true := by rfl) (f1 : pl.getD j1 default = pRec sz (RoR sz R) x1 := by rfl) (f2 : pl.getD j2 default = pRec sz (RoR sz R) x2 := by rfl) (hz : z.cells.toList.length = sz := by rfl) (hb : Nat.ble (2 * sz) 16777216 = true := by rfl) (hsz : Nat.blt 0 sz = true := by rfl) (hd2 : dl.getD i 0 = d := by rfl) (hp : pl.getD i default = pTrs sz R (.cons x1.1 x1.2 (.cons x2.1 x2.2 .nil)) := by rfl) : Duty P ops n w0 F0 K0 L0 F1 dl pl i o := by
 intro L F a w hF hL S hdep
 refine stepM_of hi ?_
 obtain ⟨v1, e1, p1⟩ := depF_at hdep h1
 rw [f1] at p1
 obtain ⟨c1, rfl, hn1, hR1⟩ := p1
 obtain ⟨v2, e2, p2⟩ := depF_at hdep h2
 rw [f2] at p2
 obtain ⟨c2, rfl, hn2, hR2⟩ := p2
 refine wpl_buildSlice S hg hd hn ho hq (vs := [.agg ⟨c1⟩, .agg ⟨c2⟩]) (by simp only [evs, ev, e1, e2]) hz (by simp only [List.mem_cons, List.not_mem_nil, or_false, forall_eq_or_imp, forall_eq, Value.cells]; exact ⟨hn1, hn2⟩) rfl hb hsz fun b a' w' hown S => ?_
 simp only [Value.cells, List.flatMap_cons, List.flatMap_nil, List.append_nil] at S
 obtain ⟨F', hle, hbl, S⟩ := frz1 S
 refine wpList_nil ⟨.slice (some ⟨b, 0, none⟩) 2 2, F', hle, S.keep ⟨by rw [hd2]; exact look_top, trivial⟩, ?_⟩
 rw [hp]
 exact trs_lim (lim_of (l := ([x1, x2] : List (α × Rose α))) hbl (LiC.app (l := [x1]) (LiC.one hn1 (Mon.h hle hR1)) (LiC.one hn2 (Mon.h hle hR2))) (show 2 ≤ _ by decide))
theorem dy_sl3 {ty e : TypeId} {parts : Array (Nat × Operand)} {α : Type} {R : Heap → α → List Value → Prop} [hM : Mon R] {x1 x2 x3 : α × Rose α} [Und P ty (.slice e)] [Inf P e z sz by_] (j1 j2 j3 : Nat) (hi : ops[i]? = some o := by rfl) (hg : o.guard = none := by rfl) (hd : o.dst = some d := by rfl) (hn : Nat.blt d n.sz = true := by rfl)
  (ho : o.op = .buildSlice ty 3 parts := by rfl) (hq : unidx 0 parts.toList = some [.tmp (dl.getD j1 0), .tmp (dl.getD j2 0), .tmp (dl.getD j3 0)] := by rfl) (h1 : (o.after.toList.any fun e => Nat.beq e.on j1 && Region.binds .any e) = true := by rfl) (h2 : (o.after.toList.any fun e => Nat.beq e.on j2 && Region.binds .any e) = true := by rfl) (h3 : (o.after.toList.any fun e => Nat.beq e.on j3 && Region.binds .any e) = true := by rfl) (f1 : pl.getD j1 default = pRec sz (RoR sz R) x1 := by rfl) (f2 : pl.getD j2 default = pRec sz (RoR sz R) x2 := by rfl) (f3 : pl.getD j3 default = pRec sz (RoR sz R) x3 := by rfl) (hz : z.cells.toList.length = sz := by rfl) (hb : Nat.ble (3 * sz) 16777216 = true := by rfl) (hsz : Nat.blt 0 sz = true := by rfl) (hd2 : dl.getD i 0 = d := by rfl) (hp : pl.getD i default = pTrs sz R (.cons x1.1 x1.2 (.cons x2.1 x2.2 (.cons x3.1 x3.2 .nil))) := by rfl) : Duty P ops n w0 F0 K0 L0 F1 dl pl i o := by
 intro L F a w hF hL S hdep
 refine stepM_of hi ?_
 obtain ⟨v1, e1, p1⟩ := depF_at hdep h1
 rw [f1] at p1
 obtain ⟨c1, rfl, hn1, hR1⟩ := p1
 obtain ⟨v2, e2, p2⟩ := depF_at hdep h2
 rw [f2] at p2
 obtain ⟨c2, rfl, hn2, hR2⟩ := p2
 obtain ⟨v3, e3, p3⟩ := depF_at hdep h3
 rw [f3] at p3
 obtain ⟨c3, rfl, hn3, hR3⟩ := p3
 refine wpl_buildSlice S hg hd hn ho hq (vs := [.agg ⟨c1⟩, .agg ⟨c2⟩, .agg ⟨c3⟩]) (by simp only [evs, ev, e1, e2, e3]) hz (by simp only [List.mem_cons, List.not_mem_nil, or_false, forall_eq_or_imp, forall_eq, Value.cells]; exact ⟨hn1, hn2, hn3⟩) rfl hb hsz fun b a' w' hown S => ?_
 simp only [Value.cells, List.flatMap_cons, List.flatMap_nil, List.append_nil] at S
 obtain ⟨F', hle, hbl, S⟩ := frz1 S
 refine wpList_nil ⟨.slice (some ⟨b, 0, none⟩) 3 3, F', hle, S.keep ⟨by rw [hd2]; exact look_top, trivial⟩, ?_⟩
 rw [hp]
 exact trs_lim (lim_of (l := ([x1, x2, x3] : List (α × Rose α))) hbl (LiC.app (l := [x1]) (LiC.one hn1 (Mon.h hle hR1)) (LiC.app (l := [x2]) (LiC.one hn2 (Mon.h hle hR2)) (LiC.one hn3 (Mon.h hle hR3)))) (show 3 ≤ _ by decide))
end
section
variable {ops : Array Oper} {n : Sz} {w0 : World} {F0 F1 : Heap} {K0 : List Nat} {L0 : List (Nat × Value)} {dl : List Nat} {pl : List PM} {i : Nat} {o : Oper} {d : Nat}
theorem dy_call {X c : Operand} {ts : Array TypeId} {s : List UInt8} {Le : Ef} (j : Nat) (hi : ops[i]? = some o := by rfl) (hg : o.guard = none := by rfl) (hd : o.dst = some d := by rfl) (hn : Nat.blt d n.sz = true := by rfl)
  (ho : o.op = .call { callee := .value X, args := #[c, .tmp (dl.getD j 0)], argTypes := ts } := by rfl) (h1 : (o.after.toList.any fun e => Nat.beq e.on j && Region.binds .any e) = true := by rfl) (f1 : pl.getD j default = pTrs 9 EhR Le := by rfl) (hp : pl.getD i default = pRec 9 ReR (callH s, Le) := by rfl)
  (hx : ∀ L, ev L X = some (.func (.func 15) ⟨[]⟩ ⟨[]⟩) := by exact fun _ => rfl) (hc : ∀ L, ev L c = some (.string (bs s)) := by exact fun _ => rfl) (hd2 : dl.getD i 0 = d := by rfl) : Duty Tryz.prog ops n w0 F0 K0 L0 F1 dl pl i o := by
 intro L F a w hF hL S hdep
 obtain ⟨v, e, p⟩ := depF_at hdep h1
 rw [f1] at p
 refine stepM_of hi ?_
 refine wpl_callF S hg hd hn ho (hx L) (vs := [.string (bs s), v]) (by simp only [evs, hc, show ev L (.tmp (dl.getD j 0)) = some v from e]) (lcallCt F s Le v p) rfl fun u F' a' w' hu hle S => ?_
 refine wpList_nil ⟨u, F', hle, S.keep ⟨by rw [hd2]; exact look_top, trivial⟩, ?_⟩
 rw [hp]
 exact hu
end
section
variable {P : Program} {n : Sz} {L : List (Nat × Value)} {w0 : World} {F0 : Heap} {K0 : List Nat} {F : Heap} {G : List Grp} {a : Act} {w : World} {o : Oper}
theorem sv_field1 {x : Operand} {vs : List Value} {t : TypeId} {fs : List (Nat × TypeId)} {i fo : Nat} {ft : TypeId} {u : Value} [ht : Flds P t fs] (S : St n L w0 F0 K0 F G a w) (ho : o.op = .field t x i) (hx : ev L x = some (.agg ⟨vs⟩))
  (hf : fs[i]? = some (fo, ft)) (he : One P ft) (hv : vs[fo]? = some u) : SV P o a w u := by
 obtain ⟨fields, h1, h2⟩ := ht.h
 rw [← h2, List.getElem?_map] at hf
 obtain ⟨f, hf', e⟩ := Option.map_eq_some_iff.1 hf
 simp only [Prod.mk.injEq] at e
 obtain ⟨rfl, rfl⟩ := e
 have hf2 : fields[i]? = some f := by simpa using hf'
 have h3 : (part f.type ⟨vs⟩ f.offset).run P w = .ok u w := by
  simp [part, isAgg_notAgg he, hv]
 unfold SV execOp
 rw [ho]
 simp [S.fr.eval hx, Instr.field, run_underlying h1, hf2, asAgg, h3]
end
theorem zzDeB0 {p : Prop} (h : p := by (unfold parS; congr 1; first | (rw [Bool.eq_iff_iff, beq_iff_eq, decide_eq_true_eq]; exact Iff.rfl) | (have h0 : s = [] := List.length_eq_zero_iff.1 (by have h9 : s.length < 1 := h; omega); subst h0; rfl))) : p := h
theorem hasPrefix0Ct (F : Heap) (s : List UInt8) : Ct Tryz.prog 205 [.string (bs s), .string (bs [39])] F [] (fun _ _ u => u = .bool (parS s)) := by
 refine Ct.enter Tryz.func205 rfl Tryz.ntmps205 rfl fun w0 a S => ?_
 (revert S a; refine go 11 ?_; intro Z hZ a S)
 refine wgd S ?_ ?_
 ·(clear S; intro h S)
  (revert S a; refine go 6 ?_; intro a S)
  (refine wv S (sv_sliceS_hi S rfl rfl rfl (by first | omega | (simp only [List.length_append, List.length_cons, List.length_nil]; omega))) ?_; clear S a; intro a S)
  (revert S a; revert hZ Z; refine go 8 ?_; intro a S)
  refine wp_ret (fr1 S Tryz.results205 ?_)
  exact zzDeB0
 (clear S a; intro h a S)
 (revert S a; revert hZ Z; refine go 9 ?_; intro a S)
 refine wp_ret (fr1 S Tryz.results205 ?_)
 exact zzDeB0
theorem hasPrefixCt (F : Heap) (s : List UInt8) : Ct Tryz.prog 170 [.string (bs s), .string (bs [39])] F [] (fun _ _ u => u = .bool (parS s)) := by
 refine Ct.enter Tryz.func170 rfl Tryz.ntmps170 rfl fun w0 a S => ?_
 (revert S a; refine go 7 ?_; intro Z hZ a S)
 (refine wc0 S (hasPrefix0Ct F s) ?_; clear S a; intro v a w hv S; subst hv)
 (revert S a; revert hZ Z; refine go 3 ?_; intro a S)
 refine wp_ret (fr1 S Tryz.results170 ?_)
 rfl
theorem paramCt (F : Heap) (s : List UInt8) : Ct Tryz.prog 137 [.string (bs s)] F [] (fun _ _ u => u = .bool (parS s)) := by
 refine Ct.enter Tryz.func137 rfl Tryz.ntmps137 rfl fun w0 a S => ?_
 (revert S a; refine go 6 ?_; intro Z hZ a S)
 (refine wc0 S (hasPrefixCt F s) ?_; clear S a; intro v a w hv S; subst hv)
 (revert S a; revert hZ Z; refine go 3 ?_; intro a S)
 refine wp_ret (fr1 S Tryz.results137 ?_)
 rfl
theorem plainCt (F : Heap) (s : List UInt8) : Ct Tryz.prog 136 [.string (bs s)] F [] (fun _ _ u => u = .bool (plainS s)) := by
 refine Ct.enter Tryz.func136 rfl Tryz.ntmps136 rfl fun w0 a S => ?_
 (revert S a; refine go 8 ?_; intro Z hZ a S)
 refine wgd S ?_ ?_
 ·(clear S; intro h S)
  (revert S a; refine go 5 ?_; intro a S)
  refine wgd S ?_ ?_
  ·(clear S; intro h S)
   (revert S a; refine go 5 ?_; intro a S)
   refine wgd S ?_ ?_
   ·(clear S; intro h S)
    (revert S a; revert hZ Z; refine go 7 ?_; intro a S)
    refine wp_ret (fr1 S Tryz.results136 ?_)
    (congr 1; rw [Bool.eq_iff_iff]; simp [plainS, sBool, sInt, sBig, sText, *]; try exact decide_eq_true_iff.symm)
   (clear S a; intro h a S)
   (revert S a; revert hZ Z; refine go 5 ?_; intro a S)
   refine wp_ret (fr1 S Tryz.results136 ?_)
   (congr 1; rw [Bool.eq_iff_iff]; simp [plainS, sBool, sInt, sBig, sText, *]; try exact decide_eq_true_iff.symm)
  (clear S a; intro h a S)
  (revert S a; revert hZ Z; refine go 9 ?_; intro a S)
  refine wp_ret (fr1 S Tryz.results136 ?_)
  (congr 1; rw [Bool.eq_iff_iff]; simp [plainS, sBool, sInt, sBig, sText, *]; try exact decide_eq_true_iff.symm)
 (clear S a; intro h a S)
 (revert S a; revert hZ Z; refine go 13 ?_; intro a S)
 refine wp_ret (fr1 S Tryz.results136 ?_)
 (congr 1; rw [Bool.eq_iff_iff]; simp [plainS, sBool, sInt, sBig, sText, *]; try exact decide_eq_true_iff.symm)
theorem zzDeB1 {p : Prop} (h : p := by (first | (have he : s = x := (by first | assumption | simpa using h); subst he; have hm : s ∈ l := List.mem_of_getElem? hx; have hi : l.idxOf s = k := (by have h1 := List.idxOf_lt_length_iff.2 hm; rcases Nat.lt_trichotomy (l.idxOf s) k with h2 | h2 | h2; exact absurd (List.getElem_idxOf h1) (hall _ _ h2 (List.getElem?_eq_getElem h1)); exact h2; (exfalso; have h3 := List.not_of_lt_findIdx (p := (· == s)) (xs := l) h2; rw [(List.getElem?_eq_some_iff.1 hx).2] at h3; simp at h3)); unfold idxOf; rw [if_pos hm, hi]) | (have hm : ¬ s ∈ l := (by intro hm; obtain ⟨j, hj⟩ := List.mem_iff_getElem?.1 hm; exact hall j s (by have := (List.getElem?_eq_some_iff.1 hj).1; omega) hj rfl); unfold idxOf; rw [if_neg hm]) | trace_state)) : p := h
theorem indexSCt (F : Heap) (l : List (List UInt8)) (s : List UInt8) (v : Value) (h : SlC F v l.length (strs l)) (hl : l.length ≤ 9223372036854775807) : Ct Tryz.prog 122 [v, .string (bs s)] F [] (fun _ _ u => u = .int .i64 (idxOf l s)) := by
 obtain ⟨ao, cap, rfl, hcap, hpos⟩ := h
 refine Ct.enter Tryz.func122 rfl Tryz.ntmps122 rfl fun w0 a S => ?_
 (revert S a; refine go 12 ?_; intro Z hZ a S)
 refine wpc_loop (fun m a w' => ∃ (k : Nat), m = l.length - k ∧ k ≤ l.length ∧ (∀ j x, j < k → l[j]? = some x → x ≠ s) ∧ St 19 [(0, .slice ao l.length cap), (1, .string (bs s)), (7, .int .i64 l.length), (8, .int .i64 k)] w0 F [] F [] a w') ?_ ?_
 ·(refine ⟨l.length, 0, by omega, Nat.zero_le _, fun j x h => absurd h (Nat.not_lt_zero _), ?_⟩; refine S.keep ?_; exact zk)
 (clear S; rintro m a w ⟨k, rfl, hkl, hall, S⟩)
 (revert S a; refine go 5 ?_; intro Z hZ a S)
 refine wpc_sp S rfl ?_ ?_ <;> intro h
 ·(revert S a; revert hZ Z; refine go 9 ?_; intro Z hZ a S)
  (refine wp_seq_k ?_; intro Z hZ)
  (obtain ⟨x, hx⟩ : ∃ x, l[k]? = some x := ⟨_, List.getElem?_eq_getElem (by omega)⟩; obtain ⟨b8, o8, hao, hcs⟩ := hpos (by omega); rw [hao] at S; have hc1 : Cel F b8 (o8 + k * 1) (.string (bs x)) := (by rw [Nat.mul_one]; exact hcs k _ (by rw [strs, List.getElem?_map, hx]; rfl)))
  (revert S a; revert hZ Z; refine go 9 ?_; intro a S)
  refine wpc_sp S rfl ?_ ?_ <;> intro h
  ·(revert S a; refine go 5 ?_; intro a S)
   refine wp_ret (fr1 S Tryz.results122 ?_)
   exact zzDeB1
  (revert S a; revert hZ Z; refine go 6 ?_; intro a S)
  change ∃ m', _ ∧ _
  (rw [← hao] at S; refine ⟨l.length - (k + 1), by omega, k + 1, rfl, by omega, ?_, ?_⟩; rotate_left 1; (refine S.keep ?_; exact zk); intro j y h7 h8; rcases Nat.lt_or_eq_of_le (Nat.le_of_lt_succ h7) with h6 | h6; exact hall j y h6 h8; subst h6; rw [hx] at h8; cases h8; have hne : ¬ s = x := (by first | assumption | simpa using h); exact fun e => hne e.symm)
 (refine wp_exit ?_; conv => whnf)
 clear hZ Z
 (revert S a; revert hZ Z; refine go 5 ?_; intro a S)
 refine wp_ret (fr1 S Tryz.results122 ?_)
 exact zzDeB1
def OwnD (m : Nat) : Prop := ∀ (F : Heap) (nm : List UInt8) (ar : Fo) (cs : List Value), ar.size < m → TyC F cs nm ar → ar.len * 40 ≤ 140737488355328 → Thin ar →
 Ct Tryz.prog 90 [.agg ⟨cs⟩] F [] (fun F' _ u => ∃ (ao : Option Addr) (q c : Nat), u = .agg ⟨[.string (bs nm), .slice ao q c]⟩ ∧ SlF F' (.slice ao q c) ar)
theorem drop_app {pre : Fo} {l : Fo} {k : Nat} {x : Ty} (h : pre.app (l.drop k) = l) (hx : l.get? k = some x) : (pre.app (.cons x.1 x.2 .nil)).app (l.drop (k + 1)) = l := by
 conv => rhs; rw [← h, Fo.drop_get hx]
 rw [fo_app_assoc]; rfl
theorem ownDCt : ∀ m, OwnD m := by
 intro m
 induction m with
 | zero => intro F nm ar cs hm; omega
 | succ m ih =>
 intro F nm ar cs hm hT hln hthin
 obtain ⟨v, rfl, ao, cap, rfl, hcap, hpos⟩ := hT
 refine Ct.enter Tryz.func90 rfl Tryz.ntmps90 rfl fun w0 a S => ?_
 refine wp_sr fun Z hZ => ?_
 (refine wbx S ?_; clear S a; intro b1 a w S)
 (refine wpl_alloc S rfl rfl rfl rfl ?_; clear S a; intro b2 a w S)
 (revert S a; revert hZ Z; refine go 6 ?_; intro Z hZ a S)
 (refine wpl_alloc S rfl rfl rfl rfl ?_; clear S a; intro b3 a w S)
 (refine wso S rfl rfl ?_; clear S; intro w S)
 (revert S a; revert hZ Z; refine go 11 ?_; intro Z hZ a S)
 refine wpc_loop (fun m a w' => ∃ (i : Nat) (v : Value) (g : Grp) (xs : List Value) (pre : Fo) (F3 : Heap), m = ar.len - i ∧ i ≤ ar.len ∧ (∀ b o, F b = some o → F3 b = some o) ∧ OwnS 88 2 v i xs g ∧ FoC F3 xs pre ∧ pre.len = i ∧ pre.app (ar.drop i) = ar ∧ St 25 [(2, ptr b2), (3, ptr b3), (10, .slice ao ar.len cap), (11, .int .i64 ar.len), (12, .int .i64 i)] w0 F [] F3 ([(b3, .cells ⟨[.string (bs nm), v]⟩ 88 (0, 0))] :: g :: [(b2, .cells ⟨[.string (bs []), .slice none 0 0]⟩ 88 (0, 0))] :: [(b1, .cells ⟨[.string (bs nm), .slice ao ar.len cap]⟩ 88 (0, 0))] :: []) a w') ?_ ?_
 ·(replace S := st_nil2 S; refine ⟨ar.len, 0, .slice none 0 0, [], [], .nil, F, by omega, Nat.zero_le _, fun _ _ h => h, OwnS.nil _ _, trivial, rfl, rfl, ?_⟩; refine S.keep ?_; exact zk)
 (clear S; rintro m a w ⟨i, v, g, xs, pre, F3, rfl, hil, hF3, hown, hfc, hpre, happ, S⟩)
 (revert S a; refine go 5 ?_; intro Z hZ a S)
 refine wpc_sp S rfl ?_ ?_ <;> intro h
 ·(revert S a; revert hZ Z; refine go 4 ?_; intro Z hZ a S)
  (refine wp_seq_k ?_; intro Z hZ)
  (obtain ⟨b8, o8, hao, x, v1, hx, hc1, hT1⟩ := FoM.pos hpos (k := i) (by omega); rw [hao] at S; replace hc1 := Cels.mono hF3 hc1; replace hT1 := hT1.mono hF3; have hT1c := hT1; obtain ⟨a91, c91, rfl, -⟩ := hT1c; obtain ⟨hx40, hxth⟩ := hthin.get hx; have hxs := Fo.size_get hx)
  (revert S a; refine go 3 ?_; intro a S)
  (refine wpl_alloc S rfl rfl rfl rfl ?_; clear S a; intro b5 a w S)
  (refine wso S rfl rfl ?_; clear S; intro w S)
  (revert S a; revert hZ Z; refine go 2 ?_; intro a S)
  (refine wpc_mixM [0, 1, 2, 6] [1, 2] [7] (.one 0 (.one 1 (.one 2 (.one 3 (.one 4 (.one 5 (.one 6 (.one 7 .nil)))))))) [b3, b5] S mixed (by kernel_rfl) ?_; clear S; intro w S)
  (revert S a; refine go 4 ?_; intro a S)
  (refine wpl_call (Gs := []) (Gr := [[(b5, _)], [(b3, _)], g, [(b2, _)], [(b1, _)]]) S rfl rfl rfl rfl rfl rfl (ih F3 x.1 x.2 _ (by omega) ⟨_, rfl, hT1⟩ hx40 hxth) rfl (by exact List.Perm.refl _) ?_; clear S a; intro u9 F4 G4 a w hv hF4 S; obtain ⟨a4, q4, c4, rfl, hs4⟩ := hv; replace S : St _ _ _ _ _ F4 ([(b5, _)] :: [(b3, _)] :: g :: [(b2, _)] :: [(b1, _)] :: []) _ _ := ⟨S.fr, S.tr.sub (by rw [List.flatten_append]; exact List.sublist_append_right _ _)⟩)
  (revert S a; refine go 2 ?_; intro a S)
  (refine wpl_buildSlice S rfl rfl rfl rfl rfl rfl (by rfl) (by simp [Value.cells, splice, splice]) rfl (by rfl) (by rfl) ?_; clear S a; intro b20 a w hown2 S)
  (revert S a; refine go 2 ?_; intro a S)
  (refine wpl_appendOwn S rfl rfl rfl rfl rfl rfl hown hown2 (by rfl) (by simp [Value.cells, Value.oneCell', splice, splice]) (by omega) (by omega) ?_; clear hown S a; intro v g a w hown S)
  (revert S a; refine go 3 ?_; intro a S)
  (refine wpl_store1 S rfl rfl rfl rfl rfl hown.oneCell (by first | (simp; done) | (simp [Value.cells]; done) | exact Nat.le_of_ble_eq_true rfl) ?_; clear S; intro w S)
  refine wpList_nil ?_
  refine wpm_nil (fun h => absurd h (by decide)) ?_
  (revert S a; revert hZ Z; refine go 5 ?_; intro a S)
  change ∃ m', _ ∧ _
  (rw [← hao] at S; replace S := S.drop1; refine ⟨ar.len - (i + 1), by omega, i + 1, _, _, _, pre.app (.cons x.1 x.2 .nil), F4, rfl, by omega, fun b o h => hF4 _ _ (hF3 _ _ h), hown, FoC.app (hfc.mono hF4) (FoC.one hs4), by rw [Fo.len_app, hpre]; rfl, drop_app happ hx, ?_⟩; refine S.keep ?_; exact zk)
 (refine wp_exit ?_; conv => whnf)
 clear hZ Z
 (refine hZ _ _ ?_; clear hZ Z)
 (refine wp_seq_k ?_; intro Z hZ)
 (obtain ⟨aoK, capK, rfl, -⟩ := hown.at)
 (revert S a; refine go 2 ?_; intro a S)
 (refine wso S rfl rfl ?_; clear S; intro w S)
 (revert S a; revert hZ Z; refine go 2 ?_; intro a S)
 refine wp_ret ?_
 (have S0 := S; have hii : i = ar.len := (by omega); replace S := S.drop1; have hle := add_le (G1 := []) S; replace S := St.freeze (G1 := []) S; (simp only [List.nil_append] at S hle); replace S := S.drop1.drop1)
 refine fin_ret S (results1 Tryz.results90 (RV.cellO S0 rfl (by rfl))) ?_
 (have hdl : ar.drop i = .nil := Fo.drop_len (by omega); rw [hdl, fo_app_nil] at happ; rw [happ] at hfc hpre; exact ⟨_, _, _, rfl, FoC.slf hown hfc (by omega) hle (by omega)⟩)
end Go.Proofs.YtgefmjghdijbfaaGreatDoor
