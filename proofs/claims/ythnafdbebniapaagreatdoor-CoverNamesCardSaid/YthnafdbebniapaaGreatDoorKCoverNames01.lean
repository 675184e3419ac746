/- Walks. -/
import Derived.Test.YthnafdbebniapaaGreatDoorQ20
import Derived.Test.YthnafdbebniapaaGreatDoorQ17
import Derived.Test.YthnafdbebniapaaGreatDoorQ11
import Derived.Test.YthnafdbebniapaaGreatDoorQ10
import Derived.Test.YthnafdbebniapaaGreatDoorQ09
import Derived.Test.YthnafdbebniapaaGreatDoorQ08
import Derived.Test.YthnafdbebniapaaGreatDoorQ06
import Derived.Test.YthnafdbebniapaaGreatDoorQ05
import Derived.Test.YthnafdbebniapaaGreatDoorQ04
import Derived.Test.YthnafdbebniapaaGreatDoorQ03
import Derived.Test.YthnafdbebniapaaGreatDoorQ02
import Derived.Test.YthnafdbebniapaaGreatDoorQ01
import Derived.Test.YthnafdbebniapaaGreatDoorQ30
import Derived.Test.YthnafdbebniapaaGreatDoorQ29
import Derived.Test.YthnafdbebniapaaGreatDoorQ28
import Derived.Test.YthnafdbebniapaaGreatDoorQ27
import Derived.Test.YthnafdbebniapaaGreatDoorQ26
import Derived.Test.YthnafdbebniapaaGreatDoorKCoverNamesTy
import Derived.Test.YthnafdbebniapaaGreatDoorQ19
import Derived.Test.YthnafdbebniapaaGreatDoorQ18
import Derived.Test.YthnafdbebniapaaGreatDoorQShelf
import Derived.Test.YthnafdbebniapaaGreatDoorQ12
import Derived.Test.YthnafdbebniapaaGreatDoorQ21
import Derived.Test.YthnafdbebniapaaGreatDoorQ16
import Derived.Test.YthnafdbebniapaaGreatDoorQ15
import Derived.Test.YthnafdbebniapaaGreatDoorQ14
import Derived.Test.YthnafdbebniapaaGreatDoorQ13
import Derived.Test.YthnafdbebniapaaGreatDoorQ25
import Derived.Test.YthnafdbebniapaaGreatDoorQ24
import Derived.Test.YthnafdbebniapaaGreatDoorQ23
import Derived.Test.YthnafdbebniapaaGreatDoorQ22
import Derived.Test.YthnafdbebniapaaGreatDoorQ37
import Derived.Test.YthnafdbebniapaaGreatDoorQ35
import Derived.Test.YthnafdbebniapaaGreatDoorQ34
import Derived.Test.YthnafdbebniapaaGreatDoorQ33
import Derived.Test.YthnafdbebniapaaGreatDoorQ36
import Derived.OpenShut
import Derived.Below
import Derived.Carry
import Derived.SizedLaws
import Derived.Deep.Slices
import Derived.Deep.Strs
import Derived.Test.YthnafdbebniapaaGreatDoorQ38
import Derived.Test.YthnafdbebniapaaGreatDoorQ32
import Derived.Test.YthnafdbebniapaaGreatDoorQ31
set_option maxHeartbeats 8000000
namespace Go.Cv
open Go Go.Wk Go.Un Go.De
set_option linter.unusedSimpArgs false
set_option linter.unusedVariables false
section
variable {τ : Type} (sh : VH → By) (allO : τ → Option (List (Frm τ))) (kid : EH → Nat → τ → List τ) (K : Nat)
def uslF (xs : List τ) : Nat → List Ef → List Ef → List Nat
 | _, _, [] => []
 | i, pre, r :: rs => if usU sh allO kid K xs pre r = true then uslF xs (i + 1) (pre ++ [r]) rs else i :: uslF xs (i + 1) (pre ++ [r]) rs
variable {sh allO kid K} {W : τ → Prop}
theorem more_law {xs : List τ} : ∀ (rs pre : List Ef) (i : Nat) (q : Ef), uslF sh allO kid K xs i pre (rs ++ [q]) = uslF sh allO kid K xs i pre rs ++ (if usU sh allO kid K xs (pre ++ rs) q = true then [] else [i + rs.length])
 | [], pre, i, q => by
  show uslF sh allO kid K xs i pre [q] = [] ++ _
  rw [List.append_nil]
  unfold uslF
  split <;> rfl
 | r :: rs, pre, i, q => by
  have ih := more_law (xs := xs) rs (pre ++ [r]) (i + 1) q
  have ea : pre ++ r :: rs = (pre ++ [r]) ++ rs := by rw [List.append_assoc]; rfl
  have el : i + 1 + rs.length = i + (r :: rs).length := by rw [List.length_cons]; omega
  rw [el, ← ea] at ih
  show uslF sh allO kid K xs i pre (r :: (rs ++ [q])) = _
  unfold uslF
  split
  ·exact ih
  ·rw [ih]; rfl
end
end Go.Cv
namespace Go.Proofs.YthnafdbebniapaaGreatDoor
open Go Go.Wk Go.Un Go.De Go.Cv
set_option linter.unusedSimpArgs false
set_option linter.unusedVariables false
attribute [local irreducible] Go.wpList Go.Code.wp Go.wpStill Go.Wk.wpPre Go.bodyPost Go.Calls Go.Wk.Ct Go.Wk.OwnS Go.Wk.wpG Go.Wk.wpM
abbrev usuC (ts : List TD) (xs : List Ty) (rows : List Ef) (q : Ef) : Bool := usU showV (allF ts (consOf ts)) (kidF (consOf ts)) (arK ts) xs rows q
abbrev uslC (ts : List TD) (xs : List Ty) (rows : List Ef) : List Nat := uslF showV (allF ts (consOf ts)) (kidF (consOf ts)) (arK ts) xs 0 [] rows
theorem usl_at {ts : List TD} {xs : List Ty} {rows : List Ef} {k : Nat} {r : Ef} (hx : rows[k]? = some r) : uslC ts xs (rows.take (k + 1)) = uslC ts xs (rows.take k) ++ (if usuC ts xs (rows.take k) r = true then [] else [k]) := by
 have hk := (List.getElem?_eq_some_iff.1 hx).1
 unfold uslC usuC
 rw [List.take_add_one, hx, Option.toList_some, more_law, List.nil_append, Nat.zero_add, List.length_take, Nat.min_eq_left (by omega)]
def ints (l : List Nat) : List Value := l.map fun (n : Nat) => Value.int .i64 ((n : Nat) : Int)
theorem usl_len {ts : List TD} {xs : List Ty} : ∀ (rs pre : List Ef) (i : Nat), (uslF showV (allF ts (consOf ts)) (kidF (consOf ts)) (arK ts) xs i pre rs).length ≤ rs.length
 | [], _, _ => Nat.le_refl _
 | r :: rs, pre, i => by
  have ih := usl_len (ts := ts) (xs := xs) rs (pre ++ [r]) (i + 1)
  unfold uslF
  split
  ·rw [List.length_cons]; omega
  ·rw [List.length_cons, List.length_cons]; omega
theorem lim_take {α : Type} {F : Heap} {sz i : Nat} {R : Heap → α → List Value → Prop} {ao : Option Addr} {m c : Nat} {l : List α} (h : LiM F sz R (.slice ao m c) l) (hi : i ≤ l.length) : LiM F sz R (.slice ao i c) (l.take i) := by
 obtain ⟨_, _, e, h1, h2⟩ := h
 cases e
 have hl : (l.take i).length = i := by rw [List.length_take]; omega
 refine ⟨ao, c, by rw [hl], ⟨by rw [hl]; omega, by rw [hl]; omega⟩, fun hp => ?_⟩
 rw [hl] at hp
 obtain ⟨b, o, rfl, h3⟩ := h2 (by omega)
 refine ⟨b, o, rfl, fun k x hx => h3 k x ?_⟩
 rw [List.getElem?_take] at hx
 split at hx
 ·exact hx
 ·cases hx
def UsQ (e : Int) (l : List Nat) (G' : List Grp) (u : Value) : Prop := (e ≠ 0 ∧ u = .tuple ⟨[.slice none 0 0, .int .i64 e]⟩) ∨ (e = 0 ∧ ∃ v g, u = .tuple ⟨[v, .int .i64 0]⟩ ∧ G' = [g] ∧ OwnS 3 1 v l.length (ints l) g)
theorem zzCa0 {p : Prop} (h : p := by (first | exact .inl ⟨by omega, rfl⟩ | (have hz0 : chkE ts xs rows = 0 := (by omega); rw [List.take_of_length_le (by omega)] at hown; exact .inr ⟨hz0, _, _, rfl, rfl, hown⟩) | trace_state)) : p := h
theorem zzCa1 {p : Prop} (h : p := by (rw [← hao] at S; first | (have hb : usuC ts xs (rows.take k) r = true := (by assumption); refine ⟨rows.length - (k + 1), by omega, k + 1, v, g, rfl, by omega, by rw [usl_at hx, if_pos hb, List.append_nil]; exact hown, ?_⟩; (refine S.keep ?_; exact zk); done) | (have hb : ¬ usuC ts xs (rows.take k) r = true := (by simp_all); refine ⟨rows.length - (k + 1), by omega, k + 1, v, g, rfl, by omega, by rw [usl_at hx, if_neg hb, List.length_append]; unfold ints at hown ⊢; rw [List.map_append]; exact hown, ?_⟩; (refine S.keep ?_; exact zk); done) | trace_state)) : p := h
theorem uselessCt (F : Heap) (hM : MaxF F) (hT : TabF F) (tb : Nat) (ts : List TD) (hC : CTab F tb ts) (hTz : TSz ts) (v1 v2 : Value) (xs : List Ty) (rows : List Ef) (hB : CkB xs rows) (h1 : SlF F v1 (foOf xs)) (h2 : LiM F 1 RwR v2 rows) (hU : chkE ts xs rows = 0 → ∀ k r, rows[k]? = some r → URu ts xs (rows.take k) r) :
  Ct Tryz.prog 29 [.pointer (some ⟨tb, 0, none⟩), v1, v2] F [] (fun _ G' u => UsQ (chkE ts xs rows) (uslC ts xs rows) G' u) := by
 have hc := checkRCt F hM tb ts hC v1 v2 xs rows hB h1 h2
 have hrl := hB.rl
 obtain ⟨a1, c1, rfl, -, -⟩ := id h1
 obtain ⟨a2, c2, rfl, h2c, h2p⟩ := id h2
 refine Ct.enter Tryz.func29 rfl Tryz.ntmps29 rfl fun w0 a S => ?_
 (revert S a; refine go 10 ?_; intro Z hZ Z hZ a S)
 (refine wc0 S hc ?_; clear S a; intro v15 a w hv S; subst hv)
 (revert S a; revert hZ Z; refine go 8 ?_; intro a S)
 refine wpc_sp S rfl ?_ ?_ <;> intro h
 ·(revert S a; refine go 6 ?_; intro a S)
  refine wp_ret (fr2 S Tryz.results29 ?_)
  exact zzCa0
 (revert S a; revert hZ Z; refine go 14 ?_; intro Z hZ a S)
 refine wpc_loop (fun m a w' => ∃ (k : Nat) (v : Value) (g : Grp), m = rows.length - k ∧ k ≤ rows.length ∧ OwnS 3 1 v (uslC ts xs (rows.take k)).length (ints (uslC ts xs (rows.take k))) g ∧ St 41 [(0, ptr tb), (1, .slice a1 (foOf xs).len c1), (2, .slice a2 rows.length c2), (9, v), (19, .slice a2 rows.length c2), (20, .int .i64 rows.length), (21, .int .i64 k)] w0 F [] F [g] a w') ?_ ?_
 ·(replace S := S.nilg; refine ⟨rows.length, 0, .slice none 0 0, [], by omega, Nat.zero_le _, OwnS.nil _ _, ?_⟩; refine S.keep ?_; exact zk)
 (clear S; rintro m a w ⟨k, v, g, rfl, hkl, hown, S⟩)
 (revert S a; refine go 5 ?_; intro Z hZ a S)
 refine wpc_sp S rfl ?_ ?_ <;> intro h
 ·(revert S a; revert hZ Z; refine go 4 ?_; intro Z hZ a S)
  (refine wp_seq_k ?_; intro Z hZ)
  (have hz0 : chkE ts xs rows = 0 := (by omega); obtain ⟨b8, o8, hao, r, cs1, hx, hcr, ⟨u1, rfl, hu1⟩⟩ := LiM.pos h2p (k := k) (by omega); have h2t := lim_take (i := k) h2 (by omega); rw [hao] at S h2t; replace hcr : Cel F b8 (o8 + k * 1) _ := hcr 0 _ rfl; obtain ⟨ar, cr, rfl⟩ := trs_slc hu1)
  (revert S a; refine go 3 ?_; intro a S)
  (refine wv S (sv_loadF S rfl rfl hcr) ?_; clear S a; intro a S)
  (revert S a; revert hZ Z; refine go 10 ?_; intro Z hZ a S)
  (refine wv S (sv_sliceSl_h S rfl rfl rfl (by omega)) ?_; clear S a; intro a S)
  (revert S a; refine go 1 ?_; intro a S)
  (refine wc0 S (usefulCt tb hTz _ F _ _ _ xs (rows.take k) r hT hC h1 h2t hu1 (hU hz0 k r hx)) ?_; clear S a; intro v33 a w hv S; replace hv : v33 = .bool (usuC ts xs (rows.take k) r) := hv; subst hv)
  (revert S a; revert hZ Z; refine go 3 ?_; intro a S)
  refine wpc_sp S rfl ?_ ?_ <;> intro h
  ·(obtain ⟨aoK, capK, rfl, -⟩ := hown.at; have hsl : (uslC ts xs (rows.take k)).length ≤ (rows.take k).length := usl_len (ts := ts) (xs := xs) (rows.take k) [] 0; rw [List.length_take] at hsl)
   (revert S a; refine go 3 ?_; intro a S)
   (refine wpl_append S rfl rfl rfl rfl rfl rfl rfl rfl rfl rfl rfl (fun _ => rfl) hown (by rfl) (by simp [Value.cells, splice, splice]) (by simp [Value.cells, Value.oneCell', splice, splice]) rfl (by rfl) (by rfl) rfl (by omega) (by omega) ?_; clear hown S a; intro v u g a w hown S)
   (revert S a; revert hZ Z; refine go 7 ?_; intro a S)
   change ∃ m', _ ∧ _
   exact zzCa1
  (revert S a; revert hZ Z; refine go 6 ?_; intro a S)
  change ∃ m', _ ∧ _
  exact zzCa1
 (refine wp_exit ?_; conv => whnf)
 clear hZ Z
 (revert S a; revert hZ Z; refine go 7 ?_; intro a S)
 refine wp_ret (fr2 S Tryz.results29 ?_)
 exact zzCa0
theorem totR_take (rows : List Ef) (k : Nat) : totR (rows.take k) ≤ totR rows := by
 have h : totR (rows.take k) + totR (rows.drop k) = totR rows := by
  unfold totR
  rw [← List.sum_append, ← List.map_append, List.take_append_drop]
 omega
theorem uru_usl {ts : List TD} {xs : Fo} {rows : List Ef} (hS : SmT ts) (hT : TOk ts) (hx : xs.size < 30) (hr : totR rows ≤ 200) (hB : RowsB rows) (h : chkE ts (tysOf xs) rows = 0) : ∀ k r, rows[k]? = some r → URu ts (tysOf xs) (rows.take k) r := by
 obtain ⟨h1, h2⟩ := ck_well h
 have h3 := ck_rows h2
 have hl := fo_len_30 hx
 have hQ : ∀ r ∈ rows, QOk ts (tysOf xs) r := fun r hr2 => row_QOk (h3 r hr2) (hB r hr2).1 (hB r hr2).2 (by have := totR_mem r hr2; omega)
 intro k r hk
 exact uru_of hS hT (fun x hx2 => ⟨h1 x hx2, by have := fo_size_mem x hx2; omega⟩) hl (fun r hr2 => hQ r (List.mem_of_mem_take hr2)) (hQ r (List.mem_of_getElem? hk)) (Nat.le_trans (totR_take rows k) hr)
end Go.Proofs.YthnafdbebniapaaGreatDoor
namespace Go.Wk
open Go Go.ChangeShapes Go.WideShapes
set_option linter.unusedSimpArgs false
set_option linter.unusedVariables false
theorem at_heapOf (w : World) : At w (heapOf w) [] := ⟨fun _ _ h => h, fun p h => by simp at h, by simp [keys]⟩
theorem below_of {W W' : World} {F' : Heap} {G' : List Grp} (h : Tr W (heapOf W) [] W' F' G') : Go.RowKit.Below W.heap.size W W' :=
 ⟨h.os, h.tape, h.output, h.size, fun k hk => h.old k hk (by simp)⟩
instance : Inhabited PM := ⟨⟨fun _ _ => True, fun _ _ _ _ h => h⟩⟩
section
variable {P : Program} {ops : Array Oper} {Q : Exit → Act → World → Prop} {n : Sz} {w0 : World} {F0 F1 : Heap} {K0 : List Nat} {a : Act} {w : World}
theorem stepM_put {i : Nat} {K : Act → World → Prop} {o : Oper} (ho : ops[i]? = some o) (hK : ∀ a' w', K a' w' → a'.defers = a.defers) (h : stepM P ops i K a w) : stepM P ops i (fun a' w' => (∃ v, a' = a.put o.dst v) ∧ K a' w') a w := by
 obtain ⟨o', ho', h⟩ := h
 obtain rfl : o' = o := Option.some.inj (ho'.symm.trans ho)
 refine ⟨o', ho', ?_⟩
 split
 ·rename_i hw
  rw [if_pos hw] at h
  unfold Oper.wp at *
  generalize (execOp a.eval o').run P w = r at *
  unfold Oper.upon at *
  split at h
  ·exact ⟨⟨_, rfl⟩, h⟩
  ·exact ⟨⟨_, rfl⟩, h⟩
  ·have := hK _ _ h
   exfalso
   cases hd : o'.dst <;> rw [hd] at this <;> simp [Act.put] at this
  ·refine Calls.mono h fun e w'' he => ?_
   cases e with
   | returned v => exact ⟨⟨_, rfl⟩, he⟩
   | panicked c => exact he.elim
   | outgrown => exact he
  ·exact Rows.mono h fun v w'' he => ⟨⟨_, rfl⟩, he⟩
  ·exact h.elim
  ·exact h.elim
 ·rename_i hw
  rw [if_neg hw] at h
  exact ⟨⟨_, rfl⟩, h⟩
theorem kp0 {L : List (Nat × Value)} : subL L [] := trivial
theorem kp {L r : List (Nat × Value)} {t : Nat} {v : Value} (e : look L t = some v) (h : subL L r) : subL L ((t, v) :: r) := ⟨e, h⟩
def FactAt (dl : List Nat) (pl : List PM) (L : List (Nat × Value)) (F : Heap) (j : Nat) : Prop := ∃ v, look L (dl.getD j 0) = some v ∧ (pl.getD j default).p v F
def DepF (dl : List Nat) (pl : List PM) (L : List (Nat × Value)) (F : Heap) : List Edge → Prop
 | [] => True
 | e :: r => (Region.binds .any e = true → FactAt dl pl L F e.on) ∧ DepF dl pl L F r
theorem depF_of {dl : List Nat} {pl : List PM} {L : List (Nat × Value)} {F : Heap} : ∀ {es : List Edge}, (∀ e ∈ es, Region.binds .any e = true → FactAt dl pl L F e.on) → DepF dl pl L F es
 | [], _ => trivial
 | e :: r, h => ⟨h e (List.mem_cons_self ..), depF_of fun x hx => h x (List.mem_cons_of_mem _ hx)⟩
def Duty (P : Program) (ops : Array Oper) (n : Sz) (w0 : World) (F0 : Heap) (K0 : List Nat) (L0 : List (Nat × Value)) (F1 : Heap) (dl : List Nat) (pl : List PM) (i : Nat) (o : Oper) : Prop :=
 ∀ L F a w, (∀ b o, F1 b = some o → F b = some o) → (∀ t v, look L0 t = some v → look L t = some v) → St n L w0 F0 K0 F [] a w → DepF dl pl L F o.after.toList →
  stepM P ops i (fun a' w' => ∃ v F', (∀ b o, F b = some o → F' b = some o) ∧ St n [(dl.getD i 0, v)] w0 F0 K0 F' [] a' w' ∧ (pl.getD i default).p v F') a w
def Duties (P : Program) (ops : Array Oper) (n : Sz) (w0 : World) (F0 : Heap) (K0 : List Nat) (L0 : List (Nat × Value)) (F1 : Heap) (dl : List Nat) (pl : List PM) : Nat → List Oper → Prop
 | _, [] => True
 | i, o :: r => Duty P ops n w0 F0 K0 L0 F1 dl pl i o ∧ Duties P ops n w0 F0 K0 L0 F1 dl pl (i + 1) r
theorem duties_at {L0 : List (Nat × Value)} {dl : List Nat} {pl : List PM} {l : List Oper} : ∀ {k i : Nat} {o : Oper}, Duties P ops n w0 F0 K0 L0 F1 dl pl k l → l[i]? = some o → Duty P ops n w0 F0 K0 L0 F1 dl pl (k + i) o := by
 induction l with
 | nil => intro k i o _ e; rw [List.getElem?_nil] at e; cases e
 | cons x r ih =>
  intro k i o h e
  cases i with
  | zero =>
   rw [List.getElem?_cons_zero] at e
   obtain rfl := Option.some.inj e
   exact h.1
  | succ i =>
   rw [List.getElem?_cons_succ] at e
   have := ih (i := i) h.2 e
   rwa [Nat.add_assoc, Nat.add_comm 1 i] at this
def factsB (L0 : List (Nat × Value)) (dl : List Nat) (l : List Oper) : Bool :=
 decide (l.map (·.dst) = dl.map some) && decide dl.Nodup && L0.all (fun p => !dl.contains p.1) &&
  ((List.range l.length).all fun i => match l[i]? with | some o => o.after.toList.all fun e => !Region.binds .any e || Nat.blt e.on i | none => true)
def Know (n : Sz) (w0 : World) (F0 : Heap) (K0 : List Nat) (L0 : List (Nat × Value)) (F1 : Heap) (dl : List Nat) (pl : List PM) (listed : Array Bool) (a : Act) (w : World) : Prop :=
 ∃ L F, (∀ b o, F1 b = some o → F b = some o) ∧ (∀ t v, look L0 t = some v → look L t = some v) ∧ St n L w0 F0 K0 F [] a w ∧ ∀ i, listed.getD i false = true → FactAt dl pl L F i
theorem count_set {l : Array Bool} {i : Nat} (h : l.getD i true = false) : (l.setIfInBounds i true).toList.count false + 1 = l.toList.count false := by
 have hi : i < l.size := by
  rw [Array.getD_eq_getD_getElem?] at h
  cases hx : l[i]? with
  | none => rw [hx] at h; cases h
  | some b => exact (Array.getElem?_eq_some_iff.1 hx).1
 have hv : l.toList[i]'(by simpa using hi) = false := by
  rw [Array.getD_eq_getD_getElem?, Array.getElem?_eq_getElem hi] at h
  simpa using h
 rw [Array.toList_setIfInBounds, List.count_set (by simpa using hi), hv]
 have : 0 < l.toList.count false := List.count_pos_iff.2 (by rw [← hv]; exact List.getElem_mem _)
 simp only [beq_self_eq_true, if_true, Bool.true_eq_false, beq_iff_eq, if_false]
 omega
theorem wpAny_facts {l : List Oper} {L0 : List (Nat × Value)} {dl : List Nat} {pl : List PM} (hB : factsB L0 dl l = true) (hD : Duties P l.toArray n w0 F0 K0 L0 F1 dl pl 0 l)
  (hend : ∀ L F a w, (∀ b o, F1 b = some o → F b = some o) → (∀ t v, look L0 t = some v → look L t = some v) → St n L w0 F0 K0 F [] a w → (∀ i, i < l.length → FactAt dl pl L F i) → Q .normal a w) :
  ∀ (fuel : Nat) (listed : Array Bool) (a : Act) (w : World), listed.size = l.length → listed.toList.count false = fuel → Know n w0 F0 K0 L0 F1 dl pl listed a w → wpAny P .any l.toArray (Qn Q) fuel listed a w := by
 simp only [factsB, Bool.and_eq_true, decide_eq_true_eq] at hB
 obtain ⟨⟨⟨hdst, hnd⟩, hL0⟩, hac⟩ := hB
 have hlen : l.length = dl.length := by have := congrArg List.length hdst; simpa using this
 have hd : ∀ i o, l[i]? = some o → o.dst = some (dl.getD i 0) := fun i o ho => by
  have h1 := congrArg (fun x => x[i]?) hdst
  simp only [List.getElem?_map, ho, Option.map_some] at h1
  have hi : i < dl.length := by rw [← hlen]; exact (List.getElem?_eq_some_iff.1 ho).1
  rw [List.getElem?_eq_getElem hi, Option.map_some] at h1
  rw [List.getD_eq_getElem?_getD, List.getElem?_eq_getElem hi]
  exact Option.some.inj h1
 have hall : ∀ listed : Array Bool, listed.size = l.length → Region.ready .any l.toArray listed = [] → ∀ i, i < l.length → listed.getD i false = true := fun listed hsz hr => by
  intro i
  induction i using Nat.strongRecOn with
  | _ i ih =>
  intro hi
  cases hx : listed.getD i false with
  | true => rfl
  | false =>
   exfalso
   have hmem : i ∈ Region.ready .any l.toArray listed := by
    refine mem_ready.2 ⟨?_, l[i], by simp [hi], fun e he hbd => ?_⟩
    ·rw [Array.getD_eq_getD_getElem?, Array.getElem?_eq_getElem (by omega)] at hx ⊢; exact hx
    ·have h9 := List.all_eq_true.1 hac i (List.mem_range.2 hi)
     rw [List.getElem?_eq_getElem hi] at h9
     have h10 := List.all_eq_true.1 h9 e (by simpa using he)
     rw [hbd, Bool.not_true, Bool.false_or, Nat.blt_eq] at h10
     exact ih e.on h10 (by omega)
   rw [hr] at hmem; cases hmem
 have hfin : ∀ (listed : Array Bool) (a : Act) (w : World), listed.size = l.length → Know n w0 F0 K0 L0 F1 dl pl listed a w → Region.ready .any l.toArray listed = [] → Q .normal a w := fun listed a w hsz ⟨L, F, h1, h2, h3, h4⟩ hr =>
  hend L F a w h1 h2 h3 fun i hi => h4 i (hall listed hsz hr i hi)
 intro fuel
 induction fuel with
 | zero =>
  intro listed a w hsz hc hk
  have hr : Region.ready .any l.toArray listed = [] := by
   rw [List.eq_nil_iff_forall_not_mem]
   intro i hi
   have h1 := (mem_ready.1 hi).1
   have := count_set h1
   omega
  exact ⟨hr, hfin listed a w hsz hk hr⟩
 | succ fuel ih =>
  intro listed a w hsz hc hk
  refine ⟨hfin listed a w hsz hk, fun i hi => ?_⟩
  obtain ⟨hun, o, ho, hdeps⟩ := mem_ready.1 hi
  have ho' : l[i]? = some o := by simpa using ho
  have hdo := hd i o ho'
  obtain ⟨L, F, h1, h2, S, h4⟩ := hk
  have hduty := duties_at hD ho'
  rw [Nat.zero_add] at hduty
  have hst := hduty L F a w h1 h2 S (depF_of fun e he hb => h4 _ (hdeps e (by simpa using he) hb))
  have hst2 := stepM_put ho (fun a' w' ⟨v, F', _, S', _⟩ => S'.fr.df.trans S.fr.df.symm) hst
  refine wpOp_stepM hst2 fun a' w' ⟨⟨u, hu⟩, v, F', hF', S', hp⟩ => ih _ a' w' (by simpa using hsz) (by have := count_set hun; omega) ?_
  have hdn : dl.getD i 0 < n.sz := by
   have h9 := S'.fr.get (dl.getD i 0) v (by simp [look_cons])
   have := (Array.getElem?_eq_some_iff.1 h9).1
   rw [S'.fr.size] at this; exact this
  have huv : u = v := by
   have h9 := S'.fr.get (dl.getD i 0) v (by simp [look_cons])
   have hda : dl.getD i 0 < a.tmps.size := by rw [S.fr.size]; exact hdn
   rw [hu, hdo] at h9
   simp only [Act.put, Array.getElem?_setIfInBounds, if_true, hda] at h9
   exact Option.some.inj h9
  subst huv
  have hi2 : i < dl.length := by rw [← hlen]; exact (List.getElem?_eq_some_iff.1 ho').1
  have hdi : dl.getD i 0 ∈ dl := by rw [List.getD_eq_getElem?_getD, List.getElem?_eq_getElem hi2]; exact List.getElem_mem _
  refine ⟨(dl.getD i 0, u) :: L, F', fun b o h => hF' _ _ (h1 _ _ h), fun t v ht => ?_, ⟨by rw [hu, hdo]; exact S.fr.put u (by rw [Nat.blt_eq]; exact hdn), S'.tr⟩, fun j hj => ?_⟩
  ·rw [look_cons, if_neg]
   ·exact h2 t v ht
   ·intro e
    have := List.all_eq_true.1 hL0 _ (look_mem ht)
    rw [Bool.not_eq_true', ← e, List.contains_eq_mem, decide_eq_false_iff_not] at this
    exact this hdi
  ·by_cases hji : j = i
   ·subst hji; exact ⟨u, by rw [look_cons, if_pos rfl], hp⟩
   ·have hj' : listed.getD j false = true := by rw [getD_set_ne' (Ne.symm hji)] at hj; exact hj
    obtain ⟨v2, e2, hp2⟩ := h4 j hj'
    have hj2 : j < dl.length := by
     rw [← hlen, ← hsz]
     rw [Array.getD_eq_getD_getElem?] at hj'
     cases hx : listed[j]? with
     | none => rw [hx] at hj'; cases hj'
     | some b => exact (Array.getElem?_eq_some_iff.1 hx).1
    refine ⟨v2, ?_, (pl.getD j default).mono _ _ _ hF' hp2⟩
    rw [look_cons, if_neg]
    ·exact e2
    ·intro e
     rw [List.getD_eq_getElem?_getD, List.getD_eq_getElem?_getD, List.getElem?_eq_getElem hi2, List.getElem?_eq_getElem hj2, Option.getD_some, Option.getD_some] at e
     have h8 := List.pairwise_iff_getElem.1 hnd
     rcases Nat.lt_or_gt_of_ne hji with h7 | h7
     ·exact h8 j i hj2 hi2 h7 e.symm
     ·exact h8 i j hi2 hj2 h7 e
theorem wpc_facts {id : Nat} {l : List Oper} {L0 : List (Nat × Value)} (dl : List Nat) (pl : List PM) (S : St n L0 w0 F0 K0 F1 [] a w) (hm : P.follows .mixedOrders = true) (hB : factsB L0 dl l = true)
  (hD : Duties P l.toArray n w0 F0 K0 L0 F1 dl pl 0 l)
  (hend : ∀ L F a w, (∀ b o, F1 b = some o → F b = some o) → (∀ t v, look L0 t = some v → look L t = some v) → St n L w0 F0 K0 F [] a w → (∀ i, i < l.length → FactAt dl pl L F i) → Q .normal a w) : (Code.region id l.toArray true).wp P Q a w := by
 refine wp_mono (Q := Qn Q) (wp_region_any hm (wpAny_facts hB hD hend _ _ _ _ (by simp) ?_ ⟨L0, F1, fun _ _ h => h, fun _ _ h => h, ⟨S.fr, S.tr.drew⟩, fun i hi => ?_⟩)) fun e a w h => ?_
 ·rw [List.size_toArray, Array.toList_replicate, List.count_replicate_self]
 ·rw [getD_replicate_false] at hi; cases hi
 ·cases e <;> first | exact h | exact h.elim
end
end Go.Wk
namespace Go.Proofs.YthnafdbebniapaaGreatDoor
open Go Go.Wk Go.Un Go.De Go.Cv
set_option linter.unusedSimpArgs false
set_option linter.unusedVariables false
attribute [local irreducible] Go.wpList Go.Code.wp Go.wpStill Go.Wk.wpPre Go.bodyPost Go.Calls Go.Wk.Ct Go.Wk.OwnS Go.Wk.wpG Go.Wk.wpM
def pRec {α : Type} (n : Nat) (R : Heap → α → List Value → Prop) [hR : Mon R] (x : α) : PM := ⟨fun v F => ∃ cs, v = .agg ⟨cs⟩ ∧ cs.length = n ∧ R F x cs, fun v F F' h ⟨cs, e, hn, hr⟩ => ⟨cs, e, hn, hR.h h hr⟩⟩
def pLim {α : Type} (sz : Nat) (R : Heap → α → List Value → Prop) [hR : Mon R] (l : List α) : PM := ⟨fun v F => LiM F sz R v l, fun v F F' h hv => hv.mono h⟩
def pTrs {α : Type} (sz : Nat) (R : Heap → α → List Value → Prop) [hR : Mon R] (l : Rose α) : PM := ⟨fun v F => TrS F sz R v l, fun v F F' h hv => hv.mono h⟩
section
variable {P : Program} {ops : Array Oper} {n : Sz} {w0 : World} {F0 F1 : Heap} {K0 : List Nat} {L0 : List (Nat × Value)} {dl : List Nat} {pl : List PM} {i : Nat} {o : Oper} {d sz by_ : Nat} {z : Value}
theorem look_top {L : List (Nat × Value)} {v : Value} : Wk.look ((d, v) :: L) d = some v := by unfold Wk.look; simp
theorem dy_load {t b : Nat} {ty : TypeId} {cs : List Value} {α : Type} {R : Heap → α → List Value → Prop} [hM : Mon R] {x : α} [Ag P ty] [Inf P ty z sz by_] (hc : Cels F1 b 0 cs) (hR : R F1 x cs) (hi : ops[i]? = some o := by rfl) (hg : o.guard = none := by rfl) (hd : o.dst = some d := by rfl) (hn : Nat.blt d n.sz = true := by rfl)
  (ho : o.op = .load ty (.tmp t) := by rfl) (hl : Wk.look L0 t = some (ptr b) := by rfl) (hd2 : dl.getD i 0 = d := by rfl) (hp : pl.getD i default = pRec sz R x := by rfl) (hs : cs.length = sz := by rfl) : Duty P ops n w0 F0 K0 L0 F1 dl pl i o := by
 intro L F a w hF hL S _
 refine stepM_of hi ?_
 refine wpl_v S hg hd hn (sv_loadAF S ho (hL t _ hl) (Cels.mono hF hc) hs) fun a' S3 => ?_
 refine wpList_nil ⟨.agg ⟨cs⟩, F, fun _ _ h => h, S3.keep ?_, ?_⟩
 ·rw [hd2]; exact ⟨look_top, trivial⟩
 ·rw [hp]; exact ⟨cs, rfl, hs, hM.h hF hR⟩
theorem depF_at {L : List (Nat × Value)} {F : Heap} {j : Nat} : ∀ {es : List Edge}, DepF dl pl L F es → (es.any fun e => Nat.beq e.on j && Region.binds .any e) = true → FactAt dl pl L F j
 | [], _, h => by cases h
 | e :: r, hd, h => by
  rw [List.any_cons, Bool.or_eq_true, Bool.and_eq_true] at h
  rcases h with ⟨h1, h2⟩ | h
  ·have := hd.1 h2
   rwa [Nat.eq_of_beq_eq_true h1] at this
  ·exact depF_at hd.2 h
theorem dy_sl1 {ty e : TypeId} {parts : Array (Nat × Operand)} {α : Type} {R : Heap → α → List Value → Prop} [hM : Mon R] {x1 : α × Rose α} [Und P ty (.slice e)] [Inf P e z sz by_] (j1 : Nat) (hi : ops[i]? = some o := by rfl) (hg : o.guard = none := by rfl) (hd : o.dst = some d := by rfl) (hn : Nat.blt d n.sz = true := by rfl)
  (ho : o.op = .buildSlice ty 1 parts := by rfl) (hq : unidx 0 parts.toList = some [.tmp (dl.getD j1 0)] := by rfl) (h1 : (o.after.toList.any fun e => Nat.beq e.on j1 && Region.binds .any e) = true := by rfl) (f1 : pl.getD j1 default = pRec sz (RoR sz R) x1 := by rfl) (hz : z.cells.toList.length = sz := by rfl) (hb : Nat.ble (1 * sz) 16777216 = true := by rfl) (hsz : Nat.blt 0 sz = true := by rfl) (hd2 : dl.getD i 0 = d := by rfl) (hp : pl.getD i default = pTrs sz R (.cons x1.1 x1.2 .nil) := by rfl) : Duty P ops n w0 F0 K0 L0 F1 dl pl i o := by
 intro L F a w hF hL S hdep
 refine stepM_of hi ?_
 obtain ⟨v1, e1, p1⟩ := depF_at hdep h1
 rw [f1] at p1
 obtain ⟨c1, rfl, hn1, hR1⟩ := p1
 refine wpl_buildSlice S hg hd hn ho hq (vs := [.agg ⟨c1⟩]) (by simp only [evs, ev, e1]) hz (by simp only [List.mem_cons, List.not_mem_nil, or_false, forall_eq_or_imp, forall_eq, Value.cells]; exact hn1) rfl hb hsz fun b a' w' hown S => ?_
 simp only [Value.cells, List.flatMap_cons, List.flatMap_nil, List.append_nil] at S
 obtain ⟨F', hle, hbl, S⟩ := frz1 S
 refine wpList_nil ⟨.slice (some ⟨b, 0, none⟩) 1 1, F', hle, S.keep ⟨by rw [hd2]; exact look_top, trivial⟩, ?_⟩
 rw [hp]
 exact trs_lim (lim_of (l := ([x1] : List (α × Rose α))) hbl (LiC.one hn1 (Mon.h hle hR1)) (show 1 ≤ _ by decide))
theorem dy_sl2 {ty e : TypeId} {parts : Array (Nat × Operand)} {α : Type} {R : Heap → α → List Value → Prop} [hM : Mon R] {x1 x2 : α × Rose α} [Und P ty (.slice e)] [Inf P e z sz by_] (j1 j2 : Nat) (hi : ops[i]? = some o := by rfl) (hg : o.guard = none := by rfl) (hd : o.dst = some d := by rfl) (hn : Nat.blt d n.sz = true := by rfl)
  (ho : o.op = .buildSlice ty 2 parts := by rfl) (hq : unidx 0 parts.toList = some [.tmp (dl.getD j1 0), .tmp (dl.getD j2 0)] := by rfl) (h1 : (o.after.toList.any fun e => Nat.beq e.on j1 && Region.binds .any e) = true := by rfl) (h2 : (o.after.toList.any fun e => Nat.beq e.on j2 && Region.binds .any e) = true := by rfl) (f1 : pl.getD j1 default = pRec sz (RoR sz R) x1 := by rfl) (f2 : pl.getD j2 default = pRec sz (RoR sz R) x2 := by rfl) (hz : z.cells.toList.length = sz := by rfl) (hb : Nat.ble (2 * sz) 16777216 = true := by rfl) (hsz : Nat.blt 0 sz = true := by rfl) (hd2 : dl.getD i 0 = d := by rfl) (hp : pl.getD i default = pTrs sz R (.cons x1.1 x1.2 (.cons x2.1 x2.2 .nil)) := by rfl) : Duty P ops n w0 F0 K0 L0 F1 dl pl i o := by
 intro L F a w hF hL S hdep
 refine stepM_of hi ?_
 obtain ⟨v1, e1, p1⟩ := depF_at hdep h1
 rw [f1] at p1
 obtain ⟨c1, rfl, hn1, hR1⟩ := p1
 obtain ⟨v2, e2, p2⟩ := depF_at hdep h2
 rw [f2] at p2
 obtain ⟨c2, rfl, hn2, hR2⟩ := p2
 refine wpl_buildSlice S hg hd hn ho hq (vs := [.agg ⟨c1⟩, .agg ⟨c2⟩]) (by simp only [evs, ev, e1, e2]) hz (by simp only [List.mem_cons, List.not_mem_nil, or_false, forall_eq_or_imp, forall_eq, Value.cells]; exact ⟨hn1, hn2⟩) rfl hb hsz fun b a' w' hown S => ?_
 simp only [Value.cells, List.flatMap_cons, List.flatMap_nil, List.append_nil] at S
 obtain ⟨F', hle, hbl, S⟩ := frz1 S
 refine wpList_nil ⟨.slice (some ⟨b, 0, none⟩) 2 2, F', hle, S.keep ⟨by rw [hd2]; exact look_top, trivial⟩, ?_⟩
 rw [hp]
 exact trs_lim (lim_of (l := ([x1, x2] : List (α × Rose α))) hbl (LiC.app (l := [x1]) (LiC.one hn1 (Mon.h hle hR1)) (LiC.one hn2 (Mon.h hle hR2))) (show 2 ≤ _ by decide))
end
abbrev cLn (n : Int) : List Value := [.int .u8 1, .int .i64 0, .int .i64 0, .string (bs []), .int .u8 2, .int .i64 n, .string (bs []), .slice none 0 0, .slice none 0 0]
abbrev cVn (s : List UInt8) : List Value := [.int .u8 2, .int .i64 0, .int .i64 0, .string (bs s), .int .u8 0, .int .i64 0, .string (bs []), .slice none 0 0, .slice none 0 0]
abbrev cMn (s : List UInt8) (v : Value) : List Value := [.int .u8 5, .int .i64 0, .int .i64 0, .string (bs s), .int .u8 0, .int .i64 0, .string (bs []), .slice none 0 0, v]
theorem numCt (F : Heap) (n : Int) : Ct Tryz.prog 23 [.int .i64 n] F [] (fun _ _ u => u = .agg ⟨cLn n⟩) := by
 refine Ct.enter Tryz.func23 rfl Tryz.ntmps23 rfl fun w0 a S => ?_
 refine wp_sr fun Z hZ => ?_
 (refine wpl_alloc S rfl rfl rfl rfl ?_; clear S a; intro b2 a w S)
 (revert S a; revert hZ Z; refine go 6 ?_; intro Z hZ a S)
 (refine wso S rfl rfl ?_; clear S; intro w S)
 (revert S a; revert hZ Z; refine go 2 ?_; intro a S)
 refine wp_ret (fin_ret S (results1 Tryz.results23 (RV.cellO S rfl (by rfl))) ?_)
 rfl
theorem varCt (F : Heap) (s : List UInt8) : Ct Tryz.prog 24 [.string (bs s)] F [] (fun _ _ u => u = .agg ⟨cVn s⟩) := by
 refine Ct.enter Tryz.func24 rfl Tryz.ntmps24 rfl fun w0 a S => ?_
 refine wp_sr fun Z hZ => ?_
 (refine wpl_alloc S rfl rfl rfl rfl ?_; clear S a; intro b2 a w S)
 (revert S a; revert hZ Z; refine go 5 ?_; intro Z hZ a S)
 (refine wso S rfl rfl ?_; clear S; intro w S)
 (revert S a; revert hZ Z; refine go 2 ?_; intro a S)
 refine wp_ret (fin_ret S (results1 Tryz.results24 (RV.cellO S rfl (by rfl))) ?_)
 rfl
theorem makeCt (F : Heap) (s : List UInt8) (a : Option Addr) (l c : Nat) : Ct Tryz.prog 25 [.string (bs s), .slice a l c] F [] (fun _ _ u => u = .agg ⟨cMn s (.slice a l c)⟩) := by
 refine Ct.enter Tryz.func25 rfl Tryz.ntmps25 rfl fun w0 a S => ?_
 refine wp_sr fun Z hZ => ?_
 (refine wpl_alloc S rfl rfl rfl rfl ?_; clear S a; intro b4 a w S)
 (revert S a; revert hZ Z; refine go 6 ?_; intro Z hZ a S)
 (refine wso S rfl rfl ?_; clear S; intro w S)
 (revert S a; revert hZ Z; refine go 2 ?_; intro a S)
 refine wp_ret (fin_ret S (results1 Tryz.results25 (RV.cellO S rfl (by rfl))) ?_)
 rfl
def InR (_ : Heap) (n : Nat) (cs : List Value) : Prop := cs = [.int .i64 (n : Int)]
instance : Mon InR := ⟨fun _ h => h⟩
theorem lic_ints {F : Heap} : ∀ l : List Nat, LiC F 1 InR (ints l) l
 | [] => rfl
 | x :: l => ⟨[.int .i64 (x : Int)], ints l, rfl, rfl, rfl, lic_ints l⟩
theorem sameICt (F : Heap) (l : List Nat) (v1 v2 : Value) (h1 : LiM F 1 InR v1 l) (h2 : LiM F 1 InR v2 l) : Ct Tryz.prog 30 [v1, v2] F [] (fun _ _ u => u = .bool true) := by
 obtain ⟨a1, c1, rfl, hc1, h1p⟩ := id h1
 obtain ⟨a2, c2, rfl, hc2, h2p⟩ := id h2
 refine Ct.enter Tryz.func30 rfl Tryz.ntmps30 rfl fun w0 a S => ?_
 (revert S a; refine go 13 ?_; intro Z hZ a S)
 refine wpc_sp S rfl ?_ ?_ <;> intro h
 ·(revert S a; refine go 4 ?_; intro a S)
  refine wp_ret (fr1 S Tryz.results30 ?_)
  (first | rfl | exact absurd trivial h | (exfalso; omega) | trace_state)
 (revert S a; revert hZ Z; refine go 8 ?_; intro Z hZ a S)
 refine wpc_loop (fun m a w' => ∃ (i : Nat), m = l.length - i ∧ i ≤ l.length ∧ St 26 [(0, .slice a1 l.length c1), (1, .slice a2 l.length c2), (5, .int .i64 i)] w0 F [] F [] a w') ?_ ?_
 ·(refine ⟨l.length, 0, by omega, Nat.zero_le _, ?_⟩; refine S.keep ?_; exact zk)
 (clear S; rintro m a w ⟨i, rfl, hil, S⟩)
 (revert S a; refine go 8 ?_; intro Z hZ a S)
 refine wpc_sp S rfl ?_ ?_ <;> intro h
 ·(revert S a; revert hZ Z; refine go 4 ?_; intro Z hZ a S)
  (refine wp_seq_k ?_; intro Z hZ)
  (obtain ⟨b1, o1, hao, x, cs1, hx, hcr, hxe⟩ := LiM.pos h1p (k := i) (by omega); obtain ⟨b2, o2, hao2, y, cs2, hy, hdr, hye⟩ := LiM.pos h2p (k := i) (by omega); rw [hao, hao2] at S; rw [hx] at hy; cases hy; unfold InR at hxe hye; subst hxe; subst hye; replace hcr : Cel F b1 (o1 + i * 1) _ := hcr 0 _ rfl; replace hdr : Cel F b2 (o2 + i * 1) _ := hdr 0 _ rfl)
  (refine wpc_mixM [0, 1, 2, 3, 4, 5, 6, 7, 8] [3, 7] [] (.one 0 (.one 1 (.one 2 (.one 3 (.one 4 (.one 5 (.one 6 (.one 7 (.one 8 .nil))))))))) [] S mixed (by kernel_rfl) ?_; clear S; intro w S)
  (revert S a; revert hZ Z; refine go 11 ?_; intro a S)
  refine wpc_sp S rfl ?_ ?_ <;> intro h
  ·(revert S a; refine go 4 ?_; intro a S)
   refine wp_ret (fr1 S Tryz.results30 ?_)
   (first | rfl | exact absurd trivial h | (exfalso; omega) | trace_state)
  (revert S a; revert hZ Z; refine go 7 ?_; intro a S)
  change ∃ m', _ ∧ _
  (rw [← hao, ← hao2] at S; refine ⟨l.length - (i + 1), by omega, i + 1, rfl, by omega, ?_⟩; refine S.keep ?_; exact zk)
 (refine wp_exit ?_; conv => whnf)
 clear hZ Z
 (revert S a; revert hZ Z; refine go 5 ?_; intro a S)
 refine wp_ret (fr1 S Tryz.results30 ?_)
 (first | rfl | exact absurd trivial h | (exfalso; omega) | trace_state)
theorem checkNilCt (F : Heap) : Ct Tryz.prog 53 [.pointer none, .slice none 0 0, .slice none 0 0] F [] (fun _ _ u => u = .int .i64 2) := by
 refine Ct.enter Tryz.func53 rfl Tryz.ntmps53 rfl fun w0 a S => ?_
 refine wp_sr fun Z hZ => ?_
 (refine wbx S ?_; clear S a; intro b3 a w S)
 (revert S a; revert hZ Z; refine go 6 ?_; intro Z hZ Z hZ a S)
 (refine wv S (sv_lit (c := true) (sv_eqPtrNil S rfl rfl rfl) (by rfl)) ?_; clear S a; intro a S)
 (revert S a; revert hZ Z; refine go 2 ?_; intro a S)
 refine wpc_true S rfl ?_
 (revert S a; refine go 4 ?_; intro a S)
 refine wp_ret (fr1 S Tryz.results53 ?_)
 rfl
theorem coversNilCt (F : Heap) : Ct Tryz.prog 28 [.pointer none, .slice none 0 0, .slice none 0 0] F [] (fun _ _ u => u = .tuple ⟨[.bool false, .int .i64 2]⟩) := by
 have hc := checkNilCt F
 refine Ct.enter Tryz.func28 rfl Tryz.ntmps28 rfl fun w0 a S => ?_
 (revert S a; refine go 10 ?_; intro Z hZ Z hZ a S)
 (refine wc0 S hc ?_; clear S a; intro v14 a w hv S; subst hv)
 (revert S a; revert hZ Z; refine go 5 ?_; intro Z hZ a S)
 (refine wv S (sv_lit (c := true) (sv_pure S rfl) (by rfl)) ?_; clear S a; intro a S)
 (revert S a; revert hZ Z; refine go 2 ?_; intro a S)
 refine wpc_true S rfl ?_
 (revert S a; refine go 6 ?_; intro a S)
 refine wp_ret (fr2 S Tryz.results28 ?_)
 rfl
end Go.Proofs.YthnafdbebniapaaGreatDoor
