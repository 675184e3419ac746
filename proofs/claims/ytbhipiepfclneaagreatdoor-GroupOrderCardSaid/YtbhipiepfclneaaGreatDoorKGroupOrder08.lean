/- Walks. -/
import Derived.Test.YtbhipiepfclneaaGreatDoorKGroupOrder07
import Derived.Test.YtbhipiepfclneaaGreatDoorQ29
import Derived.Test.YtbhipiepfclneaaGreatDoorQ28
import Derived.Test.YtbhipiepfclneaaGreatDoorKGroupOrder02
import Derived.Test.YtbhipiepfclneaaGreatDoorQ14
import Derived.Test.YtbhipiepfclneaaGreatDoorQ09
import Derived.Test.YtbhipiepfclneaaGreatDoorKGroupOrderTy
import Derived.Test.YtbhipiepfclneaaGreatDoorQ12
import Derived.Test.YtbhipiepfclneaaGreatDoorKGroupOrder01
import Derived.Test.YtbhipiepfclneaaGreatDoorQ06
import Derived.Test.YtbhipiepfclneaaGreatDoorQ05
set_option maxHeartbeats 4000000
namespace Go.Proofs.YtbhipiepfclneaaGreatDoor
open Go Go.Wk Go.Un Go.De Go.Num
set_option linter.unusedSimpArgs false
set_option linter.unusedVariables false
attribute [local irreducible] Go.wpList Go.Code.wp Go.wpStill Go.Wk.wpPre Go.bodyPost Go.Calls Go.Wk.Ct Go.Wk.OwnS Go.Wk.wpG Go.Wk.wpM
def lwL : Vf → Nat
 | .nil => 0
 | .cons h L r => 1 + h.s.length / 50 + lwL L + lwL r
def lwV (h : VH) (L : Vf) : Nat := 1 + h.s.length / 50 + lwL L
theorem zzJb0 {p : Prop} (h : p := by (rw [← hao] at S; refine ⟨L.len - (k + 1), by omega, k + 1, p + p9, s + lwV x.1 x.2, rfl, by omega, by omega, by omega, by omega, ?_⟩; refine S.keep ?_; exact zk)) : p := h
theorem zzJb1 {p : Prop} (h : p := by (first | (have hz : lwL (L.drop k) = 0 := (by rw [Rose.drop_len (by omega)]; rfl); exact ⟨p, rfl, by omega, hpb⟩) | (exact ⟨p, rfl, by omega, hpb⟩))) : p := h
theorem lweightCt (F : Heap) : ∀ (n : Nat) (h : VH) (L : Vf) (v : Value) (most : Nat), L.size ≤ n → most ≤ 1000000 → h.s.length ≤ 140737488355328 → TrS F 4 VhR v L → Ct Tryz.prog 47 [.agg ⟨[.int .u8 (h.k : Int), .int .i64 h.n, .string (bs h.s), v]⟩, .int .i64 (most : Int)] F [] (fun _ _ u => ∃ p : Nat, u = .int .i64 (p : Int) ∧ (p < most → p = lwV h L) ∧ p ≤ most + 4398046511104) := by
 intro n
 induction n using Nat.strongRecOn with
 | _ n ih =>
 intro h L v most hn hmost hlen hT
 obtain ⟨ao, cap, rfl, hcap, hpos⟩ := hT
 have hq : h.s.length / 50 ≤ 2814749767107 := by omega
 refine Ct.enter Tryz.func47 rfl Tryz.ntmps47 rfl fun w0 a S => ?_
 refine wp_sr fun Z hZ => ?_
 (refine wbx S ?_; clear S a; intro b2 a w S)
 (revert S a; revert hZ Z; refine go 7 ?_; intro Z hZ a S)
 (refine wv S (sv_quo S rfl rfl rfl (by first | omega | (simp only [List.length_append, List.length_cons, List.length_nil]; omega))) ?_; clear S a; intro a S)
 (revert S a; refine go 1 ?_; intro a S)
 (rw [show ((1 : Int) + (h.s.length : Int) / 50) = ((1 + h.s.length / 50 : Nat) : Int) by omega] at S)
 (revert S a; revert hZ Z; refine go 9 ?_; intro Z hZ a S)
 refine wpc_loop (fun m a w' => ∃ (k p s : Nat), m = L.len - k ∧ k ≤ L.len ∧ s + lwL (L.drop k) = lwV h L ∧ (p < most → p = s) ∧ p ≤ most + 4398046511104 ∧ St 36 [(1, .int .i64 (most : Int)), (2, ptr b2), (5, .int .i64 (p : Int)), (6, .int .i64 k)] w0 F [] F [[(b2, .cells ⟨[.int .u8 (h.k : Int), .int .i64 h.n, .string (bs h.s), .slice ao L.len cap]⟩ 45 (0, 0))]] a w') ?_ ?_
 ·(refine ⟨L.len, 0, 1 + h.s.length / 50, 1 + h.s.length / 50, by omega, Nat.zero_le _, rfl, fun _ => rfl, by omega, ?_⟩; refine S.keep ?_; exact zk)
 (clear S; rintro m a w ⟨k, p, s, rfl, hkl, hs, hp, hpb, S⟩)
 (revert S a; refine go 8 ?_; intro Z hZ Z hZ a S)
 refine wgd S ?_ ?_
 ·(clear S; intro h S)
  (revert S a; revert hZ Z; refine go 8 ?_; intro a S)
  refine wpc_sp S rfl ?_ ?_ <;> intro h
  ·(revert S a; revert hZ Z; refine go 4 ?_; intro Z hZ a S)
   (obtain ⟨b8, o8, hao, x, cs1, v1, hx, hc1, ⟨rfl, hsl⟩, hT1⟩ := TrM.pos hpos (k := k) (by omega); rw [hao] at S; have hxs := Rose.size_get hx; have hdz : lwL (L.drop k) = lwV x.1 x.2 + lwL (L.drop (k + 1)) := (by rw [Rose.drop_get hx]; rfl))
   (revert S a; refine go 6 ?_; intro a S)
   (refine wv S (sv_loadAF S rfl rfl hc1 (by rfl)) ?_; clear S a; intro a S)
   (revert S a; refine go 3 ?_; intro a S)
   (rw [show ((most : Int) - (p : Int)) = ((most - p : Nat) : Int) by omega] at S)
   (refine wc0 S (ih x.2.size (by omega) x.1 x.2 _ (most - p) (Nat.le_refl _) (by omega) hsl hT1) ?_; clear S a; intro v a w hv S; obtain ⟨p9, rfl, hp9, hp9b⟩ := hv)
   (revert S a; revert hZ Z; refine go 9 ?_; intro a S)
   change ∃ m', _ ∧ _
   exact zzJb0
  (refine wp_exit ?_; conv => whnf)
  clear hZ Z
  (revert S a; revert hZ Z; refine go 6 ?_; intro a S)
  refine wp_ret (fr1 S Tryz.results47 ?_)
  exact zzJb1
 (clear S a; intro h a S)
 (revert S a; revert hZ Z; refine go 5 ?_; intro a S)
 refine wpc_false S rfl ?_
 (refine wp_exit ?_; conv => whnf)
 clear hZ Z
 (revert S a; revert hZ Z; refine go 6 ?_; intro a S)
 refine wp_ret (fr1 S Tryz.results47 ?_)
 exact zzJb1
theorem lwL_drop {l : Vf} {k : Nat} {x : VH × Vf} (h : l.get? k = some x) : lwL (l.drop k) = lwV x.1 x.2 + lwL (l.drop (k + 1)) := by rw [Rose.drop_get h]; rfl
theorem lw_b : ∀ l : Vf, wtB l ≤ 236 * lwL l ∧ l.len ≤ lwL l
 | .nil => ⟨Nat.le_refl _, Nat.le_refl _⟩
 | .cons h L r => by
  have h1 := lw_b L
  have h2 := lw_b r
  refine ⟨?_, ?_⟩
  ·show (wtH h + wtB L) + wtB r ≤ 236 * (1 + h.s.length / 50 + lwL L + lwL r)
   unfold wtH
   omega
  ·show r.len + 1 ≤ 1 + h.s.length / 50 + lwL L + lwL r
   omega
theorem lw_th : ∀ l : Vf, lwL l ≤ 1000000 → ThV l
 | .nil, _ => trivial
 | .cons h L r, hl => by
  have h0 : lwL (.cons h L r) = 1 + h.s.length / 50 + lwL L + lwL r := rfl
  have h1 := (lw_b L).2
  exact ⟨by omega, lw_th L (by omega), lw_th r (by omega)⟩
theorem lw_row {l : Vf} (h : lwL l ≤ 1000) (hr : RgF l) : RowB l := by
 have h1 := lw_b l
 exact ⟨hr, by omega, lw_th l (by omega), by omega⟩
def OpG (x : OpD) : Prop := RgF x.key ∧ RgF x.way ∧ RgF x.args
def OpB (x : OpD) : Prop := RowB x.key ∧ RowB x.way ∧ RowB x.args
def lwO (x : OpD) : Nat := 2 + lwL x.key + lwL x.way + lwL x.args
def lwS (l : List OpD) : Nat := (l.map lwO).sum
theorem lwS_drop {l : List OpD} {k : Nat} {x : OpD} (h : l[k]? = some x) : lwS (l.drop k) = lwO x + lwS (l.drop (k + 1)) := by
 obtain ⟨h1, rfl⟩ := List.getElem?_eq_some_iff.1 h
 unfold lwS
 rw [List.drop_eq_getElem_cons h1, List.map_cons, List.sum_cons]
theorem lwS_small : ∀ {l : List OpD}, lwS l ≤ 1000 → (∀ x ∈ l, OpG x) → l.length ≤ 500 ∧ ∀ x ∈ l, OpB x
 | [], _, _ => ⟨Nat.zero_le _, fun x h => by cases h⟩
 | x :: r, h, hg => by
  have h0 : lwS (x :: r) = 2 + lwL x.key + lwL x.way + lwL x.args + lwS r := rfl
  have hr := lwS_small (l := r) (by omega) fun y hy => hg y (List.mem_cons_of_mem _ hy)
  have h9 : ∀ l : List OpD, 2 * l.length ≤ lwS l := by
   intro l
   induction l with
   | nil => exact Nat.le_refl _
   | cons y q ih => have : lwS (y :: q) = 2 + lwL y.key + lwL y.way + lwL y.args + lwS q := rfl; rw [List.length_cons]; omega
  have h8 := h9 (x :: r)
  refine ⟨by omega, fun y hy => ?_⟩
  rcases List.mem_cons.1 hy with rfl | hy
  ·obtain ⟨g1, g2, g3⟩ := hg y (List.mem_cons_self ..)
   exact ⟨lw_row (by omega) g1, lw_row (by omega) g2, lw_row (by omega) g3⟩
  ·exact hr.2 y hy
theorem lrowCt (F : Heap) (L : Vf) (v : Value) (hT : TrS F 4 VhR v L) : Ct Tryz.prog 29 [v] F [] (fun _ _ u => ∃ p : Nat, u = .int .i64 (p : Int) ∧ (p < 800 → p = lwL L) ∧ p ≤ 4398046520000) := by
 obtain ⟨ao, cap, rfl, hcap, hpos⟩ := hT
 refine Ct.enter Tryz.func29 rfl Tryz.ntmps29 rfl fun w0 a S => ?_
 (revert S a; refine go 14 ?_; intro Z hZ a S)
 refine wpc_loop (fun m a w' => ∃ (k p s : Nat), m = L.len - k ∧ k ≤ L.len ∧ s + lwL (L.drop k) = lwL L ∧ (p < 800 → p = s) ∧ p ≤ 4398046520000 ∧ St 23 [(0, .slice ao L.len cap), (3, .int .i64 (p : Int)), (4, .int .i64 k)] w0 F [] F [] a w') ?_ ?_
 ·(refine ⟨L.len, 0, 0, 0, by omega, Nat.zero_le _, Nat.zero_add _, fun _ => rfl, by omega, ?_⟩; refine S.keep ?_; exact zk)
 (clear S; rintro m a w ⟨k, p, s, rfl, hkl, hs, hp, hpb, S⟩)
 (revert S a; refine go 7 ?_; intro Z hZ Z hZ a S)
 refine wgd S ?_ ?_
 ·(clear S; intro h S)
  (revert S a; revert hZ Z; refine go 6 ?_; intro a S)
  refine wpc_sp S rfl ?_ ?_ <;> intro h
  ·(revert S a; revert hZ Z; refine go 4 ?_; intro Z hZ a S)
   (obtain ⟨b8, o8, hao, x, cs1, v1, hx, hc1, ⟨rfl, hsl⟩, hT1⟩ := TrM.pos hpos (k := k) (by omega); rw [hao] at S; have hdz := lwL_drop hx)
   (revert S a; refine go 5 ?_; intro a S)
   (refine wv S (sv_loadAF S rfl rfl hc1 (by rfl)) ?_; clear S a; intro a S)
   (refine wc0 S (lweightCt F x.2.size x.1 x.2 _ 800 (Nat.le_refl _) (by decide) hsl hT1) ?_; clear S a; intro v a w hv S; obtain ⟨p9, rfl, hp9, hp9b⟩ := hv)
   (revert S a; revert hZ Z; refine go 9 ?_; intro a S)
   change ∃ m', _ ∧ _
   exact zzJb0
  (refine wp_exit ?_; conv => whnf)
  clear hZ Z
  (revert S a; revert hZ Z; refine go 6 ?_; intro a S)
  refine wp_ret (fr1 S Tryz.results29 ?_)
  exact zzJb1
 (clear S a; intro h a S)
 (revert S a; revert hZ Z; refine go 4 ?_; intro a S)
 refine wpc_false S rfl ?_
 (refine wp_exit ?_; conv => whnf)
 clear hZ Z
 (revert S a; revert hZ Z; refine go 6 ?_; intro a S)
 refine wp_ret (fr1 S Tryz.results29 ?_)
 exact zzJb1
theorem zzJb2 {p : Prop} (h : p := by (first | (have hz : lwS (l.drop k) = 0 := (by rw [List.drop_of_length_le (by omega)]; rfl); exact ⟨_, rfl, fun hb => by have := of_decide_eq_false hb; omega⟩) | (exact ⟨_, rfl, fun hb => by have := of_decide_eq_false hb; omega⟩))) : p := h
theorem largeCt (F : Heap) (l : List OpD) (v : Value) (h : LiM F 4 OpR v l) : Ct Tryz.prog 7 [v] F [] (fun _ _ u => ∃ b : Bool, u = .bool b ∧ (b = false → lwS l < 800)) := by
 obtain ⟨ao, cap, rfl, hcap, hpos⟩ := h
 refine Ct.enter Tryz.func7 rfl Tryz.ntmps7 rfl fun w0 a S => ?_
 (revert S a; refine go 14 ?_; intro Z hZ a S)
 refine wpc_loop (fun m a w' => ∃ (k p s : Nat), m = l.length - k ∧ k ≤ l.length ∧ s + lwS (l.drop k) = lwS l ∧ (p < 800 → p = s) ∧ p ≤ 14398046520000 ∧ St 40 [(0, .slice ao l.length cap), (3, .int .i64 (p : Int)), (4, .int .i64 k)] w0 F [] F [] a w') ?_ ?_
 ·(refine ⟨l.length, 0, 0, 0, by omega, Nat.zero_le _, Nat.zero_add _, fun _ => rfl, by omega, ?_⟩; refine S.keep ?_; exact zk)
 (clear S; rintro m a w ⟨k, p, s, rfl, hkl, hs, hp, hpb, S⟩)
 (revert S a; refine go 7 ?_; intro Z hZ Z hZ a S)
 refine wgd S ?_ ?_
 ·(clear S; intro h S)
  (revert S a; revert hZ Z; refine go 6 ?_; intro a S)
  refine wpc_sp S rfl ?_ ?_ <;> intro h
  ·(revert S a; revert hZ Z; refine go 4 ?_; intro Z hZ a S)
   (obtain ⟨b8, o8, hao, x, cs1, hx, hcc, v1, v2, v3, rfl, hT1, hT2, hT3⟩ := LiM.pos hpos (k := k) (by omega); rw [hao] at S; have hc1 : Cel F b8 (o8 + k * 4 + 1) v1 := hcc 1 _ rfl; have hc2 : Cel F b8 (o8 + k * 4 + 2) v2 := hcc 2 _ rfl; have hc3 : Cel F b8 (o8 + k * 4 + 3) v3 := hcc 3 _ rfl; have hdz := lwS_drop hx; have hlo : lwO x = 2 + lwL x.key + lwL x.way + lwL x.args := rfl)
   (refine wpc_mixM [0, 1, 2, 3, 4, 5, 6, 8, 9, 10, 11, 12, 13, 15, 16, 17, 18, 19, 20, 22] [6, 13, 20] [] (.one 0 (.one 1 (.one 2 (.one 3 (.one 4 (.one 5 (.one 6 (.one 9 (.one 10 (.one 11 (.one 12 (.one 13 (.one 16 (.one 17 (.one 18 (.one 19 (.one 20 (.one 7 (.one 8 (.one 14 (.one 15 (.one 21 (.one 22 (.one 23 .nil)))))))))))))))))))))))) [] S mixed (by kernel_rfl) ?_; clear S; intro w S)
   (revert S a; refine go 6 ?_; intro a S)
   (refine wlF S rfl (fun w' S => sv_loadF S rfl rfl hc1) ?_; clear S a; intro a S)
   (revert S a; refine go 4 ?_; intro a S)
   (refine wlF S rfl (fun w' S => sv_loadF S rfl rfl hc2) ?_; clear S a; intro a S)
   (revert S a; refine go 4 ?_; intro a S)
   (refine wlF S rfl (fun w' S => sv_loadF S rfl rfl hc3) ?_; clear S a; intro a S)
   refine wpm_eff rfl rfl (kwa S) ?_
   (refine wc0 S (lrowCt F x.key v1 hT1) ?_; clear S a; intro v a w hv S; obtain ⟨p1, rfl, hp1, hp1b⟩ := hv)
   (revert S a; refine go 3 ?_; intro a S)
   (refine wc0 S (lrowCt F x.way v2 hT2) ?_; clear S a; intro v a w hv S; obtain ⟨p2, rfl, hp2, hp2b⟩ := hv)
   (revert S a; refine go 3 ?_; intro a S)
   (refine wc0 S (lrowCt F x.args v3 hT3) ?_; clear S a; intro v a w hv S; obtain ⟨p3, rfl, hp3, hp3b⟩ := hv)
   (revert S a; revert hZ Z; refine go 12 ?_; intro a S)
   change ∃ m', _ ∧ _
   (rw [← hao] at S; refine ⟨l.length - (k + 1), by omega, k + 1, p + 2 + p1 + p2 + p3, s + lwO x, rfl, by omega, by omega, by omega, by omega, ?_⟩; refine S.keep ?_; exact zk)
  (refine wp_exit ?_; conv => whnf)
  clear hZ Z
  (revert S a; revert hZ Z; refine go 7 ?_; intro a S)
  refine wp_ret (fr1 S Tryz.results7 ?_)
  exact zzJb2
 (clear S a; intro h a S)
 (revert S a; revert hZ Z; refine go 4 ?_; intro a S)
 refine wpc_false S rfl ?_
 (refine wp_exit ?_; conv => whnf)
 clear hZ Z
 (revert S a; revert hZ Z; refine go 7 ?_; intro a S)
 refine wp_ret (fr1 S Tryz.results7 ?_)
 exact zzJb2
end Go.Proofs.YtbhipiepfclneaaGreatDoor
namespace Go.Wk
open Go
set_option linter.unusedSimpArgs false
set_option linter.unusedVariables false
section
variable {P : Program} {n : Sz} {L : List (Nat × Value)} {w0 : World} {F0 : Heap} {K0 : List Nat} {F : Heap} {G : List Grp} {a : Act} {w : World} {o : Oper}
theorem sv_remU {x y : Operand} {p q : Int} {t yt : TypeId} (S : St n L w0 F0 K0 F G a w) (ho : o.op = .binOp .rem t x y yt) (hx : ev L x = some (.int .u64 p)) (hy : ev L y = some (.int .u64 q))
  (hb : 0 ≤ p ∧ 1 ≤ q) : SV P o a w (.int .u64 (p % q)) :=
 run_intOp S ho hx hy (by simp [binOp, Op.intDiv, Int.tmod_eq_emod_of_nonneg hb.1, show q ≠ 0 by omega])
end
end Go.Wk
namespace Go.Proofs.YtbhipiepfclneaaGreatDoor
open Go Go.Wk Go.Un Go.De Go.Num
set_option linter.unusedSimpArgs false
set_option linter.unusedVariables false
theorem u64_pos (p : Int) : 0 ≤ IntKind.u64.wrap p := by
 simp only [IntKind.wrap, IntKind.signed, IntKind.bits]; first | omega | (simp; omega) | (apply Int.emod_nonneg; decide)
theorem u64_same {n : Nat} (h : n ≤ 1000000) : IntKind.u64.wrap (n : Int) = (n : Int) := by
 simp only [IntKind.wrap, IntKind.signed, IntKind.bits]; first | omega | (simp; omega)
theorem pick_lt {p : Int} {n : Nat} (hn : 0 < n) (hn2 : n ≤ 1000000) : ∃ k : Nat, IntKind.u64.wrap p % IntKind.u64.wrap (n : Int) = (k : Int) ∧ k < n := by
 rw [u64_same hn2]
 have h1 := Int.emod_nonneg (IntKind.u64.wrap p) (show (n : Int) ≠ 0 by omega)
 have h2 := Int.emod_lt_of_pos (IntKind.u64.wrap p) (show (0 : Int) < n by omega)
 exact ⟨(IntKind.u64.wrap p % (n : Int)).toNat, by omega, by omega⟩
section
variable {α : Type}
theorem take_midG {L : List α} {k : Nat} {p : α} (h : L[k]? = some p) : L.Perm (p :: (L.take k ++ L.drop (k + 1))) := by
 have hl := (List.getElem?_eq_some_iff.1 h).1
 have e : L = L.take k ++ p :: L.drop (k + 1) := by
  conv => lhs; rw [← List.take_append_drop k L]
  rw [List.drop_eq_getElem_cons hl, (List.getElem?_eq_some_iff.1 h).2]
 conv => lhs; rw [e]
 exact List.perm_middle
theorem take_mid_lenG {L : List α} {k : Nat} (h : k < L.length) : (L.take k ++ L.drop (k + 1)).length + 1 = L.length := by
 rw [List.length_append, List.length_take, List.length_drop]; omega
end
theorem pf2 {A B : Grp} : [A, B].flatten.Perm (B :: [A]).flatten := by
 simp only [List.flatten_cons, List.flatten_nil, List.append_nil]; exact List.perm_append_comm
theorem pf32 {A B C : Grp} : [A, B, C].flatten.Perm (B :: [A, C]).flatten := by
 simp only [List.flatten_cons, List.flatten_nil, List.append_nil]; rw [← List.append_assoc, ← List.append_assoc]; exact List.Perm.append_right _ List.perm_append_comm
theorem cels_l {F : Heap} {b o : Nat} {xs ys : List Value} (h : Cels F b o (xs ++ ys)) : Cels F b o xs := fun j v hj => h j v (by rw [List.getElem?_append_left (List.getElem?_eq_some_iff.1 hj).1]; exact hj)
theorem cels_r {F : Heap} {b o : Nat} {xs ys : List Value} (h : Cels F b o (xs ++ ys)) : Cels F b (o + xs.length) ys := fun j v hj => by
 have := h (xs.length + j) v (by rw [List.getElem?_append_right (by omega), show xs.length + j - xs.length = j by omega]; exact hj)
 rw [show o + xs.length + j = o + (xs.length + j) by omega]; exact this
theorem nogrp {n : Sz} {L : List (Nat × Value)} {w0 : World} {F0 : Heap} {K0 : List Nat} {F : Heap} {G : List Grp} {a : Act} {w : World} (S : St n L w0 F0 K0 F G a w) : St n L w0 F0 K0 F [] a w := ⟨S.fr, S.tr.sub (List.nil_sublist _)⟩
instance : De.OneC OpR := ⟨fun ⟨v1, v2, v3, h0, ⟨_, _, h1, _⟩, ⟨_, _, h2, _⟩, ⟨_, _, h3, _⟩⟩ => by
 subst h0; subst h1; subst h2; subst h3
 intro u hu
 simp at hu
 rcases hu with rfl | rfl | rfl | rfl <;> rfl⟩
def opT (x : OpD) : T3 := ((txtG x.key).getD [], (txtG x.way).getD [], x.args)
def TxO (l : List OpD) (x : OpD) : Prop := x ∈ l ∧ (txtG x.key).isSome = true ∧ (txtG x.way).isSome = true
theorem txo_of {aggs : List (List UInt8)} {A : GA} {l : List OpD} {x : OpD} (hx : x ∈ l) (h0 : addE aggs A x.key x.way x.args = 0) : TxO l x ∧ (tri (gAdd aggs A x.key x.way x.args)).Perm (opT x :: tri A) := by
 obtain ⟨k, w, q, hk, hw, -⟩ := addE_ok h0
 refine ⟨⟨hx, by rw [hk]; rfl, by rw [hw]; rfl⟩, ?_⟩
 unfold opT
 rw [hk, hw]
 exact tri_add h0 hk hw
theorem pick_add {aggs : List (List UInt8)} {A B : GA} {l T : List OpD} {k : Nat} {x : OpD} (hA : GInv aggs A) (hB : GInv aggs B) (hp : (tri B ++ T.map opT).Perm (tri A)) (hx : T[k]? = some x) (ht : TxO l x) : addE aggs B x.key x.way x.args = 0 := by
 obtain ⟨-, h1, h2⟩ := ht
 obtain ⟨k1, hk⟩ := Option.isSome_iff_exists.1 h1
 obtain ⟨w1, hw⟩ := Option.isSome_iff_exists.1 h2
 have e : opT x = (k1, w1, x.args) := by unfold opT; rw [hk, hw]; rfl
 refine add_any (rest := (T.take k ++ T.drop (k + 1)).map opT) hA hB hk hw ?_
 refine List.Perm.trans (List.Perm.append_left _ ?_) hp
 rw [← e, ← List.map_cons]
 exact ((take_midG hx).map opT).symm
theorem pick_del {aggs : List (List UInt8)} {B C : GA} {l : List OpD} {x : OpD} (hC : GInv aggs C) (ht : TxO l x) (hp : (tri C).Perm (opT x :: tri B)) : delE C x.key x.way = 0 ∧ (tri (gDel C x.key x.way)).Perm (tri B) := by
 obtain ⟨-, h1, h2⟩ := ht
 obtain ⟨k1, hk⟩ := Option.isSome_iff_exists.1 h1
 obtain ⟨w1, hw⟩ := Option.isSome_iff_exists.1 h2
 have e : opT x = (k1, w1, x.args) := by unfold opT; rw [hk, hw]; rfl
 rw [e] at hp
 exact del_any hC hk hw hp
theorem pick_step {A B C : GA} {T : List OpD} {k : Nat} {x : OpD} (hp : (tri B ++ T.map opT).Perm (tri A)) (hx : T[k]? = some x) (hC : (tri C).Perm (opT x :: tri B)) : (tri C ++ (T.take k ++ T.drop (k + 1)).map opT).Perm (tri A) := by
 refine List.Perm.trans ?_ hp
 refine List.Perm.trans (List.Perm.append_right _ hC) ?_
 refine List.Perm.trans ?_ (List.Perm.append_left _ ((take_midG hx).map opT).symm)
 rw [List.map_cons, List.cons_append]
 exact List.perm_middle.symm
theorem newG_ok {aggs : List (List UInt8)} (h : newG aggs = 0) : aggs.length ≤ 8 ∧ aggs.all knownS = true := by
 unfold newG at h
 split at h
 ·cases h
 ·split at h
  ·cases h
  ·rename_i h1 h2
   exact ⟨by omega, by simpa using h1⟩
end Go.Proofs.YtbhipiepfclneaaGreatDoor
