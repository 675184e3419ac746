/- Walks. -/
import Derived.Test.YtbhipiepfclneaaGreatDoorQ24
set_option maxHeartbeats 16000000
set_option maxRecDepth 20000
namespace Go.Proofs.YtbhipiepfclneaaGreatDoor
open Go Go.Wk Go.Un Go.De Go.Num
set_option linter.unusedSimpArgs false
set_option linter.unusedVariables false
attribute [local irreducible] Go.wpList Go.Code.wp Go.wpStill Go.Wk.wpPre Go.bodyPost Go.Calls Go.Wk.Ct Go.Wk.OwnS Go.Wk.wpG Go.Wk.wpM
section
variable {n : Sz} {L : List (Nat × Value)} {w0 : World} {F0 : Heap} {K0 : List Nat} {F : Heap} {R : List Grp} {p q r : Nat × Obj} {g g1 g2 : Grp} {a : Act} {w : World}
theorem spl3 (S : St n L w0 F0 K0 F ((p :: q :: g) :: R) a w) : St n L w0 F0 K0 F ([p] :: [q] :: g :: R) a w := ⟨S.fr, S.tr.perm (by simp)⟩
theorem spl5 (S : St n L w0 F0 K0 F ((p :: q :: (g1 ++ r :: g2)) :: R) a w) : St n L w0 F0 K0 F ([p] :: [q] :: g1 :: [r] :: g2 :: R) a w := ⟨S.fr, S.tr.perm (by simp)⟩
theorem joi3 (S : St n L w0 F0 K0 F ([p] :: [q] :: g :: R) a w) : St n L w0 F0 K0 F ((p :: q :: g) :: R) a w := ⟨S.fr, S.tr.perm (by simp)⟩
theorem joi4 (S : St n L w0 F0 K0 F ([p] :: [q] :: g :: [r] :: R) a w) : St n L w0 F0 K0 F ((p :: q :: (g ++ [r])) :: R) a w := ⟨S.fr, S.tr.perm (by simp)⟩
theorem joi5 (S : St n L w0 F0 K0 F ([p] :: [q] :: g1 :: [r] :: g2 :: R) a w) : St n L w0 F0 K0 F ((p :: q :: (g1 ++ r :: g2)) :: R) a w := ⟨S.fr, S.tr.perm (by simp)⟩
end
theorem wpl_callN {P : Program} {ops : Array Oper} {Q : Exit → Act → World → Prop} {n : Sz} {L : List (Nat × Value)} {w0 : World} {F0 : Heap} {K0 : List Nat} {F : Heap} {G : List Grp} {a : Act} {w : World} {rest : List Oper} {o : Oper} {d : Nat} {x : Operand} {xs : Array Operand} {ts : Array TypeId} {f : FuncId} {fi ca vs args : List Value} {Post : List Grp → Value → Prop} [hf : HasFn P f] (S : St n L w0 F0 K0 F G a w) (hg : o.guard = none) (hd : o.dst = some d) (hn : Nat.blt d n.sz = true)
  (ho : o.op = .call { callee := .value x, args := xs, argTypes := ts }) (hx : ev L x = some (.func (.func f) ⟨fi⟩ ⟨ca⟩)) (hxs : evs L xs.toList = some vs) (C : Ct P f args F [] (fun _ G' u => Post G' u)) (ha : fi ++ vs ++ ca = args)
  (k : ∀ v G' a' w', Post G' v → St n ((d, v) :: L) w0 F0 K0 F (G' ++ G) a' w' → wpList P ops Q rest a' w') : wpList P ops Q (o :: rest) a w :=
 wpl_callOwn (Gs := []) (Gr := G) S hg hd hn ho hx hxs C ha (by simp) k
theorem add4 {aggs : List (List UInt8)} {x : GA} {key way args : Vf} (h : (txtG key).isSome = false ∨ (txtG way).isSome = false ∨ (txtG args).isSome = false) : addE aggs x key way args = 4 := by
 unfold addE
 cases h1 : txtG key <;> cases h2 : txtG way <;> cases h3 : txtG args <;> first | rfl | (rw [h1, h2, h3] at h; rcases h with h | h | h <;> cases h)
theorem add1 {aggs : List (List UInt8)} {x : GA} {key way args : Vf} (h1 : (txtG key).isSome = true) (h2 : (txtG way).isSome = true) (h3 : (txtG args).isSome = true) (h4 : args.len ≠ aggs.length) : addE aggs x key way args = 1 := by
 unfold addE
 obtain ⟨k, hk⟩ := Option.isSome_iff_exists.1 h1
 obtain ⟨w, hw⟩ := Option.isSome_iff_exists.1 h2
 obtain ⟨q, hq⟩ := Option.isSome_iff_exists.1 h3
 rw [hk, hw, hq]
 exact if_pos h4
theorem zzGe0 {p : Prop} (h : p := by (refine ⟨?_, rfl⟩; first | (rw [add4 (by first | (left; assumption) | (right; left; assumption) | (right; right; assumption))]) | (rw [add1 (by assumption) (by assumption) (by assumption) (by omega)]) | trace_state)) : p := h
theorem addBadCt (F : Heap) (hT : TabF F) (bg : Nat) (av : Value) (gv : Gv) (gg : Grp) (aggs : List (List UInt8)) (x : GA) (hG : GsS bg av gv gg) (hA : LiM F 1 StR av aggs) (key way args : Vf) (v1 v2 v3 : Value) (h1 : TrS F 4 VhR v1 key) (h2 : TrS F 4 VhR v2 way) (h3 : TrS F 4 VhR v3 args) (r1 : RowB key) (r2 : RowB way) (r3 : RowB args)
  (hbad : (txtG key).isSome = false ∨ (txtG way).isSome = false ∨ (txtG args).isSome = false ∨ args.len ≠ aggs.length) :
  Ct Tryz.prog 10 [.pointer (some ⟨bg, 0, none⟩), v1, v2, v3] F [gg] (fun _ G' u => u = .int .i64 (addE aggs x key way args) ∧ G' = [gg]) := by
 have t1 := textCtG F hT v1 key h1 r1.rg r1.wt
 have t2 := textCtG F hT v2 way h2 r2.rg r2.wt
 have t3 := textCtG F hT v3 args h3 r3.rg r3.wt
 obtain ⟨bm, om, gw, rfl, hm, hw⟩ := hG
 obtain ⟨aa, ca, rfl, -, -⟩ := hA
 obtain ⟨a1, c1, rfl, -⟩ := h1
 obtain ⟨a2, c2, rfl, -⟩ := h2
 obtain ⟨a3, c3, rfl, -⟩ := h3
 refine Ct.enter Tryz.func10 rfl Tryz.ntmps10 rfl fun w0 a S => ?_
 (revert S a; refine go 5 ?_; intro Z hZ a S)
 (refine wp_seq_k ?_; intro Z hZ)
 (replace S := spl3 S)
 (revert S a; refine go 2 ?_; intro a S)
 (refine wv S (sv_eqPtrSome S rfl rfl rfl) ?_; clear S a; intro a S)
 (revert S a; revert hZ Z; refine go 2 ?_; intro a S)
 refine wpc_false S rfl ?_
 (revert S a; revert hZ Z; refine go 4 ?_; intro Z hZ a S)
 (refine wc0 S t1 ?_; clear S a; intro v9 a w hv S; subst hv; unfold tvV at S)
 (revert S a; revert hZ Z; refine go 9 ?_; intro Z hZ a S)
 (refine wc0 S t2 ?_; clear S a; intro v9 a w hv S; subst hv; unfold tvV at S)
 (revert S a; revert hZ Z; refine go 9 ?_; intro Z hZ a S)
 (refine wc0 S t3 ?_; clear S a; intro v9 a w hv S; subst hv; unfold tvV at S)
 (revert S a; revert hZ Z; refine go 13 ?_; intro Z hZ Z hZ a S)
 refine wgd S ?_ ?_
 ·(clear S; intro h S)
  (revert S a; refine go 5 ?_; intro a S)
  refine wgd S ?_ ?_
  ·(clear S; intro h S)
   (revert S a; revert hZ Z; refine go 7 ?_; intro a S)
   refine wpc_sp S rfl ?_ ?_ <;> intro h
   ·(revert S a; refine go 4 ?_; intro a S)
    refine wp_ret ?_
    (replace S := joi3 S)
    refine fin_ret S (results1 Tryz.results10 (RV.tmp S rfl)) ?_
    exact zzGe0
   (revert S a; refine go 12 ?_; intro a S)
   refine wpc_split S rfl (fun h => ?_) (fun h => ?_)
   ·(skip; (try simp only [tq] at h))
    (revert S a; refine go 4 ?_; intro a S)
    refine wp_ret ?_
    (replace S := joi3 S)
    refine fin_ret S (results1 Tryz.results10 (RV.tmp S rfl)) ?_
    exact zzGe0
   (skip; (try simp only [tq] at h); (exfalso; rcases hbad with h9 | h9 | h9 | h9 <;> simp_all <;> omega))
  (clear S a; intro h a S)
  (revert S a; revert hZ Z; refine go 5 ?_; intro a S)
  refine wpc_true S rfl ?_
  (revert S a; refine go 4 ?_; intro a S)
  refine wp_ret ?_
  (replace S := joi3 S)
  refine fin_ret S (results1 Tryz.results10 (RV.tmp S rfl)) ?_
  exact zzGe0
 (clear S a; intro h a S)
 (revert S a; revert hZ Z; refine go 9 ?_; intro a S)
 refine wpc_true S rfl ?_
 (revert S a; refine go 4 ?_; intro a S)
 refine wp_ret ?_
 (replace S := joi3 S)
 refine fin_ret S (results1 Tryz.results10 (RV.tmp S rfl)) ?_
 exact zzGe0
theorem ty_yes {aggs : List (List UInt8)} {args : Vf} {ws : List (List UInt8 × Vf)} {i : Nat} (hi : i < aggs.length) (h : tyBad aggs args ws i = true) : typeB aggs args ws = true := List.any_eq_true.2 ⟨i, List.mem_range.2 hi, h⟩
theorem ty_no {aggs : List (List UInt8)} {args : Vf} {ws : List (List UInt8 × Vf)} (h : ∀ j, j < aggs.length → tyBad aggs args ws j = false) : typeB aggs args ws = false := by
 rw [typeB, List.any_eq_false]
 intro j hj
 rw [h j (List.mem_range.1 hj)]; decide
theorem kAt_of {l : Vf} {i : Nat} {x : VH × Vf} (h : l.get? i = some x) : kAt l i = x.1.k := by unfold kAt; rw [h]
theorem tb_skip {aggs : List (List UInt8)} {args : Vf} {ws : List (List UInt8 × Vf)} {i : Nat} {s : List UInt8} (h : aggs.getD i [] = s) (hs : ¬ s = [115, 117, 109]) : tyBad aggs args ws i = false := by
 unfold tyBad; rw [decide_eq_false (by rw [h]; exact hs), Bool.false_and]
theorem tb_bad {aggs : List (List UInt8)} {args : Vf} {ws : List (List UInt8 × Vf)} {i : Nat} {s : List UInt8} (h : aggs.getD i [] = s) (hs : s = [115, 117, 109]) (h2 : kAt args i ≠ 2) (h3 : kAt args i ≠ 3) : tyBad aggs args ws i = true := by
 unfold tyBad; rw [decide_eq_true (by rw [h]; exact hs), decide_eq_true ⟨h2, h3⟩]; rfl
theorem tb_nil {aggs : List (List UInt8)} {args : Vf} {i : Nat} (h2 : kAt args i = 2 ∨ kAt args i = 3) : tyBad aggs args [] i = false := by
 unfold tyBad; rw [decide_eq_false (p := kAt args i ≠ 2 ∧ kAt args i ≠ 3) (by omega)]; simp
theorem tb_other {aggs : List (List UInt8)} {args : Vf} {w : List UInt8 × Vf} {r : List (List UInt8 × Vf)} {i : Nat} {s : List UInt8} (h : aggs.getD i [] = s) (hs : s = [115, 117, 109]) (h2 : kAt w.2 i ≠ kAt args i) : tyBad aggs args (w :: r) i = true := by
 unfold tyBad; rw [decide_eq_true (by rw [h]; exact hs)]; simp [h2]
theorem tb_same {aggs : List (List UInt8)} {args : Vf} {w : List UInt8 × Vf} {r : List (List UInt8 × Vf)} {i : Nat} (h2 : kAt args i = 2 ∨ kAt args i = 3) (h3 : kAt w.2 i = kAt args i) : tyBad aggs args (w :: r) i = false := by
 unfold tyBad; rw [decide_eq_false (p := kAt args i ≠ 2 ∧ kAt args i ≠ 3) (by omega)]; simp [h3]
def AddNew (bg : Nat) (av : Value) (gv : Gv) (k w : List UInt8) (key args : Vf) (G' : List Grp) : Prop := ∃ kv b av' gg' gk ga, G' = [gg', gk, ga] ∧ OwR gk kv key ∧ OwR ga av' args ∧ GsS bg av (gv ++ [(k, ⟨kv, b, [(w, av')]⟩)]) gg'
theorem zzGe1 {p : Prop} (h : p := by (rw [← hao8] at S; first | (refine ⟨tb_skip hxd (by assumption), ?_⟩; refine S.keep ?_; exact zk) | (rw [← hao] at S; replace S := S.drop1; refine ⟨tb_nil (by omega), ?_⟩; refine S.keep ?_; exact zk) | trace_state)) : p := h
theorem zzGe2 {p : Prop} (h : p := by (first | (exact .inl ⟨ty_yes (by omega) (tb_bad hxd (by assumption) (by omega) (by omega)), rfl, rfl⟩) | (have hm3 : MpO kS (gvM (gv ++ [(k9, ⟨.slice aK key.len cK, b117, [(w9, .slice aA args.len cA)]⟩)])) om2 := (by unfold gvM at hm2 ⊢; rw [List.map_append]; exact hm2); exact .inr ⟨ty_no (fun j hj => hall j (by omega)), rfl, _, b117, _, _, gk, ga, rfl, hOk, hOa, ⟨bm, om2, gw ++ [(b117, ow)], rfl, hm3, WaS.app (x2 := [(k9, ⟨.slice aK key.len cK, b117, [(w9, .slice aA args.len cA)]⟩)]) (g2 := [(b117, ow)]) (show b117 = b117 ∧ MpO kS [(w9, .slice aA args.len cA)] ow ∧ True from ⟨rfl, how, trivial⟩) hw⟩⟩) | trace_state)) : p := h
theorem addNewCt (F : Heap) (hT : TabF F) (bg : Nat) (av : Value) (gv : Gv) (gg : Grp) (aggs : List (List UInt8)) (hG : GsS bg av gv gg) (hA : LiM F 1 StR av aggs) (key way args : Vf) (v1 v2 v3 : Value) (h1 : TrS F 4 VhR v1 key) (h2 : TrS F 4 VhR v2 way) (h3 : TrS F 4 VhR v3 args) (r1 : RowB key) (r2 : RowB way) (r3 : RowB args)
    (k9 w9 q9 : List UInt8) (hk : txtG key = some k9) (hw9 : txtG way = some w9) (hq : txtG args = some q9) (hln : args.len = aggs.length) (hno : alG gv k9 = none) :
    Ct Tryz.prog 10 [.pointer (some ⟨bg, 0, none⟩), v1, v2, v3] F [gg] (fun _ G' u => (typeB aggs args [] = true ∧ u = .int .i64 70 ∧ G' = [gg]) ∨ (typeB aggs args [] = false ∧ u = .int .i64 0 ∧ AddNew bg av gv k9 w9 key args G')) := by
  have t1 := textCtG F hT v1 key h1 r1.rg r1.wt
  have t2 := textCtG F hT v2 way h2 r2.rg r2.wt
  have t3 := textCtG F hT v3 args h3 r3.rg r3.wt
  rw [hk] at t1
  rw [hw9] at t2
  rw [hq] at t3
  have o1 := gownCt key.size F key v1 (Nat.le_refl _) r1.ln r1.th h1
  have o3 := gownCt args.size F args v3 (Nat.le_refl _) r3.ln r3.th h3
  obtain ⟨bm, om, gw, rfl, hm, hw⟩ := hG
  have hmg : mGet (gvM gv) k9 = none := by rw [mGet_gv, hno]; rfl
  obtain ⟨aa, ca, rfl, hca, hpa⟩ := hA
  obtain ⟨a1, c1, rfl, -⟩ := h1
  obtain ⟨a2, c2, rfl, -⟩ := h2
  obtain ⟨a3, c3, rfl, hc3, hp3⟩ := h3
  refine Ct.enter Tryz.func10 rfl Tryz.ntmps10 rfl fun w0 a S => ?_
  (revert S a; refine go 5 ?_; intro Z hZ a S)
  (refine wp_seq_k ?_; intro Z hZ)
  (replace S := spl3 S)
  (revert S a; refine go 2 ?_; intro a S)
  (refine wv S (sv_eqPtrSome S rfl rfl rfl) ?_; clear S a; intro a S)
  (revert S a; revert hZ Z; refine go 2 ?_; intro a S)
  refine wpc_false S rfl ?_
  (revert S a; revert hZ Z; refine go 4 ?_; intro Z hZ a S)
  (refine wc0 S t1 ?_; clear S a; intro v9 a w hv S; subst hv; unfold tvV at S)
  (revert S a; revert hZ Z; refine go 9 ?_; intro Z hZ a S)
  (refine wc0 S t2 ?_; clear S a; intro v9 a w hv S; subst hv; unfold tvV at S)
  (revert S a; revert hZ Z; refine go 9 ?_; intro Z hZ a S)
  (refine wc0 S t3 ?_; clear S a; intro v9 a w hv S; subst hv; unfold tvV at S)
  (revert S a; revert hZ Z; refine go 11 ?_; intro Z hZ Z hZ a S)
  (refine wv S (sv_lit (c := false) (sv_pure S rfl) (by rfl)) ?_; clear S a; intro a S)
  (revert S a; refine go 4 ?_; intro a S)
  (refine wv S (sv_lit (c := false) (sv_pure S rfl) (by rfl)) ?_; clear S a; intro a S)
  (revert S a; refine go 5 ?_; intro a S)
  (refine wv S (sv_lit (c := false) (sv_pure S rfl) (by rfl)) ?_; clear S a; intro a S)
  (revert S a; revert hZ Z; refine go 4 ?_; intro a S)
  refine wpc_false S rfl ?_
  (revert S a; refine go 8 ?_; intro Z hZ a S)
  (refine wv S (sv_lit (c := false) (sv_pure S rfl) (by (rw [bne_eq_false_iff_eq]; omega))) ?_; clear S a; intro a S)
  (revert S a; revert hZ Z; refine go 3 ?_; intro a S)
  refine wpc_false S rfl ?_
  (revert S a; revert hZ Z; refine go 8 ?_; intro Z hZ a S)
  (refine wv S (sv_lookP (enc := kS) (k := k9) S rfl rfl rfl hm) ?_; clear S a; intro a S; rw [hmg] at S)
  (refine wpl_alloc S rfl rfl rfl rfl ?_; clear S a; intro b15 a w S)
  (refine wso S rfl rfl ?_; clear S; intro w S)
  (revert S a; revert hZ Z; refine go 7 ?_; intro Z hZ Z hZ a S)
  (refine wv S (sv_lookNil (enc := kS) (k := w9) S rfl rfl rfl) ?_; clear S a; intro a S)
  (revert S a; refine go 3 ?_; intro a S)
  skip
  (revert S a; revert hZ Z; refine go 8 ?_; intro a S)
  refine wpc_false S rfl ?_
  (revert S a; revert hZ Z; refine go 13 ?_; intro Z hZ a S)
  refine wpc_loop (fun m a w' => ∃ (i : Nat), m = aggs.length - i ∧ i ≤ aggs.length ∧ (∀ j, j < i → tyBad aggs args [] j = false) ∧ St 130 [(0, ptr bg), (1, .slice a1 key.len c1), (3, .slice a3 args.len c3), (9, .string (bs k9)), (11, .string (bs w9)), (15, ptr b15), (77, .slice aa aggs.length ca), (78, .int .i64 aggs.length), (79, .int .i64 i)] w0 F (keys [(bg, .cells ⟨[.slice aa aggs.length ca, .map (some bm)]⟩ 75 (0, 0)) :: (bm, om) :: gw]) F [[(b15, .cells ⟨[.slice none 0 0, .map none]⟩ 80 (0, 0))], [(bg, .cells ⟨[.slice aa aggs.length ca, .map (some bm)]⟩ 75 (0, 0))], [(bm, om)], gw] a w') ?_ ?_
  · (refine ⟨aggs.length, 0, by omega, Nat.zero_le _, (fun j h => absurd h (Nat.not_lt_zero _)), ?_⟩; refine S.keep ?_; exact zk)
  (clear S; rintro m a w ⟨i, rfl, hil, hall, S⟩)
  (revert S a; refine go 5 ?_; intro Z hZ a S)
  refine wpc_sp S rfl ?_ ?_ <;> intro h
  · refine wp_skip ?_
    (refine hZ _ _ ?_; clear hZ Z)
    (refine wp_seq_k ?_; intro Z hZ)
    replace hZ : ∀ (a' : Act) (w' : World), (tyBad aggs args [] i = false ∧ St 130 [(0, ptr bg), (1, .slice a1 key.len c1), (3, .slice a3 args.len c3), (9, .string (bs k9)), (11, .string (bs w9)), (15, ptr b15), (77, .slice aa aggs.length ca), (78, .int .i64 aggs.length), (79, .int .i64 i)] w0 F (keys [(bg, .cells ⟨[.slice aa aggs.length ca, .map (some bm)]⟩ 75 (0, 0)) :: (bm, om) :: gw]) F [[(b15, .cells ⟨[.slice none 0 0, .map none]⟩ 80 (0, 0))], [(bg, .cells ⟨[.slice aa aggs.length ca, .map (some bm)]⟩ 75 (0, 0))], [(bm, om)], gw] a' w') → Z a' w' := (by
     (intro a w hM; refine hZ _ _ ?_; clear hZ Z; clear S; obtain ⟨htb, S⟩ := hM)
     (revert S a; refine go 4 ?_; intro a S)
     change ∃ m', _ ∧ _
     (refine ⟨aggs.length - (i + 1), by omega, i + 1, rfl, by omega, (fun j hj => by rcases Nat.lt_or_eq_of_le (Nat.le_of_lt_succ hj) with h9 | h9; exact hall j h9; rw [h9]; exact htb), ?_⟩; refine S.keep ?_; exact zk))
    refine wp_block ?_
    (refine wp_seq_k ?_; intro Z hZ)
    (obtain ⟨b8, o8, hao8, s, cs1, hx, hcc, hR1⟩ := LiM.pos hpa (k := i) (by omega); rw [hao8] at S; obtain rfl : cs1 = _ := hR1; have hxd : aggs.getD i [] = s := (by rw [List.getD_eq_getElem?_getD, hx]; rfl); have hc1 : Cel F b8 (o8 + i * 1) (.string (bs s)) := hcc 0 _ rfl)
    (revert S a; refine go 3 ?_; intro a S)
    (refine wv S (sv_loadF S rfl rfl hc1) ?_; clear S a; intro a S)
    (revert S a; revert hZ Z; refine go 10 ?_; intro Z hZ a S)
    refine wpc_sp S rfl ?_ ?_ <;> intro h
    · (refine wp_exit ?_; conv => whnf)
      (clear hZ Z; (refine hZ _ _ ?_))
      exact zzGe1
    refine wp_skip ?_
    (refine hZ _ _ ?_; clear hZ Z)
    (refine wp_seq_k ?_; intro Z hZ)
    (obtain ⟨b7, o7, hao, y, csy, vy, hy, hcy, hwy, hTy⟩ := TrM.pos hp3 (k := i) (by omega); rw [hao] at S; have hky := kAt_of hy; have hwc := hwy.1; subst hwc; (simp only [List.cons_append, List.nil_append] at hcy))
    (revert S a; refine go 5 ?_; intro a S)
    (refine wv S (sv_loadF S rfl rfl (hcy 0 _ rfl)) ?_; clear S a; intro a S)
    (revert S a; revert hZ Z; refine go 8 ?_; intro Z hZ Z hZ a S)
    refine wgd S ?_ ?_
    · (clear S; intro h S)
      (revert S a; revert hZ Z; refine go 6 ?_; intro a S)
      refine wpc_sp S rfl ?_ ?_ <;> intro h
      · (revert S a; refine go 4 ?_; intro a S)
        refine wp_ret ?_
        (first | (rw [← hao8] at S; replace S := joi3 S.drop1) | (replace S : St _ _ _ _ _ F [[_], [_], [_], gw, [_], gk, ga] _ _ := St.permI S 7 rfl [3, 4, 5, 6, 1, 2, 0] (by decide); replace S := joi4 S.drop1))
        refine fin_ret S (results1 Tryz.results10 (RV.tmp S rfl)) ?_
        exact zzGe2
      (revert S a; revert hZ Z; refine go 5 ?_; intro Z hZ a S)
      (refine wpl_rangeNil S rfl rfl rfl rfl rfl ?_; clear S a; intro b99 a w S)
      (revert S a; revert hZ Z; refine go 3 ?_; intro a S)
      refine wpc_loop (fun m a w' => m = 0 ∧ St 130 [(0, ptr bg), (1, .slice a1 key.len c1), (3, .slice (some ⟨b7, o7, none⟩) args.len c3), (9, .string (bs k9)), (11, .string (bs w9)), (15, ptr b15), (77, .slice (some ⟨b8, o8, none⟩) aggs.length ca), (78, .int .i64 aggs.length), (79, .int .i64 i), (99, ptr b99)] w0 F (keys [(bg, .cells ⟨[.slice (some ⟨b8, o8, none⟩) aggs.length ca, .map (some bm)]⟩ 75 (0, 0)) :: (bm, om) :: gw]) F [[(b99, .mapIter none 0 #[] 0)], [(b15, .cells ⟨[.slice none 0 0, .map none]⟩ 80 (0, 0))], [(bg, .cells ⟨[.slice (some ⟨b8, o8, none⟩) aggs.length ca, .map (some bm)]⟩ 75 (0, 0))], [(bm, om)], gw] a w') ?_ ?_
      · (refine ⟨0, rfl, ?_⟩; refine S.keep ?_; exact zk)
      (clear S; rintro m a w ⟨rfl, S⟩)
      refine wp_sr fun Z hZ => ?_
      (refine wpl_nextNil S rfl rfl rfl rfl rfl ?_; clear S a; intro a S)
      (revert S a; refine go 1 ?_; intro a S)
      skip
      (revert S a; revert hZ Z; refine go 2 ?_; intro a S)
      (refine wp_seq_k ?_; intro Z hZ)
      refine wpc_false S rfl ?_
      (refine wp_exit ?_; conv => whnf)
      (clear hZ Z; (refine hZ _ _ ?_))
      exact zzGe1
    (clear S a; intro h a S)
    (revert S a; revert hZ Z; refine go 4 ?_; intro a S)
    refine wpc_false S rfl ?_
    (revert S a; revert hZ Z; refine go 5 ?_; intro Z hZ a S)
    (refine wpl_rangeNil S rfl rfl rfl rfl rfl ?_; clear S a; intro b99 a w S)
    (revert S a; revert hZ Z; refine go 3 ?_; intro a S)
    refine wpc_loop (fun m a w' => m = 0 ∧ St 130 [(0, ptr bg), (1, .slice a1 key.len c1), (3, .slice (some ⟨b7, o7, none⟩) args.len c3), (9, .string (bs k9)), (11, .string (bs w9)), (15, ptr b15), (77, .slice (some ⟨b8, o8, none⟩) aggs.length ca), (78, .int .i64 aggs.length), (79, .int .i64 i), (99, ptr b99)] w0 F (keys [(bg, .cells ⟨[.slice (some ⟨b8, o8, none⟩) aggs.length ca, .map (some bm)]⟩ 75 (0, 0)) :: (bm, om) :: gw]) F [[(b99, .mapIter none 0 #[] 0)], [(b15, .cells ⟨[.slice none 0 0, .map none]⟩ 80 (0, 0))], [(bg, .cells ⟨[.slice (some ⟨b8, o8, none⟩) aggs.length ca, .map (some bm)]⟩ 75 (0, 0))], [(bm, om)], gw] a w') ?_ ?_
    · (refine ⟨0, rfl, ?_⟩; refine S.keep ?_; exact zk)
    (clear S; rintro m a w ⟨rfl, S⟩)
    refine wp_sr fun Z hZ => ?_
    (refine wpl_nextNil S rfl rfl rfl rfl rfl ?_; clear S a; intro a S)
    (revert S a; refine go 1 ?_; intro a S)
    skip
    (revert S a; revert hZ Z; refine go 2 ?_; intro a S)
    (refine wp_seq_k ?_; intro Z hZ)
    refine wpc_false S rfl ?_
    (refine wp_exit ?_; conv => whnf)
    (clear hZ Z; (refine hZ _ _ ?_))
    exact zzGe1
  (refine wp_exit ?_; conv => whnf)
  clear hZ Z
  (revert S a; revert hZ Z; refine go 5 ?_; intro Z hZ Z hZ a S)
  (refine wv S (sv_lit (c := true) (sv_eqMapNil S rfl rfl rfl) (by rfl)) ?_; clear S a; intro a S)
  (revert S a; revert hZ Z; refine go 2 ?_; intro a S)
  refine wpc_true S rfl ?_
  (revert S a; refine go 2 ?_; intro Z hZ a S)
  (refine wpl_callN S rfl rfl rfl rfl rfl rfl o1 rfl ?_; clear S a; intro uK G9 a w hv S; obtain ⟨gk, rfl, hOk⟩ := hv; obtain ⟨aK, cK, rfl, -⟩ := id hOk; (simp only [List.singleton_append] at S))
  (refine wpl_makeMap kS S rfl rfl rfl rfl ?_; clear S a; intro b117 a w S)
  (revert S a; refine go 1 ?_; intro a S)
  (refine wso S rfl rfl ?_; clear S; intro w S)
  (revert S a; revert hZ Z; refine go 2 ?_; intro a S)
  (refine wpc_mixM [0, 1, 2, 3, 4, 5] [3, 5] [] (.one 0 (.one 1 (.one 2 (.one 3 (.one 4 (.one 5 (.one 6 .nil))))))) [bg, b15] S mixed (by kernel_rfl) ?_; clear S; intro w S)
  (revert S a; refine go 7 ?_; intro a S)
  (refine wpl_setP (enc := kS) (k := k9) S rfl rfl rfl rfl rfl rfl hm ?_; clear S; intro om2 w hm2 S; rw [mSet_new hmg] at hm2)
  (revert S a; revert hZ Z; refine go 3 ?_; intro a S)
  (refine wp_seq_k ?_; intro Z hZ)
  (refine wpc_mixM [0, 1, 2, 3] [1] [] (.one 0 (.one 1 (.one 2 (.one 3 (.one 4 (.one 5 .nil)))))) [b15] S mixed (by kernel_rfl) ?_; clear S; intro w S)
  (revert S a; refine go 5 ?_; intro a S)
  (refine wpl_callN S rfl rfl rfl rfl rfl rfl o3 rfl ?_; clear S a; intro uA G9 a w hv S; obtain ⟨ga, rfl, hOa⟩ := hv; obtain ⟨aA, cA, rfl, -⟩ := id hOa; (simp only [List.singleton_append] at S))
  (revert S a; refine go 2 ?_; intro a S)
  (refine wpl_setP (enc := kS) (k := w9) S rfl rfl rfl rfl rfl rfl (MpO.nil kS) ?_; clear S; intro ow w how S)
  (revert S a; revert hZ Z; refine go 7 ?_; intro a S)
  refine wp_ret ?_
  (first | (rw [← hao8] at S; replace S := joi3 S.drop1) | (replace S : St _ _ _ _ _ F [[_], [_], [_], gw, [_], gk, ga] _ _ := St.permI S 7 rfl [3, 4, 5, 6, 1, 2, 0] (by decide); replace S := joi4 S.drop1))
  refine fin_ret S (results1 Tryz.results10 (RV.tmp S rfl)) ?_
  exact zzGe2
theorem nx_some {enc : List UInt8 → Value} {es : List (List UInt8 × Value)} {b : Nat} {ob oi : Obj} {left : List (List UInt8 × Value)} {y : Option (List UInt8 × Value)} (h : NxO enc es b ob left y oi) (h2 : y.isSome = true) : ∃ p l1 l2, y = some p ∧ left = l1 ++ p :: l2 ∧ ItO enc es b ob (l1 ++ l2) (some p) oi := by
 rcases h with ⟨rfl, -⟩ | h
 ·cases h2
 ·exact h
theorem nx_none {enc : List UInt8 → Value} {es : List (List UInt8 × Value)} {b : Nat} {ob oi : Obj} {left : List (List UInt8 × Value)} {y : Option (List UInt8 × Value)} (h : NxO enc es b ob left y oi) (h2 : y.isSome = false) : left = [] := by
 rcases h with ⟨-, h⟩ | ⟨p, l1, l2, rfl, -⟩
 ·exact h
 ·cases h2
def AddOld (bg : Nat) (av : Value) (gv : Gv) (k w : List UInt8) (args : Vf) (G' : List Grp) : Prop := ∃ av' gg' ga, G' = [gg', ga] ∧ OwR ga av' args ∧ GsS bg av (alU gv k fun e => ⟨e.kv, e.b, e.ws ++ [(w, av')]⟩) gg'
theorem zzGe3 {p : Prop} (h : p := by (first | (exact .inl ⟨by rw [hgs]; assumption, rfl, rfl⟩) | (exact .inr (.inl ⟨by rw [hgs]; assumption, ty_yes (by omega) (tb_bad hxd (by assumption) (by omega) (by omega)), rfl, rfl⟩)) | (exact .inr (.inl ⟨by rw [hgs]; assumption, ty_yes (by omega) (by rw [hwe]; exact tb_other hxd (by assumption) (by omega)), rfl, rfl⟩)) | (have hns : (alG ews w9).isSome = false := (by assumption); have hnn : mGet ews w9 = none := (by rw [hmw]; exact Option.isNone_iff_eq_none.1 (by rw [← Option.not_isSome, hns]; rfl)); rw [mSet_new hnn] at how2; have hgv : gvM (x1 ++ (k9, (⟨.slice akv kvn ckv, eb, ews ++ [(w9, .slice aA args.len cA)]⟩ : Ev)) :: x2) = gvM (x1 ++ (k9, (⟨.slice akv kvn ckv, eb, ews⟩ : Ev)) :: x2) := (by unfold gvM; rw [List.map_append, List.map_append]; rfl); refine .inr (.inr ⟨by rw [hgs]; assumption, ty_no (fun j hj => hall j (by omega)), rfl, .slice aA args.len cA, _, ga, rfl, hOa, ?_⟩); rw [hup]; exact ⟨bm, om, g1 ++ (eb, ow2) :: g2, rfl, (by rw [hgv]; exact hm), WaS.join (e := ⟨.slice akv kvn ckv, eb, ews ++ [(w9, .slice aA args.len cA)]⟩) how2 hwb hwa⟩) | trace_state)) : p := h
theorem zzGe4 {p : Prop} (h : p := by (rw [← hao8] at S; first | (refine ⟨tb_skip hxd (by assumption), ?_⟩; refine S.keep ?_; exact zk) | (rw [← hao] at S; replace S := S.drop1; refine ⟨by (first | (rw [hwe]; exact tb_same (by omega) (by omega)) | (exfalso; have h9 := nx_none hnx (by assumption); rw [h9] at hwlen; rw [hwe] at hwlen; cases hwlen)), ?_⟩; refine S.keep ?_; exact zk) | trace_state)) : p := h
theorem addOldCt (F : Heap) (hT : TabF F) (bg : Nat) (av : Value) (gv : Gv) (gg : Grp) (aggs : List (List UInt8)) (hG : GsS bg av gv gg) (hA : LiM F 1 StR av aggs) (key way args : Vf) (v1 v2 v3 : Value) (h1 : TrS F 4 VhR v1 key) (h2 : TrS F 4 VhR v2 way) (h3 : TrS F 4 VhR v3 args) (r1 : RowB key) (r2 : RowB way) (r3 : RowB args)
    (k9 w9 q9 : List UInt8) (hk : txtG key = some k9) (hw9 : txtG way = some w9) (hq : txtG args = some q9) (hln : args.len = aggs.length) (e : Ev) (en : En) (hsome : alG gv k9 = some e) (hkv : TrS F 4 VhR e.kv en.key) (hW : WsR F en.ways e.ws) (hne : en.ways ≠ []) (hlen : ∀ w ∈ en.ways, w.2.len = aggs.length) (hkind : ∀ w ∈ en.ways, ∀ w' ∈ en.ways, ∀ i, aggs.getD i [] = sSum → kAt w.2 i = kAt w'.2 i) :
    Ct Tryz.prog 10 [.pointer (some ⟨bg, 0, none⟩), v1, v2, v3] F [gg] (fun _ G' u => ((alG en.ways w9).isSome = true ∧ u = .int .i64 6 ∧ G' = [gg]) ∨ ((alG en.ways w9).isSome = false ∧ typeB aggs args en.ways = true ∧ u = .int .i64 70 ∧ G' = [gg]) ∨ ((alG en.ways w9).isSome = false ∧ typeB aggs args en.ways = false ∧ u = .int .i64 0 ∧ AddOld bg av gv k9 w9 args G')) := by
  have t1 := textCtG F hT v1 key h1 r1.rg r1.wt
  have t2 := textCtG F hT v2 way h2 r2.rg r2.wt
  have t3 := textCtG F hT v3 args h3 r3.rg r3.wt
  rw [hk] at t1
  rw [hw9] at t2
  rw [hq] at t3
  have o3 := gownCt args.size F args v3 (Nat.le_refl _) r3.ln r3.th h3
  obtain ⟨bm, om, gw, rfl, hm, hw⟩ := hG
  obtain ⟨x1, x2, rfl, hx1, hup, -⟩ := alG_split hsome
  obtain ⟨g1, ow, g2, rfl, how, hwa, hwb⟩ := WaS.split hw
  have hmg : mGet (gvM (x1 ++ (k9, e) :: x2)) k9 = some (evV e) := by rw [mGet_gv, hsome]; rfl
  obtain ⟨kv, eb, ews⟩ := e
  obtain ⟨akv, ckv, rfl, -⟩ := hkv
  have hgs : (alG en.ways w9).isSome = (alG ews w9).isSome := by rcases hW.get w9 with ⟨q1, q2⟩ | ⟨_, _, q1, q2, -⟩ <;> rw [q1, q2] <;> rfl
  have hwlen := hW.len
  obtain ⟨aa, ca, rfl, hca, hpa⟩ := hA
  obtain ⟨a1, c1, rfl, -⟩ := h1
  obtain ⟨a2, c2, rfl, -⟩ := h2
  obtain ⟨a3, c3, rfl, hc3, hp3⟩ := h3
  generalize en.key.len = kvn at hm hmg hsome hup ⊢
  obtain ⟨w1, wr, hwe⟩ := List.exists_cons_of_ne_nil hne
  have hmw : mGet ews w9 = alG ews w9 := mGet_al ews w9
  refine Ct.enter Tryz.func10 rfl Tryz.ntmps10 rfl fun w0 a S => ?_
  (revert S a; refine go 5 ?_; intro Z hZ a S)
  (refine wp_seq_k ?_; intro Z hZ)
  (replace S := spl5 S)
  (revert S a; refine go 2 ?_; intro a S)
  (refine wv S (sv_eqPtrSome S rfl rfl rfl) ?_; clear S a; intro a S)
  (revert S a; revert hZ Z; refine go 2 ?_; intro a S)
  refine wpc_false S rfl ?_
  (revert S a; revert hZ Z; refine go 4 ?_; intro Z hZ a S)
  (refine wc0 S t1 ?_; clear S a; intro v9 a w hv S; subst hv; unfold tvV at S)
  (revert S a; revert hZ Z; refine go 9 ?_; intro Z hZ a S)
  (refine wc0 S t2 ?_; clear S a; intro v9 a w hv S; subst hv; unfold tvV at S)
  (revert S a; revert hZ Z; refine go 9 ?_; intro Z hZ a S)
  (refine wc0 S t3 ?_; clear S a; intro v9 a w hv S; subst hv; unfold tvV at S)
  (revert S a; revert hZ Z; refine go 11 ?_; intro Z hZ Z hZ a S)
  (refine wv S (sv_lit (c := false) (sv_pure S rfl) (by rfl)) ?_; clear S a; intro a S)
  (revert S a; refine go 4 ?_; intro a S)
  (refine wv S (sv_lit (c := false) (sv_pure S rfl) (by rfl)) ?_; clear S a; intro a S)
  (revert S a; refine go 5 ?_; intro a S)
  (refine wv S (sv_lit (c := false) (sv_pure S rfl) (by rfl)) ?_; clear S a; intro a S)
  (revert S a; revert hZ Z; refine go 4 ?_; intro a S)
  refine wpc_false S rfl ?_
  (revert S a; refine go 8 ?_; intro Z hZ a S)
  (refine wv S (sv_lit (c := false) (sv_pure S rfl) (by (rw [bne_eq_false_iff_eq]; omega))) ?_; clear S a; intro a S)
  (revert S a; revert hZ Z; refine go 3 ?_; intro a S)
  refine wpc_false S rfl ?_
  (revert S a; revert hZ Z; refine go 8 ?_; intro Z hZ a S)
  (refine wv S (sv_lookP (enc := kS) (k := k9) S rfl rfl rfl hm) ?_; clear S a; intro a S; rw [hmg] at S; unfold evV at S)
  (refine wpl_alloc S rfl rfl rfl rfl ?_; clear S a; intro b15 a w S)
  (refine wso S rfl rfl ?_; clear S; intro w S)
  (revert S a; revert hZ Z; refine go 7 ?_; intro Z hZ Z hZ a S)
  (refine wv S (sv_lookP (enc := kS) (k := w9) S rfl rfl rfl how) ?_; clear S a; intro a S; rw [hmw] at S)
  (revert S a; revert hZ Z; refine go 11 ?_; intro a S)
  refine wpc_sp S rfl ?_ ?_ <;> intro h
  · (revert S a; refine go 4 ?_; intro a S)
    refine wp_ret ?_
    (first | (replace S : St _ _ _ _ _ F [[_], [_], [_], g1, [_], g2, ga] _ _ := St.permI S 7 rfl [1, 2, 3, 4, 5, 6, 0] (by decide); replace S := joi5 S.drop1) | (rw [← hao8] at S; first | (replace S := joi5 S.drop1.drop1) | (replace S := joi5 S.drop1)) | (replace S := joi5 S.drop1))
    refine fin_ret S (results1 Tryz.results10 (RV.tmp S rfl)) ?_
    exact zzGe3
  (revert S a; revert hZ Z; refine go 13 ?_; intro Z hZ a S)
  refine wpc_loop (fun m a w' => ∃ (i : Nat), m = aggs.length - i ∧ i ≤ aggs.length ∧ (∀ j, j < i → tyBad aggs args en.ways j = false) ∧ St 130 [(0, ptr bg), (1, .slice a1 key.len c1), (3, .slice a3 args.len c3), (9, .string (bs k9)), (11, .string (bs w9)), (15, ptr b15), (77, .slice aa aggs.length ca), (78, .int .i64 aggs.length), (79, .int .i64 i)] w0 F (keys [(bg, .cells ⟨[.slice aa aggs.length ca, .map (some bm)]⟩ 75 (0, 0)) :: (bm, om) :: (g1 ++ (eb, ow) :: g2)]) F [[(b15, .cells ⟨[.slice akv kvn ckv, .map (some eb)]⟩ 80 (0, 0))], [(bg, .cells ⟨[.slice aa aggs.length ca, .map (some bm)]⟩ 75 (0, 0))], [(bm, om)], g1, [(eb, ow)], g2] a w') ?_ ?_
  · (refine ⟨aggs.length, 0, by omega, Nat.zero_le _, (fun j h => absurd h (Nat.not_lt_zero _)), ?_⟩; refine S.keep ?_; exact zk)
  (clear S; rintro m a w ⟨i, rfl, hil, hall, S⟩)
  (revert S a; refine go 5 ?_; intro Z hZ a S)
  refine wpc_sp S rfl ?_ ?_ <;> intro h
  · refine wp_skip ?_
    (refine hZ _ _ ?_; clear hZ Z)
    (refine wp_seq_k ?_; intro Z hZ)
    replace hZ : ∀ (a' : Act) (w' : World), (tyBad aggs args en.ways i = false ∧ St 130 [(0, ptr bg), (1, .slice a1 key.len c1), (3, .slice a3 args.len c3), (9, .string (bs k9)), (11, .string (bs w9)), (15, ptr b15), (77, .slice aa aggs.length ca), (78, .int .i64 aggs.length), (79, .int .i64 i)] w0 F (keys [(bg, .cells ⟨[.slice aa aggs.length ca, .map (some bm)]⟩ 75 (0, 0)) :: (bm, om) :: (g1 ++ (eb, ow) :: g2)]) F [[(b15, .cells ⟨[.slice akv kvn ckv, .map (some eb)]⟩ 80 (0, 0))], [(bg, .cells ⟨[.slice aa aggs.length ca, .map (some bm)]⟩ 75 (0, 0))], [(bm, om)], g1, [(eb, ow)], g2] a' w') → Z a' w' := (by
     (intro a w hM; refine hZ _ _ ?_; clear hZ Z; clear S; obtain ⟨htb, S⟩ := hM)
     (revert S a; refine go 4 ?_; intro a S)
     change ∃ m', _ ∧ _
     (refine ⟨aggs.length - (i + 1), by omega, i + 1, rfl, by omega, (fun j hj => by rcases Nat.lt_or_eq_of_le (Nat.le_of_lt_succ hj) with h9 | h9; exact hall j h9; rw [h9]; exact htb), ?_⟩; refine S.keep ?_; exact zk))
    refine wp_block ?_
    (refine wp_seq_k ?_; intro Z hZ)
    (obtain ⟨b8, o8, hao8, s, cs1, hx, hcc, hR1⟩ := LiM.pos hpa (k := i) (by omega); rw [hao8] at S; obtain rfl : cs1 = _ := hR1; have hxd : aggs.getD i [] = s := (by rw [List.getD_eq_getElem?_getD, hx]; rfl); have hc1 : Cel F b8 (o8 + i * 1) (.string (bs s)) := hcc 0 _ rfl)
    (revert S a; refine go 3 ?_; intro a S)
    (refine wv S (sv_loadF S rfl rfl hc1) ?_; clear S a; intro a S)
    (revert S a; revert hZ Z; refine go 10 ?_; intro Z hZ a S)
    refine wpc_sp S rfl ?_ ?_ <;> intro h
    · (refine wp_exit ?_; conv => whnf)
      (clear hZ Z; (refine hZ _ _ ?_))
      exact zzGe4
    refine wp_skip ?_
    (refine hZ _ _ ?_; clear hZ Z)
    (refine wp_seq_k ?_; intro Z hZ)
    (obtain ⟨b7, o7, hao, y7, csy, vy, hy, hcy, hwy, hTy⟩ := TrM.pos hp3 (k := i) (by omega); rw [hao] at S; have hky := kAt_of hy; have hwc := hwy.1; subst hwc; (simp only [List.cons_append, List.nil_append] at hcy))
    (revert S a; refine go 5 ?_; intro a S)
    (refine wv S (sv_loadF S rfl rfl (hcy 0 _ rfl)) ?_; clear S a; intro a S)
    (revert S a; revert hZ Z; refine go 8 ?_; intro Z hZ Z hZ a S)
    refine wgd S ?_ ?_
    · (clear S; intro h S)
      (revert S a; revert hZ Z; refine go 6 ?_; intro a S)
      refine wpc_sp S rfl ?_ ?_ <;> intro h
      · (revert S a; refine go 4 ?_; intro a S)
        refine wp_ret ?_
        (first | (replace S : St _ _ _ _ _ F [[_], [_], [_], g1, [_], g2, ga] _ _ := St.permI S 7 rfl [1, 2, 3, 4, 5, 6, 0] (by decide); replace S := joi5 S.drop1) | (rw [← hao8] at S; first | (replace S := joi5 S.drop1.drop1) | (replace S := joi5 S.drop1)) | (replace S := joi5 S.drop1))
        refine fin_ret S (results1 Tryz.results10 (RV.tmp S rfl)) ?_
        exact zzGe3
      (revert S a; revert hZ Z; refine go 5 ?_; intro Z hZ a S)
      (refine wpl_rangeM (enc := kS) S rfl rfl rfl rfl rfl (by exact S.has inferInstance) how ?_; clear S a; intro b99 oi a w hit S)
      (revert S a; revert hZ Z; refine go 3 ?_; intro a S)
      refine wpc_loop (fun m a w' => ∃ (oi : Obj), m = 0 ∧ ItO kS ews eb ow ews none oi ∧ St 130 [(0, ptr bg), (1, .slice a1 key.len c1), (3, .slice (some ⟨b7, o7, none⟩) args.len c3), (9, .string (bs k9)), (11, .string (bs w9)), (15, ptr b15), (18, .int .i64 i), (20, .int .u8 (y7.1.k : Int)), (77, .slice (some ⟨b8, o8, none⟩) aggs.length ca), (78, .int .i64 aggs.length), (79, .int .i64 i), (99, ptr b99)] w0 F (keys [(bg, .cells ⟨[.slice (some ⟨b8, o8, none⟩) aggs.length ca, .map (some bm)]⟩ 75 (0, 0)) :: (bm, om) :: (g1 ++ (eb, ow) :: g2)]) F [[(b99, oi)], [(b15, .cells ⟨[.slice akv kvn ckv, .map (some eb)]⟩ 80 (0, 0))], [(bg, .cells ⟨[.slice (some ⟨b8, o8, none⟩) aggs.length ca, .map (some bm)]⟩ 75 (0, 0))], [(bm, om)], g1, [(eb, ow)], g2] a w') ?_ ?_
      · (refine ⟨0, oi, rfl, hit, ?_⟩; refine S.keep ?_; exact zk)
      (clear S hit; rintro m a w ⟨oi, rfl, hit, S⟩)
      refine wp_sr fun Z hZ => ?_
      (refine wpl_next (enc := kS) S rfl rfl rfl rfl rfl (by exact S.has inferInstance) hit ?_; clear S a; intro y oi2 a w hnx S)
      (revert S a; revert hZ Z; refine go 4 ?_; intro Z hZ a S)
      refine wpc_sp S rfl ?_ ?_ <;> intro h
      · (revert S a; revert hZ Z; refine go 3 ?_; intro a S)
        (refine wp_seq_k ?_; intro Z hZ)
        (obtain ⟨⟨pt, pv⟩, l1, l2, rfl, hpl, hit2⟩ := nx_some hnx (by assumption); obtain ⟨qw, hqm, -, hTq⟩ := hW.mem (pt, pv) (by rw [hpl]; simp); obtain ⟨aQ, cQ, hqe, hcQ, hpQ⟩ := hTq; (dsimp only at hqe); subst hqe; have hql := hlen qw hqm; obtain ⟨b6, o6, hao6, z, csz, vz, hz, hcz, hwz, hTz⟩ := TrM.pos hpQ (k := i) (by omega); subst hao6; have hkz := kAt_of hz; have hwd := hwz.1; subst hwd; (simp only [List.cons_append, List.nil_append] at hcz); have hk1 := hkind w1 (by rw [hwe]; simp) qw hqm i (by rw [hxd]; assumption))
        refine wp_region_lit ?_
        (refine wv S (sv_entryM (enc := kS) S rfl rfl (by exact S.has inferInstance) hit2) ?_; clear S a; intro a S)
        (revert S a; revert hZ Z; refine go 10 ?_; intro Z hZ Z hZ a S)
        (refine wv S (sv_loadF S rfl rfl (hcz 0 _ rfl)) ?_; clear S a; intro a S)
        (revert S a; revert hZ Z; refine go 4 ?_; intro a S)
        refine wpc_sp S rfl ?_ ?_ <;> intro h
        · (revert S a; refine go 4 ?_; intro a S)
          refine wp_ret ?_
          (first | (replace S : St _ _ _ _ _ F [[_], [_], [_], g1, [_], g2, ga] _ _ := St.permI S 7 rfl [1, 2, 3, 4, 5, 6, 0] (by decide); replace S := joi5 S.drop1) | (rw [← hao8] at S; first | (replace S := joi5 S.drop1.drop1) | (replace S := joi5 S.drop1)) | (replace S := joi5 S.drop1))
          refine fin_ret S (results1 Tryz.results10 (RV.tmp S rfl)) ?_
          exact zzGe3
        (revert S a; revert hZ Z; refine go 3 ?_; intro a S)
        (refine hZ _ _ ?_)
        exact zzGe4
      (refine wp_exit ?_; conv => whnf)
      (clear hZ Z; (refine hZ _ _ ?_))
      exact zzGe4
    (clear S a; intro h a S)
    (revert S a; revert hZ Z; refine go 4 ?_; intro a S)
    refine wpc_false S rfl ?_
    (revert S a; revert hZ Z; refine go 5 ?_; intro Z hZ a S)
    (refine wpl_rangeM (enc := kS) S rfl rfl rfl rfl rfl (by exact S.has inferInstance) how ?_; clear S a; intro b99 oi a w hit S)
    (revert S a; revert hZ Z; refine go 3 ?_; intro a S)
    refine wpc_loop (fun m a w' => ∃ (oi : Obj), m = 0 ∧ ItO kS ews eb ow ews none oi ∧ St 130 [(0, ptr bg), (1, .slice a1 key.len c1), (3, .slice (some ⟨b7, o7, none⟩) args.len c3), (9, .string (bs k9)), (11, .string (bs w9)), (15, ptr b15), (18, .int .i64 i), (20, .int .u8 (y7.1.k : Int)), (77, .slice (some ⟨b8, o8, none⟩) aggs.length ca), (78, .int .i64 aggs.length), (79, .int .i64 i), (99, ptr b99)] w0 F (keys [(bg, .cells ⟨[.slice (some ⟨b8, o8, none⟩) aggs.length ca, .map (some bm)]⟩ 75 (0, 0)) :: (bm, om) :: (g1 ++ (eb, ow) :: g2)]) F [[(b99, oi)], [(b15, .cells ⟨[.slice akv kvn ckv, .map (some eb)]⟩ 80 (0, 0))], [(bg, .cells ⟨[.slice (some ⟨b8, o8, none⟩) aggs.length ca, .map (some bm)]⟩ 75 (0, 0))], [(bm, om)], g1, [(eb, ow)], g2] a w') ?_ ?_
    · (refine ⟨0, oi, rfl, hit, ?_⟩; refine S.keep ?_; exact zk)
    (clear S hit; rintro m a w ⟨oi, rfl, hit, S⟩)
    refine wp_sr fun Z hZ => ?_
    (refine wpl_next (enc := kS) S rfl rfl rfl rfl rfl (by exact S.has inferInstance) hit ?_; clear S a; intro y oi2 a w hnx S)
    (revert S a; revert hZ Z; refine go 4 ?_; intro Z hZ a S)
    refine wpc_sp S rfl ?_ ?_ <;> intro h
    · (revert S a; revert hZ Z; refine go 3 ?_; intro a S)
      (refine wp_seq_k ?_; intro Z hZ)
      (obtain ⟨⟨pt, pv⟩, l1, l2, rfl, hpl, hit2⟩ := nx_some hnx (by assumption); obtain ⟨qw, hqm, -, hTq⟩ := hW.mem (pt, pv) (by rw [hpl]; simp); obtain ⟨aQ, cQ, hqe, hcQ, hpQ⟩ := hTq; (dsimp only at hqe); subst hqe; have hql := hlen qw hqm; obtain ⟨b6, o6, hao6, z, csz, vz, hz, hcz, hwz, hTz⟩ := TrM.pos hpQ (k := i) (by omega); subst hao6; have hkz := kAt_of hz; have hwd := hwz.1; subst hwd; (simp only [List.cons_append, List.nil_append] at hcz); have hk1 := hkind w1 (by rw [hwe]; simp) qw hqm i (by rw [hxd]; assumption))
      refine wp_region_lit ?_
      (refine wv S (sv_entryM (enc := kS) S rfl rfl (by exact S.has inferInstance) hit2) ?_; clear S a; intro a S)
      (revert S a; revert hZ Z; refine go 10 ?_; intro Z hZ Z hZ a S)
      (refine wv S (sv_loadF S rfl rfl (hcz 0 _ rfl)) ?_; clear S a; intro a S)
      (revert S a; revert hZ Z; refine go 4 ?_; intro a S)
      refine wpc_sp S rfl ?_ ?_ <;> intro h
      · (revert S a; refine go 4 ?_; intro a S)
        refine wp_ret ?_
        (first | (replace S : St _ _ _ _ _ F [[_], [_], [_], g1, [_], g2, ga] _ _ := St.permI S 7 rfl [1, 2, 3, 4, 5, 6, 0] (by decide); replace S := joi5 S.drop1) | (rw [← hao8] at S; first | (replace S := joi5 S.drop1.drop1) | (replace S := joi5 S.drop1)) | (replace S := joi5 S.drop1))
        refine fin_ret S (results1 Tryz.results10 (RV.tmp S rfl)) ?_
        exact zzGe3
      (revert S a; revert hZ Z; refine go 3 ?_; intro a S)
      (refine hZ _ _ ?_)
      exact zzGe4
    (refine wp_exit ?_; conv => whnf)
    (clear hZ Z; (refine hZ _ _ ?_))
    exact zzGe4
  (refine wp_exit ?_; conv => whnf)
  clear hZ Z
  (revert S a; revert hZ Z; refine go 5 ?_; intro Z hZ Z hZ a S)
  (refine wv S (sv_lit (c := false) (sv_eqMapNil S rfl rfl rfl) (by rfl)) ?_; clear S a; intro a S)
  (revert S a; revert hZ Z; refine go 2 ?_; intro a S)
  refine wpc_false S rfl ?_
  refine wp_skip ?_
  (refine hZ _ _ ?_; clear hZ Z)
  (refine wp_seq_k ?_; intro Z hZ)
  (refine wpc_mixM [0, 1, 2, 3] [1] [] (.one 0 (.one 1 (.one 2 (.one 3 (.one 4 (.one 5 .nil)))))) [b15] S mixed (by kernel_rfl) ?_; clear S; intro w S)
  (revert S a; refine go 5 ?_; intro a S)
  (refine wpl_callN S rfl rfl rfl rfl rfl rfl o3 rfl ?_; clear S a; intro uA G9 a w hv S; obtain ⟨ga, rfl, hOa⟩ := hv; obtain ⟨aA, cA, rfl, -⟩ := id hOa; (simp only [List.singleton_append] at S))
  (revert S a; refine go 2 ?_; intro a S)
  (refine wpl_setP (enc := kS) (k := w9) S rfl rfl rfl rfl rfl rfl how ?_; clear S; intro ow2 w how2 S)
  (revert S a; revert hZ Z; refine go 7 ?_; intro a S)
  refine wp_ret ?_
  (first | (replace S : St _ _ _ _ _ F [[_], [_], [_], g1, [_], g2, ga] _ _ := St.permI S 7 rfl [1, 2, 3, 4, 5, 6, 0] (by decide); replace S := joi5 S.drop1) | (rw [← hao8] at S; first | (replace S := joi5 S.drop1.drop1) | (replace S := joi5 S.drop1)) | (replace S := joi5 S.drop1))
  refine fin_ret S (results1 Tryz.results10 (RV.tmp S rfl)) ?_
  exact zzGe3
end Go.Proofs.YtbhipiepfclneaaGreatDoor
