/- Walks. -/
import Derived.Test.YtbhipiepfclneaaGreatDoorQ17
set_option maxHeartbeats 16000000
set_option maxRecDepth 20000
namespace Go.Proofs.YtbhipiepfclneaaGreatDoor
open Go Go.Wk Go.Un Go.De Go.Num
set_option linter.unusedSimpArgs false
set_option linter.unusedVariables false
attribute [local irreducible] Go.wpList Go.Code.wp Go.wpStill Go.Wk.q26 Go.bodyPost Go.Calls Go.Wk.Ct Go.Wk.q0u Go.Wk.wpG Go.Wk.wpM
section
variable {n : Sz} {L : List (Nat × Value)} {w0 : World} {F0 : q01} {K0 : List Nat} {F : q01} {R : List Grp} {p q r : Nat × Obj} {g g1 g2 : Grp} {a : Act} {w : World}
theorem qzs (S : St n L w0 F0 K0 F ((p :: q :: g) :: R) a w) : St n L w0 F0 K0 F ([p] :: [q] :: g :: R) a w := ⟨S.fr, S.tr.perm (by simp)⟩
theorem u4a (S : St n L w0 F0 K0 F ((p :: q :: (g1 ++ r :: g2)) :: R) a w) : St n L w0 F0 K0 F ([p] :: [q] :: g1 :: [r] :: g2 :: R) a w := ⟨S.fr, S.tr.perm (by simp)⟩
theorem qdn (S : St n L w0 F0 K0 F ([p] :: [q] :: g :: R) a w) : St n L w0 F0 K0 F ((p :: q :: g) :: R) a w := ⟨S.fr, S.tr.perm (by simp)⟩
theorem u72 (S : St n L w0 F0 K0 F ([p] :: [q] :: g :: [r] :: R) a w) : St n L w0 F0 K0 F ((p :: q :: (g ++ [r])) :: R) a w := ⟨S.fr, S.tr.perm (by simp)⟩
theorem q7x (S : St n L w0 F0 K0 F ([p] :: [q] :: g1 :: [r] :: g2 :: R) a w) : St n L w0 F0 K0 F ((p :: q :: (g1 ++ r :: g2)) :: R) a w := ⟨S.fr, S.tr.perm (by simp)⟩
end
theorem u4c {aggs : List (List UInt8)} {x : GA} {key way args : Vf} (h : (q13 key).isSome = false ∨ (q13 way).isSome = false ∨ (q13 args).isSome = false) : qam aggs x key way args = 4 := by
 unfold qam
 cases h1 : q13 key <;> cases h2 : q13 way <;> cases h3 : q13 args <;> first | rfl | (rw [h1, h2, h3] at h; rcases h with h | h | h <;> cases h)
theorem add1 {aggs : List (List UInt8)} {x : GA} {key way args : Vf} (h1 : (q13 key).isSome = true) (h2 : (q13 way).isSome = true) (h3 : (q13 args).isSome = true) (h4 : args.len ≠ aggs.length) : qam aggs x key way args = 1 := by
 unfold qam
 obtain ⟨k, hk⟩ := Option.isSome_iff_exists.1 h1
 obtain ⟨w, hw⟩ := Option.isSome_iff_exists.1 h2
 obtain ⟨q, hq⟩ := Option.isSome_iff_exists.1 h3
 rw [hk, hw, hq]
 exact if_pos h4
theorem qqu {p : Prop} (h : p := by (refine ⟨?_, rfl⟩; first | (rw [u4c (by first | (left; assumption) | (right; left; assumption) | (right; right; assumption))]) | (rw [add1 (by assumption) (by assumption) (by assumption) (by omega)]))) : p := h
theorem qrl (F : q01) (hT : q50 F) (bg : Nat) (av : Value) (gv : Gv) (gg : Grp) (aggs : List (List UInt8)) (x : GA) (hG : GsS bg av gv gg) (hA : LiM F 1 StR av aggs) (key way args : Vf) (v1 v2 v3 : Value) (h1 : TrS F 4 VhR v1 key) (h2 : TrS F 4 VhR v2 way) (h3 : TrS F 4 VhR v3 args) (r1 : q2r key) (r2 : q2r way) (r3 : q2r args)
  (hbad : (q13 key).isSome = false ∨ (q13 way).isSome = false ∨ (q13 args).isSome = false ∨ args.len ≠ aggs.length) :
  Ct Tryz.prog 10 [.pointer (some ⟨bg, 0, none⟩), v1, v2, v3] F [gg] (fun _ G' u => u = .int .i64 (qam aggs x key way args) ∧ G' = [gg]) := by
 have t1 := q2n F hT v1 key h1 r1.rg r1.wt
 have t2 := q2n F hT v2 way h2 r2.rg r2.wt
 have t3 := q2n F hT v3 args h3 r3.rg r3.wt
 obtain ⟨bm, om, gw, rfl, hm, hw⟩ := hG
 obtain ⟨aa, ca, rfl, -, -⟩ := hA
 obtain ⟨a1, c1, rfl, -⟩ := h1
 obtain ⟨a2, c2, rfl, -⟩ := h2
 obtain ⟨a3, c3, rfl, -⟩ := h3
 refine Ct.enter Tryz.func10 rfl Tryz.ntmps10 rfl fun w0 a S => ?_
 revert a; refine go 5 ?_; intro Z hZ a S
 (refine wp_seq_k ?_; intro Z hZ)
 (replace S := qzs S)
 revert a; refine go 2 ?_; intro a S
 (refine wv S (q1b S rfl rfl rfl) ?_; clear S a; intro a S)
 revert a; revert Z; refine go 2 ?_; intro a S
 refine q03 S rfl ?_
 revert a; revert Z; refine go 4 ?_; intro Z hZ a S
 (refine wc0 S t1 ?_; clear S a; intro v9 a w hv S; subst hv; unfold tvV at S)
 revert a; revert Z; refine go 9 ?_; intro Z hZ a S
 (refine wc0 S t2 ?_; clear S a; intro v9 a w hv S; subst hv; unfold tvV at S)
 revert a; revert Z; refine go 9 ?_; intro Z hZ a S
 (refine wc0 S t3 ?_; clear S a; intro v9 a w hv S; subst hv; unfold tvV at S)
 revert a; revert Z; refine go 13 ?_; intro Z hZ Z hZ a S
 refine wgd S ?_ ?_
 ·(clear S; intro h S)
  revert a; refine go 5 ?_; intro a S
  refine wgd S ?_ ?_
  ·(clear S; intro h S)
   revert a; revert Z; refine go 7 ?_; intro a S
   refine q00 S rfl ?_ ?_ <;> intro h
   ·revert a; refine go 4 ?_; intro a S
    refine wp_ret ?_
    (replace S := qdn S)
    refine q08 S (q0c Tryz.results10 (RV.tmp S rfl)) ?_
    exact qqu
   revert a; refine go 12 ?_; intro a S
   refine q0l S rfl (fun h => ?_) (fun h => ?_)
   ·(try simp only [tq] at h)
    revert a; refine go 4 ?_; intro a S
    refine wp_ret ?_
    (replace S := qdn S)
    refine q08 S (q0c Tryz.results10 (RV.tmp S rfl)) ?_
    exact qqu
   (skip; (try simp only [tq] at h); (exfalso; rcases hbad with h9 | h9 | h9 | h9 <;> simp_all <;> omega))
  (clear S a; intro h a S)
  revert a; revert Z; refine go 5 ?_; intro a S
  refine q0h S rfl ?_
  revert a; refine go 4 ?_; intro a S
  refine wp_ret ?_
  (replace S := qdn S)
  refine q08 S (q0c Tryz.results10 (RV.tmp S rfl)) ?_
  exact qqu
 (clear S a; intro h a S)
 revert a; revert Z; refine go 9 ?_; intro a S
 refine q0h S rfl ?_
 revert a; refine go 4 ?_; intro a S
 refine wp_ret ?_
 (replace S := qdn S)
 refine q08 S (q0c Tryz.results10 (RV.tmp S rfl)) ?_
 exact qqu
theorem qpr {aggs : List (List UInt8)} {args : Vf} {ws : List (List UInt8 × Vf)} {i : Nat} (hi : i < aggs.length) (h : q4n aggs args ws i = true) : q73 aggs args ws = true := List.any_eq_true.2 ⟨i, List.mem_range.2 hi, h⟩
theorem qzx {aggs : List (List UInt8)} {args : Vf} {ws : List (List UInt8 × Vf)} (h : ∀ j, j < aggs.length → q4n aggs args ws j = false) : q73 aggs args ws = false := by
 rw [q73, List.any_eq_false]
 intro j hj
 rw [h j (List.mem_range.1 hj)]; decide
theorem qa9 {l : Vf} {i : Nat} {x : VH × Vf} (h : l.get? i = some x) : kAt l i = x.1.k := by unfold kAt; rw [h]
theorem qm3 {aggs : List (List UInt8)} {args : Vf} {ws : List (List UInt8 × Vf)} {i : Nat} {s : List UInt8} (h : aggs.getD i [] = s) (hs : ¬ s = [115, 117, 109]) : q4n aggs args ws i = false := by
 unfold q4n; rw [decide_eq_false (by rw [h]; exact hs), Bool.false_and]
theorem qu8 {aggs : List (List UInt8)} {args : Vf} {ws : List (List UInt8 × Vf)} {i : Nat} {s : List UInt8} (h : aggs.getD i [] = s) (hs : s = [115, 117, 109]) (h2 : kAt args i ≠ 2) (h3 : kAt args i ≠ 3) : q4n aggs args ws i = true := by
 unfold q4n; rw [decide_eq_true (by rw [h]; exact hs), decide_eq_true ⟨h2, h3⟩]; rfl
theorem u3h {aggs : List (List UInt8)} {args : Vf} {i : Nat} (h2 : kAt args i = 2 ∨ kAt args i = 3) : q4n aggs args [] i = false := by
 unfold q4n; rw [decide_eq_false (p := kAt args i ≠ 2 ∧ kAt args i ≠ 3) (by omega)]; simp
theorem qsw {aggs : List (List UInt8)} {args : Vf} {w : List UInt8 × Vf} {r : List (List UInt8 × Vf)} {i : Nat} {s : List UInt8} (h : aggs.getD i [] = s) (hs : s = [115, 117, 109]) (h2 : kAt w.2 i ≠ kAt args i) : q4n aggs args (w :: r) i = true := by
 unfold q4n; rw [decide_eq_true (by rw [h]; exact hs)]; simp [h2]
theorem qyy {aggs : List (List UInt8)} {args : Vf} {w : List UInt8 × Vf} {r : List (List UInt8 × Vf)} {i : Nat} (h2 : kAt args i = 2 ∨ kAt args i = 3) (h3 : kAt w.2 i = kAt args i) : q4n aggs args (w :: r) i = false := by
 unfold q4n; rw [decide_eq_false (p := kAt args i ≠ 2 ∧ kAt args i ≠ 3) (by omega)]; simp [h3]
def u2c (bg : Nat) (av : Value) (gv : Gv) (k w : List UInt8) (key args : Vf) (G' : List Grp) : Prop := ∃ kv b av' gg' gk ga, G' = [gg', gk, ga] ∧ OwR gk kv key ∧ OwR ga av' args ∧ GsS bg av (gv ++ [(k, ⟨kv, b, [(w, av')]⟩)]) gg'
theorem qwf {p : Prop} (h : p := by (rw [← hao8] at S; first | (refine ⟨qm3 hxd (by assumption), ?_⟩; refine S.keep ?_; exact zk) | (rw [← hao] at S; replace S := S.drop1; refine ⟨u3h (by omega), ?_⟩; refine S.keep ?_; exact zk))) : p := h
theorem u3v {p : Prop} (h : p := by (first | (exact .inl ⟨qpr (by omega) (qu8 hxd (by assumption) (by omega) (by omega)), rfl, rfl⟩) | (have hm3 : MpO kS (gvM (gv ++ [(k9, ⟨.slice aK key.len cK, b117, [(w9, .slice aA args.len cA)]⟩)])) om2 := (by unfold gvM at hm2 ⊢; rw [List.map_append]; exact hm2); exact .inr ⟨qzx (fun j hj => hall j (by omega)), rfl, _, b117, _, _, gk, ga, rfl, hOk, hOa, ⟨bm, om2, gw ++ [(b117, ow)], rfl, hm3, WaS.app (x2 := [(k9, ⟨.slice aK key.len cK, b117, [(w9, .slice aA args.len cA)]⟩)]) (g2 := [(b117, ow)]) (show b117 = b117 ∧ MpO kS [(w9, .slice aA args.len cA)] ow ∧ True from ⟨rfl, how, trivial⟩) hw⟩⟩))) : p := h
theorem qrk (F : q01) (hT : q50 F) (bg : Nat) (av : Value) (gv : Gv) (gg : Grp) (aggs : List (List UInt8)) (hG : GsS bg av gv gg) (hA : LiM F 1 StR av aggs) (key way args : Vf) (v1 v2 v3 : Value) (h1 : TrS F 4 VhR v1 key) (h2 : TrS F 4 VhR v2 way) (h3 : TrS F 4 VhR v3 args) (r1 : q2r key) (r2 : q2r way) (r3 : q2r args)
    (k9 w9 q9 : List UInt8) (hk : q13 key = some k9) (hw9 : q13 way = some w9) (hq : q13 args = some q9) (hln : args.len = aggs.length) (hno : alG gv k9 = none) :
    Ct Tryz.prog 10 [.pointer (some ⟨bg, 0, none⟩), v1, v2, v3] F [gg] (fun _ G' u => (q73 aggs args [] = true ∧ u = .int .i64 70 ∧ G' = [gg]) ∨ (q73 aggs args [] = false ∧ u = .int .i64 0 ∧ u2c bg av gv k9 w9 key args G')) := by
  have t1 := q2n F hT v1 key h1 r1.rg r1.wt
  have t2 := q2n F hT v2 way h2 r2.rg r2.wt
  have t3 := q2n F hT v3 args h3 r3.rg r3.wt
  rw [hk] at t1
  rw [hw9] at t2
  rw [hq] at t3
  have o1 := qnt key.size F key v1 (Nat.le_refl _) r1.ln r1.th h1
  have o3 := qnt args.size F args v3 (Nat.le_refl _) r3.ln r3.th h3
  obtain ⟨bm, om, gw, rfl, hm, hw⟩ := hG
  have hmg : q4g (gvM gv) k9 = none := by rw [q6f, hno]; rfl
  obtain ⟨aa, ca, rfl, hca, hpa⟩ := hA
  obtain ⟨a1, c1, rfl, -⟩ := h1
  obtain ⟨a2, c2, rfl, -⟩ := h2
  obtain ⟨a3, c3, rfl, hc3, hp3⟩ := h3
  refine Ct.enter Tryz.func10 rfl Tryz.ntmps10 rfl fun w0 a S => ?_
  revert a; refine go 5 ?_; intro Z hZ a S
  (refine wp_seq_k ?_; intro Z hZ)
  (replace S := qzs S)
  revert a; refine go 2 ?_; intro a S
  (refine wv S (q1b S rfl rfl rfl) ?_; clear S a; intro a S)
  revert a; revert Z; refine go 2 ?_; intro a S
  refine q03 S rfl ?_
  revert a; revert Z; refine go 4 ?_; intro Z hZ a S
  (refine wc0 S t1 ?_; clear S a; intro v9 a w hv S; subst hv; unfold tvV at S)
  revert a; revert Z; refine go 9 ?_; intro Z hZ a S
  (refine wc0 S t2 ?_; clear S a; intro v9 a w hv S; subst hv; unfold tvV at S)
  revert a; revert Z; refine go 9 ?_; intro Z hZ a S
  (refine wc0 S t3 ?_; clear S a; intro v9 a w hv S; subst hv; unfold tvV at S)
  revert a; revert Z; refine go 11 ?_; intro Z hZ Z hZ a S
  (refine wv S (q0j (c := false) (q09 S rfl) (by rfl)) ?_; clear S a; intro a S)
  revert a; refine go 4 ?_; intro a S
  (refine wv S (q0j (c := false) (q09 S rfl) (by rfl)) ?_; clear S a; intro a S)
  revert a; refine go 5 ?_; intro a S
  (refine wv S (q0j (c := false) (q09 S rfl) (by rfl)) ?_; clear S a; intro a S)
  revert a; revert Z; refine go 4 ?_; intro a S
  refine q03 S rfl ?_
  revert a; refine go 8 ?_; intro Z hZ a S
  (refine wv S (q0j (c := false) (q09 S rfl) (by (rw [bne_eq_false_iff_eq]; omega))) ?_; clear S a; intro a S)
  revert a; revert Z; refine go 3 ?_; intro a S
  refine q03 S rfl ?_
  revert a; revert Z; refine go 8 ?_; intro Z hZ a S
  (refine wv S (q3h (enc := kS) (k := k9) S rfl rfl rfl hm) ?_; clear S a; intro a S; rw [hmg] at S)
  (refine q0a S rfl rfl rfl rfl ?_; clear S a; intro b15 a w S)
  (refine wso S rfl rfl ?_; clear S; intro w S)
  revert a; revert Z; refine go 7 ?_; intro Z hZ Z hZ a S
  (refine wv S (qb4 (enc := kS) (k := w9) S rfl rfl rfl) ?_; clear S a; intro a S)
  revert a; refine go 3 ?_; intro a S
  skip
  revert a; revert Z; refine go 8 ?_; intro a S
  refine q03 S rfl ?_
  revert a; revert Z; refine go 13 ?_; intro Z hZ a S
  refine q04 (fun m a w' => ∃ (i : Nat), m = aggs.length - i ∧ i ≤ aggs.length ∧ (∀ j, j < i → q4n aggs args [] j = false) ∧ St 130 [(0, ptr bg), (1, .slice a1 key.len c1), (3, .slice a3 args.len c3), (9, .string (bs k9)), (11, .string (bs w9)), (15, ptr b15), (77, .slice aa aggs.length ca), (78, .int .i64 aggs.length), (79, .int .i64 i)] w0 F (keys [(bg, .cells ⟨[.slice aa aggs.length ca, .map (some bm)]⟩ 75 (0, 0)) :: (bm, om) :: gw]) F [[(b15, .cells ⟨[.slice none 0 0, .map none]⟩ 80 (0, 0))], [(bg, .cells ⟨[.slice aa aggs.length ca, .map (some bm)]⟩ 75 (0, 0))], [(bm, om)], gw] a w') ?_ ?_
  · (refine ⟨aggs.length, 0, by omega, Nat.zero_le _, (fun j h => absurd h (Nat.not_lt_zero _)), ?_⟩; refine S.keep ?_; exact zk)
  (clear S; rintro m a w ⟨i, rfl, hil, hall, S⟩)
  revert a; refine go 5 ?_; intro Z hZ a S
  refine q00 S rfl ?_ ?_ <;> intro h
  · refine wp_skip ?_
    (refine hZ _ _ ?_; clear hZ Z)
    (refine wp_seq_k ?_; intro Z hZ)
    replace hZ : ∀ (a' : Act) (w' : World), (q4n aggs args [] i = false ∧ St 130 [(0, ptr bg), (1, .slice a1 key.len c1), (3, .slice a3 args.len c3), (9, .string (bs k9)), (11, .string (bs w9)), (15, ptr b15), (77, .slice aa aggs.length ca), (78, .int .i64 aggs.length), (79, .int .i64 i)] w0 F (keys [(bg, .cells ⟨[.slice aa aggs.length ca, .map (some bm)]⟩ 75 (0, 0)) :: (bm, om) :: gw]) F [[(b15, .cells ⟨[.slice none 0 0, .map none]⟩ 80 (0, 0))], [(bg, .cells ⟨[.slice aa aggs.length ca, .map (some bm)]⟩ 75 (0, 0))], [(bm, om)], gw] a' w') → Z a' w' := (by
     (intro a w hM; refine hZ _ _ ?_; clear hZ Z; clear S; obtain ⟨htb, S⟩ := hM)
     revert a; refine go 4 ?_; intro a S
     change ∃ m', _ ∧ _
     (refine ⟨aggs.length - (i + 1), by omega, i + 1, rfl, by omega, (fun j hj => by rcases Nat.lt_or_eq_of_le (Nat.le_of_lt_succ hj) with h9 | h9; exact hall j h9; rw [h9]; exact htb), ?_⟩; refine S.keep ?_; exact zk))
    refine wp_block ?_
    (refine wp_seq_k ?_; intro Z hZ)
    (obtain ⟨b8, o8, hao8, s, cs1, hx, hcc, hR1⟩ := LiM.pos hpa (k := i) (by omega); rw [hao8] at S; obtain rfl : cs1 = _ := hR1; have hxd : aggs.getD i [] = s := (by rw [List.getD_eq_getElem?_getD, hx]; rfl); have hc1 : Cel F b8 (o8 + i * 1) (.string (bs s)) := hcc 0 _ rfl)
    revert a; refine go 3 ?_; intro a S
    (refine wv S (q05 S rfl rfl hc1) ?_; clear S a; intro a S)
    revert a; revert Z; refine go 10 ?_; intro Z hZ a S
    refine q00 S rfl ?_ ?_ <;> intro h
    · (refine wp_exit ?_; conv => whnf)
      (clear hZ Z; (refine hZ _ _ ?_))
      exact qwf
    refine wp_skip ?_
    (refine hZ _ _ ?_; clear hZ Z)
    (refine wp_seq_k ?_; intro Z hZ)
    (obtain ⟨b7, o7, hao, y, csy, vy, hy, hcy, hwy, hTy⟩ := TrM.pos hp3 (k := i) (by omega); rw [hao] at S; have hky := qa9 hy; have hwc := hwy.1; subst hwc; (simp only [List.cons_append, qaG] at hcy))
    revert a; refine go 5 ?_; intro a S
    (refine wv S (q05 S rfl rfl (hcy 0 _ rfl)) ?_; clear S a; intro a S)
    revert a; revert Z; refine go 8 ?_; intro Z hZ Z hZ a S
    refine wgd S ?_ ?_
    · (clear S; intro h S)
      revert a; revert Z; refine go 6 ?_; intro a S
      refine q00 S rfl ?_ ?_ <;> intro h
      · revert a; refine go 4 ?_; intro a S
        refine wp_ret ?_
        (first | (rw [← hao8] at S; replace S := qdn S.drop1) | (replace S : St _ _ _ _ _ F [[_], [_], [_], gw, [_], gk, ga] _ _ := St.permI S 7 rfl [3, 4, 5, 6, 1, 2, 0] (by decide); replace S := u72 S.drop1))
        refine q08 S (q0c Tryz.results10 (RV.tmp S rfl)) ?_
        exact u3v
      revert a; revert Z; refine go 5 ?_; intro Z hZ a S
      (refine q8q S rfl rfl rfl rfl rfl ?_; clear S a; intro b99 a w S)
      revert a; revert Z; refine go 3 ?_; intro a S
      refine q04 (fun m a w' => m = 0 ∧ St 130 [(0, ptr bg), (1, .slice a1 key.len c1), (3, .slice (some ⟨b7, o7, none⟩) args.len c3), (9, .string (bs k9)), (11, .string (bs w9)), (15, ptr b15), (77, .slice (some ⟨b8, o8, none⟩) aggs.length ca), (78, .int .i64 aggs.length), (79, .int .i64 i), (99, ptr b99)] w0 F (keys [(bg, .cells ⟨[.slice (some ⟨b8, o8, none⟩) aggs.length ca, .map (some bm)]⟩ 75 (0, 0)) :: (bm, om) :: gw]) F [[(b99, .mapIter none 0 #[] 0)], [(b15, .cells ⟨[.slice none 0 0, .map none]⟩ 80 (0, 0))], [(bg, .cells ⟨[.slice (some ⟨b8, o8, none⟩) aggs.length ca, .map (some bm)]⟩ 75 (0, 0))], [(bm, om)], gw] a w') ?_ ?_
      · (refine ⟨0, rfl, ?_⟩; refine S.keep ?_; exact zk)
      (clear S; rintro m a w ⟨rfl, S⟩)
      refine q1i fun Z hZ => ?_
      (refine q9i S rfl rfl rfl rfl rfl ?_; clear S a; intro a S)
      revert a; refine go 1 ?_; intro a S
      skip
      revert a; revert Z; refine go 2 ?_; intro a S
      (refine wp_seq_k ?_; intro Z hZ)
      refine q03 S rfl ?_
      (refine wp_exit ?_; conv => whnf)
      (clear hZ Z; (refine hZ _ _ ?_))
      exact qwf
    (clear S a; intro h a S)
    revert a; revert Z; refine go 4 ?_; intro a S
    refine q03 S rfl ?_
    revert a; revert Z; refine go 5 ?_; intro Z hZ a S
    (refine q8q S rfl rfl rfl rfl rfl ?_; clear S a; intro b99 a w S)
    revert a; revert Z; refine go 3 ?_; intro a S
    refine q04 (fun m a w' => m = 0 ∧ St 130 [(0, ptr bg), (1, .slice a1 key.len c1), (3, .slice (some ⟨b7, o7, none⟩) args.len c3), (9, .string (bs k9)), (11, .string (bs w9)), (15, ptr b15), (77, .slice (some ⟨b8, o8, none⟩) aggs.length ca), (78, .int .i64 aggs.length), (79, .int .i64 i), (99, ptr b99)] w0 F (keys [(bg, .cells ⟨[.slice (some ⟨b8, o8, none⟩) aggs.length ca, .map (some bm)]⟩ 75 (0, 0)) :: (bm, om) :: gw]) F [[(b99, .mapIter none 0 #[] 0)], [(b15, .cells ⟨[.slice none 0 0, .map none]⟩ 80 (0, 0))], [(bg, .cells ⟨[.slice (some ⟨b8, o8, none⟩) aggs.length ca, .map (some bm)]⟩ 75 (0, 0))], [(bm, om)], gw] a w') ?_ ?_
    · (refine ⟨0, rfl, ?_⟩; refine S.keep ?_; exact zk)
    (clear S; rintro m a w ⟨rfl, S⟩)
    refine q1i fun Z hZ => ?_
    (refine q9i S rfl rfl rfl rfl rfl ?_; clear S a; intro a S)
    revert a; refine go 1 ?_; intro a S
    skip
    revert a; revert Z; refine go 2 ?_; intro a S
    (refine wp_seq_k ?_; intro Z hZ)
    refine q03 S rfl ?_
    (refine wp_exit ?_; conv => whnf)
    (clear hZ Z; (refine hZ _ _ ?_))
    exact qwf
  (refine wp_exit ?_; conv => whnf)
  clear hZ Z
  revert a; revert Z; refine go 5 ?_; intro Z hZ Z hZ a S
  (refine wv S (q0j (c := true) (q9h S rfl rfl rfl) (by rfl)) ?_; clear S a; intro a S)
  revert a; revert Z; refine go 2 ?_; intro a S
  refine q0h S rfl ?_
  revert a; refine go 2 ?_; intro Z hZ a S
  (refine q17 S rfl rfl rfl rfl rfl rfl o1 rfl ?_; clear S a; intro uK G9 a w hv S; obtain ⟨gk, rfl, hOk⟩ := hv; obtain ⟨aK, cK, rfl, -⟩ := id hOk; (simp only [List.singleton_append] at S))
  (refine q6e kS S rfl rfl rfl rfl ?_; clear S a; intro b117 a w S)
  revert a; refine go 1 ?_; intro a S
  (refine wso S rfl rfl ?_; clear S; intro w S)
  revert a; revert Z; refine go 2 ?_; intro a S
  (refine q0k [0, 1, 2, 3, 4, 5] [3, 5] [] (.one 0 (.one 1 (.one 2 (.one 3 (.one 4 (.one 5 (.one 6 .nil))))))) [bg, b15] S mixed (by kernel_rfl) ?_; clear S; intro w S)
  revert a; refine go 7 ?_; intro a S
  (refine qda (enc := kS) (k := k9) S rfl rfl rfl rfl rfl rfl hm ?_; clear S; intro om2 w hm2 S; rw [q75 hmg] at hm2)
  revert a; revert Z; refine go 3 ?_; intro a S
  (refine wp_seq_k ?_; intro Z hZ)
  (refine q0k [0, 1, 2, 3] [1] [] (.one 0 (.one 1 (.one 2 (.one 3 (.one 4 (.one 5 .nil)))))) [b15] S mixed (by kernel_rfl) ?_; clear S; intro w S)
  revert a; refine go 5 ?_; intro a S
  (refine q17 S rfl rfl rfl rfl rfl rfl o3 rfl ?_; clear S a; intro uA G9 a w hv S; obtain ⟨ga, rfl, hOa⟩ := hv; obtain ⟨aA, cA, rfl, -⟩ := id hOa; (simp only [List.singleton_append] at S))
  revert a; refine go 2 ?_; intro a S
  (refine qda (enc := kS) (k := w9) S rfl rfl rfl rfl rfl rfl (MpO.nil kS) ?_; clear S; intro ow w how S)
  revert a; revert Z; refine go 7 ?_; intro a S
  refine wp_ret ?_
  (first | (rw [← hao8] at S; replace S := qdn S.drop1) | (replace S : St _ _ _ _ _ F [[_], [_], [_], gw, [_], gk, ga] _ _ := St.permI S 7 rfl [3, 4, 5, 6, 1, 2, 0] (by decide); replace S := u72 S.drop1))
  refine q08 S (q0c Tryz.results10 (RV.tmp S rfl)) ?_
  exact u3v
theorem qcm {enc : List UInt8 → Value} {es : List (List UInt8 × Value)} {b : Nat} {ob oi : Obj} {left : List (List UInt8 × Value)} {y : Option (List UInt8 × Value)} (h : NxO enc es b ob left y oi) (h2 : y.isSome = true) : ∃ p l1 l2, y = some p ∧ left = l1 ++ p :: l2 ∧ ItO enc es b ob (l1 ++ l2) (some p) oi := by
 rcases h with ⟨rfl, -⟩ | h
 ·cases h2
 ·exact h
theorem qha {enc : List UInt8 → Value} {es : List (List UInt8 × Value)} {b : Nat} {ob oi : Obj} {left : List (List UInt8 × Value)} {y : Option (List UInt8 × Value)} (h : NxO enc es b ob left y oi) (h2 : y.isSome = false) : left = [] := by
 rcases h with ⟨-, h⟩ | ⟨p, l1, l2, rfl, -⟩
 ·exact h
 ·cases h2
def u3d (bg : Nat) (av : Value) (gv : Gv) (k w : List UInt8) (args : Vf) (G' : List Grp) : Prop := ∃ av' gg' ga, G' = [gg', ga] ∧ OwR ga av' args ∧ GsS bg av (alU gv k fun e => ⟨e.kv, e.b, e.ws ++ [(w, av')]⟩) gg'
theorem qla {p : Prop} (h : p := by (first | (exact .inl ⟨by rw [hgs]; assumption, rfl, rfl⟩) | (exact .inr (.inl ⟨by rw [hgs]; assumption, qpr (by omega) (qu8 hxd (by assumption) (by omega) (by omega)), rfl, rfl⟩)) | (exact .inr (.inl ⟨by rw [hgs]; assumption, qpr (by omega) (by rw [hwe]; exact qsw hxd (by assumption) (by omega)), rfl, rfl⟩)) | (have hns : (alG ews w9).isSome = false := (by assumption); have hnn : q4g ews w9 = none := (by rw [hmw]; exact Option.isNone_iff_eq_none.1 (by rw [← Option.not_isSome, hns]; rfl)); rw [q75 hnn] at how2; have hgv : gvM (x1 ++ (k9, (⟨.slice akv kvn ckv, eb, ews ++ [(w9, .slice aA args.len cA)]⟩ : Ev)) :: x2) = gvM (x1 ++ (k9, (⟨.slice akv kvn ckv, eb, ews⟩ : Ev)) :: x2) := (by unfold gvM; rw [List.map_append, List.map_append]; rfl); refine .inr (.inr ⟨by rw [hgs]; assumption, qzx (fun j hj => hall j (by omega)), rfl, .slice aA args.len cA, _, ga, rfl, hOa, ?_⟩); rw [hup]; exact ⟨bm, om, g1 ++ (eb, ow2) :: g2, rfl, (by rw [hgv]; exact hm), WaS.join (e := ⟨.slice akv kvn ckv, eb, ews ++ [(w9, .slice aA args.len cA)]⟩) how2 hwb hwa⟩))) : p := h
theorem qlp {p : Prop} (h : p := by (rw [← hao8] at S; first | (refine ⟨qm3 hxd (by assumption), ?_⟩; refine S.keep ?_; exact zk) | (rw [← hao] at S; replace S := S.drop1; refine ⟨by (first | (rw [hwe]; exact qyy (by omega) (by omega)) | (exfalso; have h9 := qha hnx (by assumption); rw [h9] at hwlen; rw [hwe] at hwlen; cases hwlen)), ?_⟩; refine S.keep ?_; exact zk))) : p := h
theorem qt2 (F : q01) (hT : q50 F) (bg : Nat) (av : Value) (gv : Gv) (gg : Grp) (aggs : List (List UInt8)) (hG : GsS bg av gv gg) (hA : LiM F 1 StR av aggs) (key way args : Vf) (v1 v2 v3 : Value) (h1 : TrS F 4 VhR v1 key) (h2 : TrS F 4 VhR v2 way) (h3 : TrS F 4 VhR v3 args) (r1 : q2r key) (r2 : q2r way) (r3 : q2r args)
    (k9 w9 q9 : List UInt8) (hk : q13 key = some k9) (hw9 : q13 way = some w9) (hq : q13 args = some q9) (hln : args.len = aggs.length) (e : Ev) (en : En) (hsome : alG gv k9 = some e) (hkv : TrS F 4 VhR e.kv en.key) (hW : WsR F en.ways e.ws) (hne : en.ways ≠ []) (hlen : ∀ w ∈ en.ways, w.2.len = aggs.length) (hkind : ∀ w ∈ en.ways, ∀ w' ∈ en.ways, ∀ i, aggs.getD i [] = q5u → kAt w.2 i = kAt w'.2 i) :
    Ct Tryz.prog 10 [.pointer (some ⟨bg, 0, none⟩), v1, v2, v3] F [gg] (fun _ G' u => ((alG en.ways w9).isSome = true ∧ u = .int .i64 6 ∧ G' = [gg]) ∨ ((alG en.ways w9).isSome = false ∧ q73 aggs args en.ways = true ∧ u = .int .i64 70 ∧ G' = [gg]) ∨ ((alG en.ways w9).isSome = false ∧ q73 aggs args en.ways = false ∧ u = .int .i64 0 ∧ u3d bg av gv k9 w9 args G')) := by
  have t1 := q2n F hT v1 key h1 r1.rg r1.wt
  have t2 := q2n F hT v2 way h2 r2.rg r2.wt
  have t3 := q2n F hT v3 args h3 r3.rg r3.wt
  rw [hk] at t1
  rw [hw9] at t2
  rw [hq] at t3
  have o3 := qnt args.size F args v3 (Nat.le_refl _) r3.ln r3.th h3
  obtain ⟨bm, om, gw, rfl, hm, hw⟩ := hG
  obtain ⟨x1, x2, rfl, hx1, hup, -⟩ := q23 hsome
  obtain ⟨g1, ow, g2, rfl, how, hwa, hwb⟩ := WaS.split hw
  have hmg : q4g (gvM (x1 ++ (k9, e) :: x2)) k9 = some (evV e) := by rw [q6f, hsome]; rfl
  obtain ⟨kv, eb, ews⟩ := e
  obtain ⟨akv, ckv, rfl, -⟩ := hkv
  have hgs : (alG en.ways w9).isSome = (alG ews w9).isSome := by rcases hW.get w9 with ⟨q1, q2⟩ | ⟨_, _, q1, q2, -⟩ <;> rw [q1, q2] <;> rfl
  have hwlen := hW.len
  obtain ⟨aa, ca, rfl, hca, hpa⟩ := hA
  obtain ⟨a1, c1, rfl, -⟩ := h1
  obtain ⟨a2, c2, rfl, -⟩ := h2
  obtain ⟨a3, c3, rfl, hc3, hp3⟩ := h3
  generalize en.key.len = kvn at hm hmg hsome hup ⊢
  obtain ⟨w1, wr, hwe⟩ := List.exists_cons_of_ne_nil hne
  have hmw : q4g ews w9 = alG ews w9 := qgk ews w9
  refine Ct.enter Tryz.func10 rfl Tryz.ntmps10 rfl fun w0 a S => ?_
  revert a; refine go 5 ?_; intro Z hZ a S
  (refine wp_seq_k ?_; intro Z hZ)
  (replace S := u4a S)
  revert a; refine go 2 ?_; intro a S
  (refine wv S (q1b S rfl rfl rfl) ?_; clear S a; intro a S)
  revert a; revert Z; refine go 2 ?_; intro a S
  refine q03 S rfl ?_
  revert a; revert Z; refine go 4 ?_; intro Z hZ a S
  (refine wc0 S t1 ?_; clear S a; intro v9 a w hv S; subst hv; unfold tvV at S)
  revert a; revert Z; refine go 9 ?_; intro Z hZ a S
  (refine wc0 S t2 ?_; clear S a; intro v9 a w hv S; subst hv; unfold tvV at S)
  revert a; revert Z; refine go 9 ?_; intro Z hZ a S
  (refine wc0 S t3 ?_; clear S a; intro v9 a w hv S; subst hv; unfold tvV at S)
  revert a; revert Z; refine go 11 ?_; intro Z hZ Z hZ a S
  (refine wv S (q0j (c := false) (q09 S rfl) (by rfl)) ?_; clear S a; intro a S)
  revert a; refine go 4 ?_; intro a S
  (refine wv S (q0j (c := false) (q09 S rfl) (by rfl)) ?_; clear S a; intro a S)
  revert a; refine go 5 ?_; intro a S
  (refine wv S (q0j (c := false) (q09 S rfl) (by rfl)) ?_; clear S a; intro a S)
  revert a; revert Z; refine go 4 ?_; intro a S
  refine q03 S rfl ?_
  revert a; refine go 8 ?_; intro Z hZ a S
  (refine wv S (q0j (c := false) (q09 S rfl) (by (rw [bne_eq_false_iff_eq]; omega))) ?_; clear S a; intro a S)
  revert a; revert Z; refine go 3 ?_; intro a S
  refine q03 S rfl ?_
  revert a; revert Z; refine go 8 ?_; intro Z hZ a S
  (refine wv S (q3h (enc := kS) (k := k9) S rfl rfl rfl hm) ?_; clear S a; intro a S; rw [hmg] at S; unfold evV at S)
  (refine q0a S rfl rfl rfl rfl ?_; clear S a; intro b15 a w S)
  (refine wso S rfl rfl ?_; clear S; intro w S)
  revert a; revert Z; refine go 7 ?_; intro Z hZ Z hZ a S
  (refine wv S (q3h (enc := kS) (k := w9) S rfl rfl rfl how) ?_; clear S a; intro a S; rw [hmw] at S)
  revert a; revert Z; refine go 11 ?_; intro a S
  refine q00 S rfl ?_ ?_ <;> intro h
  · revert a; refine go 4 ?_; intro a S
    refine wp_ret ?_
    (first | (replace S : St _ _ _ _ _ F [[_], [_], [_], g1, [_], g2, ga] _ _ := St.permI S 7 rfl [1, 2, 3, 4, 5, 6, 0] (by decide); replace S := q7x S.drop1) | (rw [← hao8] at S; first | (replace S := q7x S.drop1.drop1) | (replace S := q7x S.drop1)) | (replace S := q7x S.drop1))
    refine q08 S (q0c Tryz.results10 (RV.tmp S rfl)) ?_
    exact qla
  revert a; revert Z; refine go 13 ?_; intro Z hZ a S
  refine q04 (fun m a w' => ∃ (i : Nat), m = aggs.length - i ∧ i ≤ aggs.length ∧ (∀ j, j < i → q4n aggs args en.ways j = false) ∧ St 130 [(0, ptr bg), (1, .slice a1 key.len c1), (3, .slice a3 args.len c3), (9, .string (bs k9)), (11, .string (bs w9)), (15, ptr b15), (77, .slice aa aggs.length ca), (78, .int .i64 aggs.length), (79, .int .i64 i)] w0 F (keys [(bg, .cells ⟨[.slice aa aggs.length ca, .map (some bm)]⟩ 75 (0, 0)) :: (bm, om) :: (g1 ++ (eb, ow) :: g2)]) F [[(b15, .cells ⟨[.slice akv kvn ckv, .map (some eb)]⟩ 80 (0, 0))], [(bg, .cells ⟨[.slice aa aggs.length ca, .map (some bm)]⟩ 75 (0, 0))], [(bm, om)], g1, [(eb, ow)], g2] a w') ?_ ?_
  · (refine ⟨aggs.length, 0, by omega, Nat.zero_le _, (fun j h => absurd h (Nat.not_lt_zero _)), ?_⟩; refine S.keep ?_; exact zk)
  (clear S; rintro m a w ⟨i, rfl, hil, hall, S⟩)
  revert a; refine go 5 ?_; intro Z hZ a S
  refine q00 S rfl ?_ ?_ <;> intro h
  · refine wp_skip ?_
    (refine hZ _ _ ?_; clear hZ Z)
    (refine wp_seq_k ?_; intro Z hZ)
    replace hZ : ∀ (a' : Act) (w' : World), (q4n aggs args en.ways i = false ∧ St 130 [(0, ptr bg), (1, .slice a1 key.len c1), (3, .slice a3 args.len c3), (9, .string (bs k9)), (11, .string (bs w9)), (15, ptr b15), (77, .slice aa aggs.length ca), (78, .int .i64 aggs.length), (79, .int .i64 i)] w0 F (keys [(bg, .cells ⟨[.slice aa aggs.length ca, .map (some bm)]⟩ 75 (0, 0)) :: (bm, om) :: (g1 ++ (eb, ow) :: g2)]) F [[(b15, .cells ⟨[.slice akv kvn ckv, .map (some eb)]⟩ 80 (0, 0))], [(bg, .cells ⟨[.slice aa aggs.length ca, .map (some bm)]⟩ 75 (0, 0))], [(bm, om)], g1, [(eb, ow)], g2] a' w') → Z a' w' := (by
     (intro a w hM; refine hZ _ _ ?_; clear hZ Z; clear S; obtain ⟨htb, S⟩ := hM)
     revert a; refine go 4 ?_; intro a S
     change ∃ m', _ ∧ _
     (refine ⟨aggs.length - (i + 1), by omega, i + 1, rfl, by omega, (fun j hj => by rcases Nat.lt_or_eq_of_le (Nat.le_of_lt_succ hj) with h9 | h9; exact hall j h9; rw [h9]; exact htb), ?_⟩; refine S.keep ?_; exact zk))
    refine wp_block ?_
    (refine wp_seq_k ?_; intro Z hZ)
    (obtain ⟨b8, o8, hao8, s, cs1, hx, hcc, hR1⟩ := LiM.pos hpa (k := i) (by omega); rw [hao8] at S; obtain rfl : cs1 = _ := hR1; have hxd : aggs.getD i [] = s := (by rw [List.getD_eq_getElem?_getD, hx]; rfl); have hc1 : Cel F b8 (o8 + i * 1) (.string (bs s)) := hcc 0 _ rfl)
    revert a; refine go 3 ?_; intro a S
    (refine wv S (q05 S rfl rfl hc1) ?_; clear S a; intro a S)
    revert a; revert Z; refine go 10 ?_; intro Z hZ a S
    refine q00 S rfl ?_ ?_ <;> intro h
    · (refine wp_exit ?_; conv => whnf)
      (clear hZ Z; (refine hZ _ _ ?_))
      exact qlp
    refine wp_skip ?_
    (refine hZ _ _ ?_; clear hZ Z)
    (refine wp_seq_k ?_; intro Z hZ)
    (obtain ⟨b7, o7, hao, y7, csy, vy, hy, hcy, hwy, hTy⟩ := TrM.pos hp3 (k := i) (by omega); rw [hao] at S; have hky := qa9 hy; have hwc := hwy.1; subst hwc; (simp only [List.cons_append, qaG] at hcy))
    revert a; refine go 5 ?_; intro a S
    (refine wv S (q05 S rfl rfl (hcy 0 _ rfl)) ?_; clear S a; intro a S)
    revert a; revert Z; refine go 8 ?_; intro Z hZ Z hZ a S
    refine wgd S ?_ ?_
    · (clear S; intro h S)
      revert a; revert Z; refine go 6 ?_; intro a S
      refine q00 S rfl ?_ ?_ <;> intro h
      · revert a; refine go 4 ?_; intro a S
        refine wp_ret ?_
        (first | (replace S : St _ _ _ _ _ F [[_], [_], [_], g1, [_], g2, ga] _ _ := St.permI S 7 rfl [1, 2, 3, 4, 5, 6, 0] (by decide); replace S := q7x S.drop1) | (rw [← hao8] at S; first | (replace S := q7x S.drop1.drop1) | (replace S := q7x S.drop1)) | (replace S := q7x S.drop1))
        refine q08 S (q0c Tryz.results10 (RV.tmp S rfl)) ?_
        exact qla
      revert a; revert Z; refine go 5 ?_; intro Z hZ a S
      (refine q4d (enc := kS) S rfl rfl rfl rfl rfl (by exact S.has inferInstance) how ?_; clear S a; intro b99 oi a w hit S)
      revert a; revert Z; refine go 3 ?_; intro a S
      refine q04 (fun m a w' => ∃ (oi : Obj), m = 0 ∧ ItO kS ews eb ow ews none oi ∧ St 130 [(0, ptr bg), (1, .slice a1 key.len c1), (3, .slice (some ⟨b7, o7, none⟩) args.len c3), (9, .string (bs k9)), (11, .string (bs w9)), (15, ptr b15), (18, .int .i64 i), (20, .int .u8 (y7.1.k : Int)), (77, .slice (some ⟨b8, o8, none⟩) aggs.length ca), (78, .int .i64 aggs.length), (79, .int .i64 i), (99, ptr b99)] w0 F (keys [(bg, .cells ⟨[.slice (some ⟨b8, o8, none⟩) aggs.length ca, .map (some bm)]⟩ 75 (0, 0)) :: (bm, om) :: (g1 ++ (eb, ow) :: g2)]) F [[(b99, oi)], [(b15, .cells ⟨[.slice akv kvn ckv, .map (some eb)]⟩ 80 (0, 0))], [(bg, .cells ⟨[.slice (some ⟨b8, o8, none⟩) aggs.length ca, .map (some bm)]⟩ 75 (0, 0))], [(bm, om)], g1, [(eb, ow)], g2] a w') ?_ ?_
      · (refine ⟨0, oi, rfl, hit, ?_⟩; refine S.keep ?_; exact zk)
      (clear S hit; rintro m a w ⟨oi, rfl, hit, S⟩)
      refine q1i fun Z hZ => ?_
      (refine q7j (enc := kS) S rfl rfl rfl rfl rfl (by exact S.has inferInstance) hit ?_; clear S a; intro y oi2 a w hnx S)
      revert a; revert Z; refine go 4 ?_; intro Z hZ a S
      refine q00 S rfl ?_ ?_ <;> intro h
      · revert a; revert Z; refine go 3 ?_; intro a S
        (refine wp_seq_k ?_; intro Z hZ)
        (obtain ⟨⟨pt, pv⟩, l1, l2, rfl, hpl, hit2⟩ := qcm hnx (by assumption); obtain ⟨qw, hqm, -, hTq⟩ := hW.mem (pt, pv) (by rw [hpl]; simp); obtain ⟨aQ, cQ, hqe, hcQ, hpQ⟩ := hTq; (dsimp only at hqe); subst hqe; have hql := hlen qw hqm; obtain ⟨b6, o6, hao6, z, csz, vz, hz, hcz, hwz, hTz⟩ := TrM.pos hpQ (k := i) (by omega); subst hao6; have hkz := qa9 hz; have hwd := hwz.1; subst hwd; (simp only [List.cons_append, qaG] at hcz); have hk1 := hkind w1 (by rw [hwe]; simp) qw hqm i (by rw [hxd]; assumption))
        refine wp_region_lit ?_
        (refine wv S (q72 (enc := kS) S rfl rfl (by exact S.has inferInstance) hit2) ?_; clear S a; intro a S)
        revert a; revert Z; refine go 10 ?_; intro Z hZ Z hZ a S
        (refine wv S (q05 S rfl rfl (hcz 0 _ rfl)) ?_; clear S a; intro a S)
        revert a; revert Z; refine go 4 ?_; intro a S
        refine q00 S rfl ?_ ?_ <;> intro h
        · revert a; refine go 4 ?_; intro a S
          refine wp_ret ?_
          (first | (replace S : St _ _ _ _ _ F [[_], [_], [_], g1, [_], g2, ga] _ _ := St.permI S 7 rfl [1, 2, 3, 4, 5, 6, 0] (by decide); replace S := q7x S.drop1) | (rw [← hao8] at S; first | (replace S := q7x S.drop1.drop1) | (replace S := q7x S.drop1)) | (replace S := q7x S.drop1))
          refine q08 S (q0c Tryz.results10 (RV.tmp S rfl)) ?_
          exact qla
        revert a; revert Z; refine go 3 ?_; intro a S
        (refine hZ _ _ ?_)
        exact qlp
      (refine wp_exit ?_; conv => whnf)
      (clear hZ Z; (refine hZ _ _ ?_))
      exact qlp
    (clear S a; intro h a S)
    revert a; revert Z; refine go 4 ?_; intro a S
    refine q03 S rfl ?_
    revert a; revert Z; refine go 5 ?_; intro Z hZ a S
    (refine q4d (enc := kS) S rfl rfl rfl rfl rfl (by exact S.has inferInstance) how ?_; clear S a; intro b99 oi a w hit S)
    revert a; revert Z; refine go 3 ?_; intro a S
    refine q04 (fun m a w' => ∃ (oi : Obj), m = 0 ∧ ItO kS ews eb ow ews none oi ∧ St 130 [(0, ptr bg), (1, .slice a1 key.len c1), (3, .slice (some ⟨b7, o7, none⟩) args.len c3), (9, .string (bs k9)), (11, .string (bs w9)), (15, ptr b15), (18, .int .i64 i), (20, .int .u8 (y7.1.k : Int)), (77, .slice (some ⟨b8, o8, none⟩) aggs.length ca), (78, .int .i64 aggs.length), (79, .int .i64 i), (99, ptr b99)] w0 F (keys [(bg, .cells ⟨[.slice (some ⟨b8, o8, none⟩) aggs.length ca, .map (some bm)]⟩ 75 (0, 0)) :: (bm, om) :: (g1 ++ (eb, ow) :: g2)]) F [[(b99, oi)], [(b15, .cells ⟨[.slice akv kvn ckv, .map (some eb)]⟩ 80 (0, 0))], [(bg, .cells ⟨[.slice (some ⟨b8, o8, none⟩) aggs.length ca, .map (some bm)]⟩ 75 (0, 0))], [(bm, om)], g1, [(eb, ow)], g2] a w') ?_ ?_
    · (refine ⟨0, oi, rfl, hit, ?_⟩; refine S.keep ?_; exact zk)
    (clear S hit; rintro m a w ⟨oi, rfl, hit, S⟩)
    refine q1i fun Z hZ => ?_
    (refine q7j (enc := kS) S rfl rfl rfl rfl rfl (by exact S.has inferInstance) hit ?_; clear S a; intro y oi2 a w hnx S)
    revert a; revert Z; refine go 4 ?_; intro Z hZ a S
    refine q00 S rfl ?_ ?_ <;> intro h
    · revert a; revert Z; refine go 3 ?_; intro a S
      (refine wp_seq_k ?_; intro Z hZ)
      (obtain ⟨⟨pt, pv⟩, l1, l2, rfl, hpl, hit2⟩ := qcm hnx (by assumption); obtain ⟨qw, hqm, -, hTq⟩ := hW.mem (pt, pv) (by rw [hpl]; simp); obtain ⟨aQ, cQ, hqe, hcQ, hpQ⟩ := hTq; (dsimp only at hqe); subst hqe; have hql := hlen qw hqm; obtain ⟨b6, o6, hao6, z, csz, vz, hz, hcz, hwz, hTz⟩ := TrM.pos hpQ (k := i) (by omega); subst hao6; have hkz := qa9 hz; have hwd := hwz.1; subst hwd; (simp only [List.cons_append, qaG] at hcz); have hk1 := hkind w1 (by rw [hwe]; simp) qw hqm i (by rw [hxd]; assumption))
      refine wp_region_lit ?_
      (refine wv S (q72 (enc := kS) S rfl rfl (by exact S.has inferInstance) hit2) ?_; clear S a; intro a S)
      revert a; revert Z; refine go 10 ?_; intro Z hZ Z hZ a S
      (refine wv S (q05 S rfl rfl (hcz 0 _ rfl)) ?_; clear S a; intro a S)
      revert a; revert Z; refine go 4 ?_; intro a S
      refine q00 S rfl ?_ ?_ <;> intro h
      · revert a; refine go 4 ?_; intro a S
        refine wp_ret ?_
        (first | (replace S : St _ _ _ _ _ F [[_], [_], [_], g1, [_], g2, ga] _ _ := St.permI S 7 rfl [1, 2, 3, 4, 5, 6, 0] (by decide); replace S := q7x S.drop1) | (rw [← hao8] at S; first | (replace S := q7x S.drop1.drop1) | (replace S := q7x S.drop1)) | (replace S := q7x S.drop1))
        refine q08 S (q0c Tryz.results10 (RV.tmp S rfl)) ?_
        exact qla
      revert a; revert Z; refine go 3 ?_; intro a S
      (refine hZ _ _ ?_)
      exact qlp
    (refine wp_exit ?_; conv => whnf)
    (clear hZ Z; (refine hZ _ _ ?_))
    exact qlp
  (refine wp_exit ?_; conv => whnf)
  clear hZ Z
  revert a; revert Z; refine go 5 ?_; intro Z hZ Z hZ a S
  (refine wv S (q0j (c := false) (q9h S rfl rfl rfl) (by rfl)) ?_; clear S a; intro a S)
  revert a; revert Z; refine go 2 ?_; intro a S
  refine q03 S rfl ?_
  refine wp_skip ?_
  (refine hZ _ _ ?_; clear hZ Z)
  (refine wp_seq_k ?_; intro Z hZ)
  (refine q0k [0, 1, 2, 3] [1] [] (.one 0 (.one 1 (.one 2 (.one 3 (.one 4 (.one 5 .nil)))))) [b15] S mixed (by kernel_rfl) ?_; clear S; intro w S)
  revert a; refine go 5 ?_; intro a S
  (refine q17 S rfl rfl rfl rfl rfl rfl o3 rfl ?_; clear S a; intro uA G9 a w hv S; obtain ⟨ga, rfl, hOa⟩ := hv; obtain ⟨aA, cA, rfl, -⟩ := id hOa; (simp only [List.singleton_append] at S))
  revert a; refine go 2 ?_; intro a S
  (refine qda (enc := kS) (k := w9) S rfl rfl rfl rfl rfl rfl how ?_; clear S; intro ow2 w how2 S)
  revert a; revert Z; refine go 7 ?_; intro a S
  refine wp_ret ?_
  (first | (replace S : St _ _ _ _ _ F [[_], [_], [_], g1, [_], g2, ga] _ _ := St.permI S 7 rfl [1, 2, 3, 4, 5, 6, 0] (by decide); replace S := q7x S.drop1) | (rw [← hao8] at S; first | (replace S := q7x S.drop1.drop1) | (replace S := q7x S.drop1)) | (replace S := q7x S.drop1))
  refine q08 S (q0c Tryz.results10 (RV.tmp S rfl)) ?_
  exact qla
section
variable {n : Sz} {L : List (Nat × Value)} {w0 : World} {F0 : q01} {K0 : List Nat} {F : q01} {R : List Grp} {p q r : Nat × Obj} {g g1 g2 : Grp} {a : Act} {w : World}
theorem qwy (S : St n L w0 F0 K0 F ([p] :: [q] :: g1 :: [r] :: g2 :: R) a w) : St n L w0 F0 K0 F ((p :: q :: (g1 ++ g2)) :: R) a w := ⟨S.fr, S.tr.sub (by simp)⟩
end
theorem qzi {p : Prop} (h : p := by (refine ⟨?_, rfl⟩; first | (rw [if_pos ⟨by assumption, by assumption⟩]) | (rw [if_neg (fun h9 => by obtain ⟨h8, h7⟩ := h9; simp_all)]))) : p := h
theorem qy3 (F : q01) (hT : q50 F) (bg : Nat) (av : Value) (gv : Gv) (gg : Grp) (hG : GsS bg av gv gg) (key way : Vf) (v1 v2 : Value) (h1 : TrS F 4 VhR v1 key) (h2 : TrS F 4 VhR v2 way) (r1 : q2r key) (r2 : q2r way)
  (hno : ∀ k9 w9, q13 key = some k9 → q13 way = some w9 → alG gv k9 = none) (hav : av.oneCell' = true) :
  Ct Tryz.prog 11 [.pointer (some ⟨bg, 0, none⟩), v1, v2] F [gg] (fun _ G' u => u = .int .i64 (if (q13 key).isSome = true ∧ (q13 way).isSome = true then 5 else 4) ∧ G' = [gg]) := by
 have t1 := q2n F hT v1 key h1 r1.rg r1.wt
 have t2 := q2n F hT v2 way h2 r2.rg r2.wt
 obtain ⟨bm, om, gw, rfl, hm, hw⟩ := hG
 obtain ⟨a1, c1, rfl, -⟩ := h1
 obtain ⟨a2, c2, rfl, -⟩ := h2
 refine Ct.enter Tryz.func11 rfl Tryz.ntmps11 rfl fun w0 a S => ?_
 revert a; refine go 5 ?_; intro Z hZ a S
 (refine wp_seq_k ?_; intro Z hZ)
 (replace S := qzs S)
 revert a; refine go 2 ?_; intro a S
 (refine wv S (q1b S rfl rfl rfl) ?_; clear S a; intro a S)
 revert a; revert Z; refine go 2 ?_; intro a S
 refine q03 S rfl ?_
 revert a; revert Z; refine go 4 ?_; intro Z hZ a S
 (refine wc0 S t1 ?_; clear S a; intro v9 a w hv S; subst hv; unfold tvV at S)
 revert a; revert Z; refine go 9 ?_; intro Z hZ a S
 (refine wc0 S t2 ?_; clear S a; intro v9 a w hv S; subst hv; unfold tvV at S)
 revert a; revert Z; refine go 12 ?_; intro Z hZ Z hZ a S
 refine wgd S ?_ ?_
 ·(clear S; intro h S)
  revert a; revert Z; refine go 6 ?_; intro a S
  refine q00 S rfl ?_ ?_ <;> intro h
  ·revert a; refine go 4 ?_; intro a S
   refine wp_ret ?_
   (first | (replace S := qdn S.drop1) | (replace S := qdn S))
   refine q08 S (q0c Tryz.results11 (RV.tmp S rfl)) ?_
   exact qzi
  refine wp_skip ?_
  (refine hZ _ _ ?_; clear hZ Z)
  (refine wp_seq_k ?_; intro Z hZ)
  (obtain ⟨k9, hk⟩ := Option.isSome_iff_exists.1 (by assumption : (q13 key).isSome = true); obtain ⟨w9, hw9⟩ := Option.isSome_iff_exists.1 (by assumption : (q13 way).isSome = true); have hmg : q4g (gvM gv) k9 = none := (by rw [q6f, hno k9 w9 hk hw9]; rfl); rw [hk, hw9] at S)
  revert a; refine go 6 ?_; intro a S
  (refine wv S (q3h (enc := kS) (k := k9) S rfl rfl rfl hm) ?_; clear S a; intro a S; rw [hmg] at S)
  (refine q0a S rfl rfl rfl rfl ?_; clear S a; intro b11 a w S)
  (refine wso S rfl rfl ?_; clear S; intro w S)
  revert a; revert Z; refine go 7 ?_; intro Z hZ Z hZ a S
  (refine wv S (qb4 (enc := kS) (k := w9) S rfl rfl rfl) ?_; clear S a; intro a S)
  revert a; revert Z; refine go 9 ?_; intro Z hZ a S
  (refine wv S (q0j (c := true) (q09 S rfl) (by rfl)) ?_; clear S a; intro a S)
  revert a; revert Z; refine go 2 ?_; intro a S
  refine q0h S rfl ?_
  revert a; refine go 4 ?_; intro a S
  refine wp_ret ?_
  (first | (replace S := qdn S.drop1) | (replace S := qdn S))
  refine q08 S (q0c Tryz.results11 (RV.tmp S rfl)) ?_
  exact qzi
 (clear S a; intro h a S)
 revert a; revert Z; refine go 4 ?_; intro a S
 refine q0h S rfl ?_
 revert a; refine go 4 ?_; intro a S
 refine wp_ret ?_
 (first | (replace S := qdn S.drop1) | (replace S := qdn S))
 refine q08 S (q0c Tryz.results11 (RV.tmp S rfl)) ?_
 exact qzi
theorem qz5 {p : Prop} (h : p := by (first | (exact .inl ⟨by assumption, rfl, rfl⟩) | (refine .inr ⟨by assumption, rfl, _, rfl, ?_⟩; first | (rw [if_pos (List.eq_nil_of_length_eq_zero hz), hdl]; exact ⟨bm, om2, g1 ++ g2, rfl, hm2, WaS.app hwb hwa⟩) | (have hnz : ¬ alD ews w9 = [] := (fun h9 => by have h8 := congrArg List.length h9; rw [qaD] at h8; omega); rw [if_neg hnz, hup]; have hgv : gvM (x1 ++ (k9, (⟨.slice akv kvn ckv, eb, alD ews w9⟩ : Ev)) :: x2) = gvM (x1 ++ (k9, (⟨.slice akv kvn ckv, eb, ews⟩ : Ev)) :: x2) := (by unfold gvM; rw [List.map_append, List.map_append]; rfl); exact ⟨bm, om, g1 ++ (eb, ow2) :: g2, rfl, (by rw [hgv]; exact hm), WaS.join (e := ⟨.slice akv kvn ckv, eb, alD ews w9⟩) how2 hwb hwa⟩)))) : p := h
theorem qts (F : q01) (hT : q50 F) (bg : Nat) (av : Value) (gv : Gv) (gg : Grp) (hG : GsS bg av gv gg) (key way : Vf) (v1 v2 : Value) (h1 : TrS F 4 VhR v1 key) (h2 : TrS F 4 VhR v2 way) (r1 : q2r key) (r2 : q2r way)
  (k9 w9 : List UInt8) (hk : q13 key = some k9) (hw9 : q13 way = some w9) (e : Ev) (en : En) (hsome : alG gv k9 = some e) (hkv : TrS F 4 VhR e.kv en.key) (hav : av.oneCell' = true) :
  Ct Tryz.prog 11 [.pointer (some ⟨bg, 0, none⟩), v1, v2] F [gg] (fun _ G' u => ((alG e.ws w9).isSome = false ∧ u = .int .i64 5 ∧ G' = [gg]) ∨ ((alG e.ws w9).isSome = true ∧ u = .int .i64 0 ∧ ∃ gg', G' = [gg'] ∧ GsS bg av (if alD e.ws w9 = [] then alD gv k9 else alU gv k9 fun e => ⟨e.kv, e.b, alD e.ws w9⟩) gg')) := by
 have t1 := q2n F hT v1 key h1 r1.rg r1.wt
 have t2 := q2n F hT v2 way h2 r2.rg r2.wt
 rw [hk] at t1
 rw [hw9] at t2
 obtain ⟨bm, om, gw, rfl, hm, hw⟩ := hG
 obtain ⟨x1, x2, rfl, hx1, hup, hdl⟩ := q23 hsome
 obtain ⟨g1, ow, g2, rfl, how, hwa, hwb⟩ := WaS.split hw
 have hmg : q4g (gvM (x1 ++ (k9, e) :: x2)) k9 = some (evV e) := by rw [q6f, hsome]; rfl
 obtain ⟨kv, eb, ews⟩ := e
 obtain ⟨akv, ckv, rfl, -⟩ := hkv
 obtain ⟨a1, c1, rfl, -⟩ := h1
 obtain ⟨a2, c2, rfl, -⟩ := h2
 generalize en.key.len = kvn at hm hmg hsome hup hdl ⊢
 have hmw : q4g ews w9 = alG ews w9 := qgk ews w9
 refine Ct.enter Tryz.func11 rfl Tryz.ntmps11 rfl fun w0 a S => ?_
 revert a; refine go 5 ?_; intro Z hZ a S
 (refine wp_seq_k ?_; intro Z hZ)
 (replace S := u4a S)
 revert a; refine go 2 ?_; intro a S
 (refine wv S (q1b S rfl rfl rfl) ?_; clear S a; intro a S)
 revert a; revert Z; refine go 2 ?_; intro a S
 refine q03 S rfl ?_
 revert a; revert Z; refine go 4 ?_; intro Z hZ a S
 (refine wc0 S t1 ?_; clear S a; intro v9 a w hv S; subst hv; unfold tvV at S)
 revert a; revert Z; refine go 9 ?_; intro Z hZ a S
 (refine wc0 S t2 ?_; clear S a; intro v9 a w hv S; subst hv; unfold tvV at S)
 revert a; revert Z; refine go 10 ?_; intro Z hZ Z hZ a S
 (refine wv S (q0j (c := false) (q09 S rfl) (by rfl)) ?_; clear S a; intro a S)
 revert a; refine go 4 ?_; intro a S
 (refine wv S (q0j (c := false) (q09 S rfl) (by rfl)) ?_; clear S a; intro a S)
 revert a; revert Z; refine go 3 ?_; intro a S
 refine q03 S rfl ?_
 revert a; revert Z; refine go 8 ?_; intro Z hZ a S
 (refine wv S (q3h (enc := kS) (k := k9) S rfl rfl rfl hm) ?_; clear S a; intro a S; rw [hmg] at S; unfold evV at S)
 (refine q0a S rfl rfl rfl rfl ?_; clear S a; intro b11 a w S)
 (refine wso S rfl rfl ?_; clear S; intro w S)
 revert a; revert Z; refine go 7 ?_; intro Z hZ Z hZ a S
 (refine wv S (q3h (enc := kS) (k := w9) S rfl rfl rfl how) ?_; clear S a; intro a S; rw [hmw] at S)
 revert a; revert Z; refine go 12 ?_; intro a S
 refine q00 S rfl ?_ ?_ <;> intro h
 ·revert a; refine go 4 ?_; intro a S
  refine wp_ret ?_
  (first | (have hz : (alD ews w9).length = 0 := (by omega); replace S := qwy S.drop1) | (replace S := q7x S.drop1))
  refine q08 S (q0c Tryz.results11 (RV.tmp S rfl)) ?_
  exact qz5
 revert a; revert Z; refine go 6 ?_; intro Z hZ a S
 (refine qhq (enc := kS) (k := w9) S rfl rfl rfl rfl rfl rfl how ?_; clear S; intro ow2 w how2 S; rw [qly] at how2)
 revert a; revert Z; refine go 6 ?_; intro Z hZ Z hZ a S
 (refine wv S (qe4 (enc := kS) S rfl rfl rfl how2) ?_; clear S a; intro a S)
 revert a; revert Z; refine go 3 ?_; intro a S
 refine q00 S rfl ?_ ?_ <;> intro h
 ·revert a; refine go 6 ?_; intro a S
  (refine qhq (enc := kS) (k := k9) S rfl rfl rfl rfl rfl rfl hm ?_; clear S; intro om2 w hm2 S; rw [qlm, hdl] at hm2)
  revert a; revert Z; refine go 6 ?_; intro a S
  refine wp_ret ?_
  (first | (have hz : (alD ews w9).length = 0 := (by omega); replace S := qwy S.drop1) | (replace S := q7x S.drop1))
  refine q08 S (q0c Tryz.results11 (RV.tmp S rfl)) ?_
  exact qz5
 revert a; revert Z; refine go 6 ?_; intro a S
 refine wp_ret ?_
 (first | (have hz : (alD ews w9).length = 0 := (by omega); replace S := qwy S.drop1) | (replace S := q7x S.drop1))
 refine q08 S (q0c Tryz.results11 (RV.tmp S rfl)) ?_
 exact qz5
