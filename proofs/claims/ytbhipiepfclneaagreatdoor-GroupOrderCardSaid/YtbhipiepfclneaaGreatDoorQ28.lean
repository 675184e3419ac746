/- Walks. -/
import Derived.Test.YtbhipiepfclneaaGreatDoorQ15
import Derived.Test.YtbhipiepfclneaaGreatDoorQ14
import Derived.Test.YtbhipiepfclneaaGreatDoorQ27
set_option maxHeartbeats 8000000
namespace Go.Proofs.YtbhipiepfclneaaGreatDoor
open Go Go.Wk Go.Un Go.De Go.Num
set_option linter.unusedSimpArgs false
set_option linter.unusedVariables false
attribute [local irreducible] Go.wpList Go.Code.wp Go.wpStill Go.Wk.wpPre Go.bodyPost Go.Calls Go.Wk.Ct Go.Wk.OwnS Go.Wk.wpG Go.Wk.wpM
def SmC (n : Nat) : Prop := ∀ (F : Heap) (x y : Vv) (cs cs2 : List Value), x.2.size < n → VaC F cs x.1 x.2 → VaC F cs2 y.1 y.2 → Ct Tryz.prog 41 [.agg ⟨cs⟩, .agg ⟨cs2⟩] F [] (fun _ _ u => u = .bool (sameV x y))
theorem zzSa0 {p : Prop} (h : p := by (congr 1; first | (rw [sameL_len (by omega)]; done) | (rw [← hfp, Rose.drop_len (by omega), Rose.drop_len (by omega)]; rfl) | (rw [← hfp, sameL_drop hx hy, (by assumption : sameV x y = false), Bool.false_and]; done) | trace_state)) : p := h
theorem sameRowCt {n : Nat} (hC : SmC n) (F : Heap) (l m : Vf) (v u : Value) (hn : l.size ≤ n) (hv : TrS F 4 VhR v l) (hu : TrS F 4 VhR u m) : Ct Tryz.prog 18 [v, u] F [] (fun _ _ u => u = .bool (sameL l m)) := by
 obtain ⟨ao, cap, rfl, hcap, hpos⟩ := hv
 obtain ⟨ao2, cap2, rfl, hcap2, hpos2⟩ := hu
 refine Ct.enter Tryz.func18 rfl Tryz.ntmps18 rfl fun w0 a S => ?_
 (revert S a; refine go 13 ?_; intro Z hZ a S)
 refine wpc_sp S rfl ?_ ?_ <;> intro h
 ·(revert S a; refine go 4 ?_; intro a S)
  refine wp_ret (fr1 S Tryz.results18 ?_)
  exact zzSa0
 (revert S a; revert hZ Z; refine go 8 ?_; intro Z hZ a S)
 refine wpc_loop (fun q a w' => ∃ (k : Nat), q = l.len - k ∧ k ≤ l.len ∧ sameL (l.drop k) (m.drop k) = sameL l m ∧ St 27 [(0, .slice ao l.len cap), (1, .slice ao2 m.len cap2), (5, .int .i64 k)] w0 F [] F [] a w') ?_ ?_
 ·(have hlm : l.len = m.len := (by omega); refine ⟨l.len, 0, by omega, Nat.zero_le _, rfl, ?_⟩; refine S.keep ?_; exact zk)
 (clear S; rintro q a w ⟨k, rfl, hkl, hfp, S⟩)
 (revert S a; refine go 8 ?_; intro Z hZ a S)
 refine wpc_sp S rfl ?_ ?_ <;> intro h
 ·(revert S a; revert hZ Z; refine go 4 ?_; intro Z hZ a S)
  (refine wp_seq_k ?_; intro Z hZ)
  (obtain ⟨b8, o8, hao, x, cs1, v1, hx, hc1, hw9, hT1⟩ := TrM.pos hpos (k := k) (by omega); rw [hao] at S; have hxs := Rose.size_get hx; have hT1c := hT1; obtain ⟨a91, c91, rfl, -⟩ := hT1c; have hw9c := hw9.1; subst hw9c; (simp only [List.cons_append, List.nil_append] at hc1); obtain ⟨b9, o9, hao2, y, cs2, v2, hy, hc2, hw8, hT2⟩ := TrM.pos hpos2 (k := k) (by omega); rw [hao2] at S; have hT2c := hT2; obtain ⟨a92, c92, rfl, -⟩ := hT2c; have hw8c := hw8.1; subst hw8c; (simp only [List.cons_append, List.nil_append] at hc2))
  (refine wpc_mixM [0, 1, 2, 3, 4, 5, 6, 7, 9] [3, 7] [] (.one 0 (.one 1 (.one 2 (.one 3 (.one 4 (.one 5 (.one 6 (.one 7 (.one 8 (.one 9 .nil)))))))))) [] S mixed (by kernel_rfl) ?_; clear S; intro w S)
  (revert S a; refine go 9 ?_; intro a S)
  (refine wc0 S (hC F x y _ _ (by omega) ⟨_, rfl, hT1, hw9.2⟩ ⟨_, rfl, hT2, hw8.2⟩) ?_; clear S a; intro v a w hv S; subst hv)
  (revert S a; revert hZ Z; refine go 4 ?_; intro a S)
  refine wpc_sp S rfl ?_ ?_ <;> intro h
  ·(revert S a; refine go 4 ?_; intro a S)
   refine wp_ret (fr1 S Tryz.results18 ?_)
   exact zzSa0
  (revert S a; revert hZ Z; refine go 7 ?_; intro a S)
  change ∃ m', _ ∧ _
  (rw [← hao, ← hao2] at S; refine ⟨l.len - (k + 1), by omega, k + 1, rfl, by omega, ?_, ?_⟩; rotate_left 1; (refine S.keep ?_; exact zk); rw [← hfp, sameL_drop hx hy, (by assumption : sameV x y = true), Bool.true_and])
 (refine wp_exit ?_; conv => whnf)
 clear hZ Z
 (revert S a; revert hZ Z; refine go 5 ?_; intro a S)
 refine wp_ret (fr1 S Tryz.results18 ?_)
 exact zzSa0
theorem zzSa1 {p : Prop} (h : p := by (congr 1; show _ = (decide (xk = yk) && (decide (xn = yn) && decide (xs = ys)) && sameL xl yl); first | (rw [decide_eq_true (show xk = yk by omega), decide_eq_true (show xn = yn by assumption), decide_eq_true (show xs = ys by assumption)]; rfl) | (rw [decide_eq_false (show ¬ xk = yk by omega)]; rfl) | (rw [decide_eq_false (show ¬ xn = yn by assumption), Bool.false_and, Bool.and_false, Bool.false_and]; done) | (rw [decide_eq_false (show ¬ xs = ys by assumption), Bool.and_false, Bool.and_false, Bool.false_and]; done) | trace_state)) : p := h
theorem sameCt : ∀ n, SmC n := by
 intro n
 induction n with
 | zero => intro F x y cs cs2 hn; omega
 | succ n ih =>
 intro F x y cs cs2 hn hV hV2
 obtain ⟨⟨xk, xn, xs⟩, xl⟩ := x
 obtain ⟨⟨yk, yn, ys⟩, yl⟩ := y
 obtain ⟨v1, rfl, hT1, hs1⟩ := hV
 obtain ⟨v2, rfl, hT2, hs2⟩ := hV2
 dsimp only at *
 have hr := sameRowCt ih F xl yl v1 v2 (by omega) hT1 hT2
 obtain ⟨a1, c1, rfl, -⟩ := hT1
 obtain ⟨a2, c2, rfl, -⟩ := hT2
 refine Ct.enter Tryz.func41 rfl Tryz.ntmps41 rfl fun w0 a S => ?_
 refine wp_sr fun Z hZ => ?_
 (refine wbx S ?_; clear S a; intro b2 a w S)
 (refine wbx S ?_; clear S a; intro b3 a w S)
 (revert S a; revert hZ Z; refine go 10 ?_; intro Z hZ a S)
 refine wgd S ?_ ?_
 ·(clear S; intro h S)
  (revert S a; refine go 11 ?_; intro a S)
  refine wgd S ?_ ?_
  ·(clear S; intro h S)
   (revert S a; refine go 11 ?_; intro a S)
   refine wgd S ?_ ?_
   ·(clear S; intro h S)
    (revert S a; refine go 8 ?_; intro a S)
    (refine wc0 S (hr) ?_; clear S a; intro v a w hv S; subst hv)
    (revert S a; revert hZ Z; refine go 4 ?_; intro a S)
    refine wp_ret (fr1 S Tryz.results41 ?_)
    exact zzSa1
   (clear S a; intro h a S)
   (revert S a; revert hZ Z; refine go 8 ?_; intro a S)
   refine wp_ret (fr1 S Tryz.results41 ?_)
   exact zzSa1
  (clear S a; intro h a S)
  (revert S a; revert hZ Z; refine go 15 ?_; intro a S)
  refine wp_ret (fr1 S Tryz.results41 ?_)
  exact zzSa1
 (clear S a; intro h a S)
 (revert S a; revert hZ Z; refine go 22 ?_; intro a S)
 refine wp_ret (fr1 S Tryz.results41 ?_)
 exact zzSa1
def RowG (aggs : List (List UInt8)) (x : GA) (key : Vf) (gg : Grp) (G' : List Grp) (u : Value) : Prop :=
 match txtG key with
 | none => u = .tuple ⟨[.slice none 0 0, .int .i64 4]⟩ ∧ G' = [gg]
 | some k => match alG x k with
  | none => u = .tuple ⟨[.slice none 0 0, .int .i64 5]⟩ ∧ G' = [gg]
  | some e => RowQ aggs e.ways gg G' u
theorem zzGj0 {p : Prop} (h : p := by (refine ⟨?_, rfl⟩; first | (rw [if_pos (by assumption)]) | (rw [if_neg (by rw [(by assumption : (txtG key).isSome = false)]; decide)]) | trace_state)) : p := h
theorem rowNoCt (F : Heap) (hT : TabF F) (bg : Nat) (av : Value) (gv : Gv) (gg : Grp) (hG : GsS bg av gv gg) (key : Vf) (v1 : Value) (h1 : TrS F 4 VhR v1 key) (r1 : RowB key) (hno : ∀ k9, txtG key = some k9 → alG gv k9 = none) :
  Ct Tryz.prog 15 [.pointer (some ⟨bg, 0, none⟩), v1] F [gg] (fun _ G' u => u = .tuple ⟨[.slice none 0 0, .int .i64 (if (txtG key).isSome = true then 5 else 4)]⟩ ∧ G' = [gg]) := by
 have t1 := textCtG F hT v1 key h1 r1.rg r1.wt
 obtain ⟨bm, om, gw, rfl, hm, hw⟩ := hG
 obtain ⟨a1, c1, rfl, -⟩ := h1
 refine Ct.enter Tryz.func15 rfl Tryz.ntmps15 rfl fun w0 a S => ?_
 (revert S a; refine go 6 ?_; intro Z hZ a S)
 (refine wp_seq_k ?_; intro Z hZ)
 (replace S := spl3 S)
 (revert S a; refine go 2 ?_; intro a S)
 (refine wv S (sv_eqPtrSome S rfl rfl rfl) ?_; clear S a; intro a S)
 (revert S a; revert hZ Z; refine go 2 ?_; intro a S)
 refine wpc_false S rfl ?_
 (revert S a; revert hZ Z; refine go 4 ?_; intro Z hZ a S)
 (refine wc0 S t1 ?_; clear S a; intro v9 a w hv S; subst hv; unfold tvV at S)
 (revert S a; revert hZ Z; refine go 13 ?_; intro Z hZ a S)
 refine wpc_sp S rfl ?_ ?_ <;> intro h
 ·(revert S a; refine go 5 ?_; intro a S)
  refine wp_ret ?_
  (first | (replace S := joi3 S.drop1) | (replace S := joi3 S))
  refine fin_ret S (results2 Tryz.results15 (RV.tmp S rfl) (RV.tmp S rfl)) ?_
  exact zzGj0
 refine wp_skip ?_
 (refine hZ _ _ ?_; clear hZ Z)
 (refine wp_seq_k ?_; intro Z hZ)
 (obtain ⟨k9, hk⟩ := Option.isSome_iff_exists.1 (by assumption : (txtG key).isSome = true); have hmg : mGet (gvM gv) k9 = none := (by rw [mGet_gv, hno k9 hk]; rfl); rw [hk] at S)
 (revert S a; refine go 6 ?_; intro a S)
 (refine wv S (sv_lookP (enc := kS) (k := k9) S rfl rfl rfl hm) ?_; clear S a; intro a S; rw [hmg] at S)
 (revert S a; refine go 3 ?_; intro a S)
 (refine wpl_alloc S rfl rfl rfl rfl ?_; clear S a; intro b8 a w S)
 (refine wso S rfl rfl ?_; clear S; intro w S)
 (revert S a; revert hZ Z; refine go 6 ?_; intro Z hZ Z hZ a S)
 (refine wv S (sv_lit (c := true) (sv_pure S rfl) (by rfl)) ?_; clear S a; intro a S)
 (revert S a; revert hZ Z; refine go 2 ?_; intro a S)
 refine wpc_true S rfl ?_
 (revert S a; refine go 5 ?_; intro a S)
 refine wp_ret ?_
 (first | (replace S := joi3 S.drop1) | (replace S := joi3 S))
 refine fin_ret S (results2 Tryz.results15 (RV.tmp S rfl) (RV.tmp S rfl)) ?_
 exact zzGj0
theorem rowGCt (F : Heap) (hT : TabF F) (hE : ErrF F) (bg : Nat) (av : Value) (gv : Gv) (gg : Grp) (aggs : List (List UInt8)) (x : GA) (hG : GsS bg av gv gg) (hA : LiM F 1 StR av aggs) (h8 : aggs.length ≤ 8) (hkn : aggs.all knownS = true) (hX : GvR F x gv) (hI : GInv aggs x) (hcn : ∀ p ∈ x, p.2.ways.length ≤ 1000000000) (key : Vf) (v1 : Value) (h1 : TrS F 4 VhR v1 key) (r1 : RowB key) :
  Ct Tryz.prog 15 [.pointer (some ⟨bg, 0, none⟩), v1] F [gg] (fun _ G' u => RowG aggs x key gg G' u) := by
 unfold RowG
 cases hk : txtG key with
 | none =>
  refine (rowNoCt F hT bg av gv gg hG key v1 h1 r1 (fun k9 h => by rw [hk] at h; cases h)).mono fun _ _ _ h => ?_
  rw [hk] at h; exact h
 | some k =>
  dsimp only
  rcases hX.get k with ⟨g1, g2⟩ | ⟨e, e', g1, g2, g3, g4⟩
  ·rw [g1]
   refine (rowNoCt F hT bg av gv gg hG key v1 h1 r1 (fun k9 h => by rw [hk] at h; cases h; exact g2)).mono fun _ _ _ h => ?_
   rw [hk] at h; exact h
  ·rw [g1]
   have hm := alG_mem g1
   exact rowOldCt F hT hE bg av gv gg aggs hG hA h8 hkn key v1 h1 r1 k hk e' e g2 g3 g4 (hI.all _ hm) (hcn _ hm)
theorem insNilCt (F : Heap) (f : Value) : Ct Tryz.prog 156 [.slice none 0 0, .int .i64 0, .int .i64 0, f] F [] (fun _ _ _ => True) := by
 refine Ct.enter Tryz.func156 rfl Tryz.ntmps156 rfl fun w0 a S => ?_
 (revert S a; refine go 7 ?_; intro a S)
 refine wpc_loop (fun m a w' => m = 0 ∧ St 53 [(2, .int .i64 0), (8, .int .i64 1)] w0 F [] F [] a w') ?_ ?_
 ·(refine ⟨0, rfl, ?_⟩; refine S.keep ?_; exact zk)
 (clear S; rintro m a w ⟨rfl, S⟩)
 (revert S a; refine go 4 ?_; intro Z hZ Z hZ a S)
 (refine wv S (sv_lit (c := false) (sv_pure S rfl) (by rfl)) ?_; clear S a; intro a S)
 (revert S a; revert hZ Z; refine go 2 ?_; intro a S)
 refine wpc_false S rfl ?_
 (refine wp_exit ?_; conv => whnf)
 refine fin_end S (results0 Tryz.results156) ?_
 trivial
theorem stabNilCt (F : Heap) (f : Value) : Ct Tryz.prog 122 [.slice none 0 0, .int .i64 0, f] F [] (fun _ _ _ => True) := by
 refine Ct.enter Tryz.func122 rfl Tryz.ntmps122 rfl fun w0 a S => ?_
 (revert S a; refine go 12 ?_; intro Z hZ a S)
 refine wpc_loop (fun m a w' => m = 0 ∧ St 63 [(0, .slice none 0 0), (1, .int .i64 0), (2, f), (6, .int .i64 20), (7, .int .i64 0), (8, .int .i64 20)] w0 F [] F [] a w') ?_ ?_
 ·(refine ⟨0, rfl, ?_⟩; refine S.keep ?_; exact zk)
 (clear S; rintro m a w ⟨rfl, S⟩)
 (revert S a; refine go 4 ?_; intro Z hZ Z hZ a S)
 (refine wv S (sv_lit (c := false) (sv_pure S rfl) (by rfl)) ?_; clear S a; intro a S)
 (revert S a; revert hZ Z; refine go 2 ?_; intro a S)
 refine wpc_false S rfl ?_
 (refine wp_exit ?_; conv => whnf)
 clear hZ Z
 (revert S a; revert hZ Z; refine go 6 ?_; intro Z hZ a S)
 (refine wc0 S ((insNilCt F f).mono (Post' := fun _ _ u => True) fun _ _ _ _ => trivial) ?_; clear S a; intro v9 a w hv S)
 (revert S a; revert hZ Z; refine go 3 ?_; intro a S)
 refine wpc_loop (fun m a w' => m = 0 ∧ St 63 [(1, .int .i64 0), (6, .int .i64 20)] w0 F [] F [] a w') ?_ ?_
 ·(refine ⟨0, rfl, ?_⟩; refine S.keep ?_; exact zk)
 (clear S; rintro m a w ⟨rfl, S⟩)
 (revert S a; refine go 4 ?_; intro Z hZ Z hZ a S)
 (refine wv S (sv_lit (c := false) (sv_pure S rfl) (by rfl)) ?_; clear S a; intro a S)
 (revert S a; revert hZ Z; refine go 2 ?_; intro a S)
 refine wpc_false S rfl ?_
 (refine wp_exit ?_; conv => whnf)
 refine fin_end S (results0 Tryz.results122) ?_
 trivial
theorem sortSNilCt (F : Heap) : Ct Tryz.prog 79 [.slice none 0 0, .func (.func 40) ⟨[]⟩ ⟨[]⟩] F [] (fun _ _ _ => True) := by
 refine Ct.enter Tryz.func79 rfl Tryz.ntmps79 rfl fun w0 a S => ?_
 (revert S a; refine go 5 ?_; intro a S)
 (refine wc0 S ((stabNilCt F _).mono (Post' := fun _ _ u => True) fun _ _ _ _ => trivial) ?_; clear S a; intro v9 a w hv S)
 refine wpList_nil ?_
 refine fin_end S (results0 Tryz.results79) ?_
 trivial
theorem compNilCt (F : Heap) : Ct Tryz.prog 80 [.slice none 0 0, .func (.func 81) ⟨[]⟩ ⟨[]⟩] F [] (fun _ _ u => u = .slice none 0 0) := by
 refine Ct.enter Tryz.func80 rfl Tryz.ntmps80 rfl fun w0 a S => ?_
 (revert S a; refine go 8 ?_; intro Z hZ Z hZ a S)
 (refine wv S (sv_lit (c := true) (sv_pure S rfl) (by rfl)) ?_; clear S a; intro a S)
 (revert S a; revert hZ Z; refine go 2 ?_; intro a S)
 refine wpc_true S rfl ?_
 (revert S a; refine go 5 ?_; intro a S)
 refine wp_ret (fr1 S Tryz.results80 ?_)
 rfl
theorem sortNilCt (F : Heap) : Ct Tryz.prog 45 [.slice none 0 0] F [] (fun _ _ u => u = .slice none 0 0) := by
 have hs := (sortSNilCt F).mono (Post' := fun _ _ u => True) fun _ _ _ _ => trivial
 have hc := compNilCt F
 refine Ct.enter Tryz.func45 rfl Tryz.ntmps45 rfl fun w0 a S => ?_
 (revert S a; refine go 16 ?_; intro Z hZ a S)
 refine wpc_loop (fun m a w' => m = 0 ∧ St 22 [(3, .slice none 0 0), (7, .int .i64 0), (8, .int .i64 0)] w0 F [] F [] a w') ?_ ?_
 ·(refine ⟨0, rfl, ?_⟩; refine S.keep ?_; exact zk)
 (clear S; rintro m a w ⟨rfl, S⟩)
 refine wp_sr fun Z hZ => ?_
 (refine wv S (sv_lit (c := false) (sv_pure S rfl) (by rfl)) ?_; clear S a; intro a S)
 (revert S a; revert hZ Z; refine go 2 ?_; intro a S)
 (refine wp_seq_k ?_; intro Z hZ)
 refine wpc_false S rfl ?_
 (refine wp_exit ?_; conv => whnf)
 clear hZ Z
 (revert S a; revert hZ Z; refine go 3 ?_; intro Z hZ a S)
 (refine wc0 S hs ?_; clear S a; intro v9 a w hv S)
 (revert S a; revert hZ Z; refine go 4 ?_; intro Z hZ a S)
 (refine wc0 S hc ?_; clear S a; intro v9 a w hv S; subst hv)
 (revert S a; revert hZ Z; refine go 3 ?_; intro a S)
 refine wp_ret (fr1 S Tryz.results45 ?_)
 rfl
theorem keysNilCt (F : Heap) (bg : Nat) (av : Value) (gg : Grp) (hG : GsS bg av [] gg) : Ct Tryz.prog 25 [.pointer (some ⟨bg, 0, none⟩)] F [gg] (fun _ G' u => u = .slice none 0 0 ∧ G' = [gg]) := by
 obtain ⟨bm, om, gw, rfl, hm, hw⟩ := hG
 refine Ct.enter Tryz.func25 rfl Tryz.ntmps25 rfl fun w0 a S => ?_
 (revert S a; refine go 5 ?_; intro Z hZ a S)
 (refine wp_seq_k ?_; intro Z hZ)
 (replace S := spl3 S)
 (revert S a; refine go 2 ?_; intro a S)
 (refine wv S (sv_eqPtrSome S rfl rfl rfl) ?_; clear S a; intro a S)
 (revert S a; revert hZ Z; refine go 2 ?_; intro a S)
 refine wpc_false S rfl ?_
 (revert S a; revert hZ Z; refine go 12 ?_; intro Z hZ Z hZ a S)
 (refine wpl_rangeM (enc := kS) S rfl rfl rfl rfl rfl (by exact S.has inferInstance) hm ?_; clear S a; intro b12 oi a w hit S)
 (revert S a; revert hZ Z; refine go 3 ?_; intro a S)
 refine wpc_loop (fun m a w' => ∃ (oi : Obj), m = 0 ∧ ItO kS (gvM []) bm om [] none oi ∧ St 24 [(3, .slice none 0 0), (12, ptr b12)] w0 F (keys [(bg, .cells ⟨[av, .map (some bm)]⟩ 75 (0, 0)) :: (bm, om) :: gw]) F [[(b12, oi)], [(bg, .cells ⟨[av, .map (some bm)]⟩ 75 (0, 0))], [(bm, om)], gw] a w') ?_ ?_
 ·(refine ⟨0, oi, rfl, hit, ?_⟩; refine S.keep ?_; exact zk)
 (clear S hit; rintro m a w ⟨oi, rfl, hit, S⟩)
 refine wp_sr fun Z hZ => ?_
 (refine wpl_next (enc := kS) S rfl rfl rfl rfl rfl (by exact S.has inferInstance) hit ?_; clear S a; intro y oi2 a w hnx S; obtain rfl : y = none := (by rcases hnx with ⟨h9, -⟩ | ⟨p, l1, l2, -, h9, -⟩; exact h9; cases l1 <;> cases h9))
 (revert S a; refine go 1 ?_; intro a S)
 skip
 (revert S a; revert hZ Z; refine go 2 ?_; intro a S)
 (refine wp_seq_k ?_; intro Z hZ)
 refine wpc_false S rfl ?_
 (refine wp_exit ?_; conv => whnf)
 clear hZ Z
 (revert S a; revert hZ Z; refine go 3 ?_; intro Z hZ a S)
 (refine wc0 S (sortNilCt F) ?_; clear S a; intro v9 a w hv S; subst hv)
 (revert S a; revert hZ Z; refine go 3 ?_; intro a S)
 refine wp_ret ?_
 (replace S := joi3 S.drop1)
 refine fin_ret S (results1 Tryz.results25 (RV.tmp S rfl)) ?_
 exact ⟨rfl, rfl⟩
section
variable {n : Sz} {L : List (Nat × Value)} {w0 : World} {F0 : Heap} {K0 : List Nat} {F : Heap} {g gn : Grp} {R : List Grp} {a : Act} {w : World}
theorem gsn_take (S : St n L w0 F0 K0 F (g :: gn :: R) a w) : ∃ F', (∀ b o, F b = some o → F' b = some o) ∧ (∀ b o, gh gn b = some o → F' b = some o) ∧ St n L w0 F0 K0 F' (g :: R) a w := by
 have S2 := swap2 S
 refine ⟨F.add gn, add_le (G1 := []) S2, ?_, St.freeze (G1 := []) S2⟩
 intro b o e
 unfold gh Heap.add at *
 cases hf : List.find? (fun p => Nat.beq p.1 b) gn with
 | none => rw [hf] at e; cases e
 | some p => rw [hf] at e; exact e
end
def textV (s : List UInt8) : Vv := (⟨4, 0, s⟩, .nil)
abbrev vcl (h : VH) : List Value := [.int .u8 (h.k : Int), .int .i64 h.n, .string (bs h.s), .slice none 0 0]
theorem ror_vcl (F : Heap) (h : VH) (hs : h.s.length ≤ 140737488355328) : RoR 4 VhR F (h, .nil) (vcl h) := ror_leaf F h.k h.n h.s hs
theorem row_lit {F : Heap} {b : Nat} {e : TypeId} {l : List VH} {cs : List Value} (hb : F b = some (.cells ⟨cs⟩ e (0, 0))) (hc : cs = l.flatMap vcl) (hs : ∀ h ∈ l, h.s.length ≤ 140737488355328) (hl : l.length ≤ 140737488355328) : TrS F 4 VhR (.slice (some ⟨b, 0, none⟩) l.length l.length) (roseOf (l.map fun h => ((h, .nil) : Vv))) := by
 have hL : LiC F 4 (RoR 4 VhR) cs (l.map fun h => ((h, .nil) : Vv)) := by
  subst hc
  clear hb hl
  induction l with
  | nil => rfl
  | cons h r ih => exact ⟨vcl h, r.flatMap vcl, rfl, rfl, ror_vcl F h (hs h (List.mem_cons_self ..)), ih fun x hx => hs x (List.mem_cons_of_mem _ hx)⟩
 have h2 := lim_of (l := l.map fun h => ((h, .nil) : Vv)) hb hL (by rw [List.length_map]; exact hl)
 rw [List.length_map] at h2
 exact trs_lim h2
def smL (l : List VH) : Bool := l.all fun h => decide (-9223372036854775808 ≤ h.n) && decide (h.n ≤ 9223372036854775807) && decide (h.s.length ≤ 5000)
theorem rowb_lit {l : List VH} (h : smL l = true) (hl : l.length ≤ 100) : RowB (roseOf (l.map fun h => ((h, .nil) : Vv))) := by
 unfold smL at h
 have h1 : ∀ x ∈ l, (-9223372036854775808 ≤ x.n ∧ x.n ≤ 9223372036854775807) ∧ x.s.length ≤ 5000 := fun x hx => by
  have := List.all_eq_true.1 h x hx
  simpa using this
 have hw : wtB (roseOf (l.map fun h => ((h, .nil) : Vv))) ≤ l.length * 20040 := by
  clear h hl
  induction l with
  | nil => exact Nat.le_refl _
  | cons x r ih =>
   have h2 := ih fun y hy => h1 y (List.mem_cons_of_mem _ hy)
   have h3 := (h1 x (List.mem_cons_self ..)).2
   show (wtH x + 0) + wtB (roseOf (r.map fun h => ((h, .nil) : Vv))) ≤ (r.length + 1) * 20040
   unfold wtH
   omega
 refine ⟨?_, by omega, ?_, ?_⟩
 ·clear h hl hw
  induction l with
  | nil => trivial
  | cons x r ih => exact ⟨(h1 x (List.mem_cons_self ..)).1, trivial, ih fun y hy => h1 y (List.mem_cons_of_mem _ hy)⟩
 ·exact thv_rose fun x hx => by
   obtain ⟨h, -, rfl⟩ := List.mem_map.1 hx
   exact thx_leaf h
 ·rw [roseOf_len, List.length_map]; omega
theorem gInv_nil (aggs : List (List UInt8)) : GInv aggs [] := ⟨List.nodup_nil, fun p hp => by cases hp⟩
abbrev hT (s : List UInt8) : VH := ⟨4, 0, s⟩
abbrev hN (n : Int) : VH := ⟨2, n, []⟩
def rwH (l : List VH) : Vf := roseOf (l.map fun h => ((h, .nil) : Vv))
def agA : List (List UInt8) := [sCount, sSum, sMax]
def kA : Vf := rwH [hT [107]]
def oA : Vf := rwH [hN 1]
def tA : Vf := rwH [hN 2]
def a1A : Vf := rwH [hN 1, hN 5, hT [97]]
def a2A : Vf := rwH [hN 1, hN (-2), hT [98]]
def k9A : List UInt8 := [34, 107, 34, 59]
def w1A : List UInt8 := [49, 59]
def w2A : List UInt8 := [50, 59]
def x1A : GA := [(k9A, ⟨kA, [(w1A, a1A)]⟩)]
def x2A : GA := [(k9A, ⟨kA, [(w1A, a1A), (w2A, a2A)]⟩)]
theorem eA0 : newG agA = 0 := by kernel_rfl
theorem eA1 : addE agA [] kA oA a1A = 0 := by kernel_rfl
theorem eA2 : gAdd agA [] kA oA a1A = x1A := by kernel_rfl
theorem eA3 : addE agA x1A kA tA a2A = 0 := by kernel_rfl
theorem eA4 : gAdd agA x1A kA tA a2A = x2A := by kernel_rfl
theorem eA5 : delE x2A kA tA = 0 := by kernel_rfl
theorem eA6 : gDel x2A kA tA = x1A := by kernel_rfl
theorem eA7 : delE x1A kA oA = 0 := by kernel_rfl
theorem eA8 : gDel x1A kA oA = [] := by kernel_rfl
theorem eA9 : txtG kA = some k9A := by kernel_rfl
def r2A : Vf := rwH [hN 2, hN 3, hT [98]]
def r1A : Vf := rwH [hN 1, hN 5, hT [97]]
theorem eB1 : (rowA agA [(w1A, a1A), (w2A, a2A)] 0) = (0, intV 2) := by kernel_rfl
theorem eB2 : (rowA agA [(w1A, a1A), (w2A, a2A)] 1) = (0, intV 3) := by kernel_rfl
theorem eB3 : (rowA agA [(w1A, a1A), (w2A, a2A)] 2) = (0, textV [98]) := by kernel_rfl
theorem eC1 : (rowA agA [(w1A, a1A)] 0) = (0, intV 1) := by kernel_rfl
theorem eC2 : (rowA agA [(w1A, a1A)] 1) = (0, intV 5) := by kernel_rfl
theorem eC3 : (rowA agA [(w1A, a1A)] 2) = (0, textV [97]) := by kernel_rfl
def GO (F : Heap) (bg : Nat) (av : Value) (x : GA) (gg : Grp) : Prop := ∃ gv, GsS bg av gv gg ∧ GvR F x gv
theorem GO.mono {F F' : Heap} {bg : Nat} {av : Value} {x : GA} {gg : Grp} (hF : ∀ b o, F b = some o → F' b = some o) (h : GO F bg av x gg) : GO F' bg av x gg := by
 obtain ⟨gv, h1, h2⟩ := h
 exact ⟨gv, h1, h2.mono hF⟩
section
variable {P : Program} {Q : Exit → Act → World → Prop} {n : Sz} {L : List (Nat × Value)} {w0 : World} {F0 : Heap} {K0 : List Nat} {F : Heap} {G : List Grp} {a : Act} {w : World}
variable {ops : Array Oper} {rest : List Oper} {o : Oper} {d : Nat} {x : Operand} {xs : Array Operand} {ts : Array TypeId} {f : FuncId} {fi ca vs args : List Value}
theorem wpl_gg {Gr : List Grp} {gg : Grp} {bg : Nat} {av r : Value} {X X' : GA} [hf : HasFn P f] (S : St n L w0 F0 K0 F G a w) (hg : o.guard = none) (hd : o.dst = some d) (hn : Nat.blt d n.sz = true)
  (ho : o.op = .call { callee := .value x, args := xs, argTypes := ts }) (hx : ev L x = some (.func (.func f) ⟨fi⟩ ⟨ca⟩)) (hxs : evs L xs.toList = some vs) (hO : GO F bg av X gg) (C : ∀ gv, GsS bg av gv gg → GvR F X gv → Ct P f args F [gg] (fun _ G' u => u = r ∧ GsN bg av X X' gv G')) (ha : fi ++ vs ++ ca = args) (hp : G.flatten.Perm (gg :: Gr).flatten)
  (k : ∀ gg' F' a' w', GO F' bg av X' gg' → (∀ b o, F b = some o → F' b = some o) → St n ((d, r) :: L) w0 F0 K0 F' (gg' :: Gr) a' w' → wpList P ops Q rest a' w') : wpList P ops Q (o :: rest) a w := by
 obtain ⟨gv, hG, hX⟩ := hO
 refine wpl_callOwn (Gs := [gg]) (Gr := Gr) S hg hd hn ho hx hxs (C gv hG hX) ha (hp.trans (by simp)) fun v G' a' w' hv S' => ?_
 obtain ⟨rfl, gg', gn, gv', rfl, h1, h2⟩ := hv
 obtain ⟨F', hF, hgn, S2⟩ := gsn_take S'
 exact k gg' F' a' w' ⟨gv', h1, h2 F' hgn (hX.mono hF)⟩ hF S2
theorem wpl_gNew {l : List (List UInt8)} [hf : HasFn P f] (S : St n L w0 F0 K0 F G a w) (hg : o.guard = none) (hd : o.dst = some d) (hn : Nat.blt d n.sz = true)
  (ho : o.op = .call { callee := .value x, args := xs, argTypes := ts }) (hx : ev L x = some (.func (.func f) ⟨fi⟩ ⟨ca⟩)) (hxs : evs L xs.toList = some vs) (C : Ct P f args F [] (fun _ G' u => NewQ l G' u)) (h0 : newG l = 0) (ha : fi ++ vs ++ ca = args)
  (k : ∀ bg av gg F' a' w', GO F' bg av [] gg → LiM F' 1 StR av l → (∀ b o, F b = some o → F' b = some o) → St n ((d, .tuple ⟨[.pointer (some ⟨bg, 0, none⟩), .int .i64 0]⟩) :: L) w0 F0 K0 F' (gg :: G) a' w' → wpList P ops Q rest a' w') : wpList P ops Q (o :: rest) a w := by
 refine wpl_callOwn (Gs := []) (Gr := G) S hg hd hn ho hx hxs C ha (by simp) fun v G' a' w' hv S' => ?_
 rcases hv with ⟨h9, -⟩ | ⟨-, b, av, gg, ga, rfl, rfl, h1, h2⟩
 ·exact absurd h0 h9
 ·obtain ⟨F', hF, hgn, S2⟩ := gsn_take S'
  exact k b av gg F' a' w' ⟨[], h1, trivial⟩ (h2.mono hgn) hF S2
theorem wpl_gRow {Gr : List Grp} {gg : Grp} {bg : Nat} {av : Value} {X : GA} {aggs : List (List UInt8)} {key r : Vf} {kx : List UInt8} {e : En} [hf : HasFn P f] (S : St n L w0 F0 K0 F G a w) (hg : o.guard = none) (hd : o.dst = some d) (hn : Nat.blt d n.sz = true)
  (ho : o.op = .call { callee := .value x, args := xs, argTypes := ts }) (hx : ev L x = some (.func (.func f) ⟨fi⟩ ⟨ca⟩)) (hxs : evs L xs.toList = some vs) (hO : GO F bg av X gg) (C : ∀ gv, GsS bg av gv gg → GvR F X gv → Ct P f args F [gg] (fun _ G' u => RowG aggs X key gg G' u)) (ha : fi ++ vs ++ ca = args) (hp : G.flatten.Perm (gg :: Gr).flatten)
  (hk : txtG key = some kx) (he : alG X kx = some e) (h0 : ∀ i, i < aggs.length → (rowA aggs e.ways i).1 = 0) (hr : roseOf ((List.range aggs.length).map fun i => (rowA aggs e.ways i).2) = r)
  (k : ∀ v F' a' w', TrS F' 4 VhR v r → (∀ b o, F b = some o → F' b = some o) → St n ((d, .tuple ⟨[v, .int .i64 0]⟩) :: L) w0 F0 K0 F' (gg :: Gr) a' w' → wpList P ops Q rest a' w') : wpList P ops Q (o :: rest) a w := by
 obtain ⟨gv, hG, hX⟩ := hO
 refine wpl_callOwn (Gs := [gg]) (Gr := Gr) S hg hd hn ho hx hxs (C gv hG hX) ha (hp.trans (by simp)) fun v G' a' w' hv S' => ?_
 unfold RowG at hv
 rw [hk] at hv
 simp only [he] at hv
 rcases hv with ⟨i, hi, h1, -⟩ | ⟨-, v, go, rfl, rfl, h2⟩
 ·exact absurd (h0 i hi) h1
 ·obtain ⟨F', hF, hgn, S2⟩ := gsn_take S'
  rw [hr] at h2
  exact k v F' a' w' (TrS.mono hgn h2) hF S2
theorem wpl_gRow5 {Gr : List Grp} {gg : Grp} {bg : Nat} {av : Value} {X : GA} {aggs : List (List UInt8)} {key : Vf} {kx : List UInt8} [hf : HasFn P f] (S : St n L w0 F0 K0 F G a w) (hg : o.guard = none) (hd : o.dst = some d) (hn : Nat.blt d n.sz = true)
  (ho : o.op = .call { callee := .value x, args := xs, argTypes := ts }) (hx : ev L x = some (.func (.func f) ⟨fi⟩ ⟨ca⟩)) (hxs : evs L xs.toList = some vs) (hO : GO F bg av X gg) (C : ∀ gv, GsS bg av gv gg → GvR F X gv → Ct P f args F [gg] (fun _ G' u => RowG aggs X key gg G' u)) (ha : fi ++ vs ++ ca = args) (hp : G.flatten.Perm (gg :: Gr).flatten)
  (hk : txtG key = some kx) (he : alG X kx = none)
  (k : ∀ a' w', St n ((d, .tuple ⟨[.slice none 0 0, .int .i64 5]⟩) :: L) w0 F0 K0 F (gg :: Gr) a' w' → wpList P ops Q rest a' w') : wpList P ops Q (o :: rest) a w := by
 obtain ⟨gv, hG, hX⟩ := hO
 refine wpl_callOwn (Gs := [gg]) (Gr := Gr) S hg hd hn ho hx hxs (C gv hG hX) ha (hp.trans (by simp)) fun v G' a' w' hv S' => ?_
 unfold RowG at hv
 rw [hk] at hv
 simp only [he] at hv
 obtain ⟨rfl, rfl⟩ := hv
 exact k a' w' S'
end
end Go.Proofs.YtbhipiepfclneaaGreatDoor
