/- Walks. -/
import Derived.Test.YthnafdbebniapaaGreatDoorKCoverFits04
import Derived.Test.YthnafdbebniapaaGreatDoorQ33
import Derived.Test.YthnafdbebniapaaGreatDoorQ32
import Derived.Test.YthnafdbebniapaaGreatDoorQ13
import Derived.Test.YthnafdbebniapaaGreatDoorQ12
import Derived.Test.YthnafdbebniapaaGreatDoorQ11
import Derived.Test.YthnafdbebniapaaGreatDoorQ10
import Derived.Test.YthnafdbebniapaaGreatDoorQ09
import Derived.Test.YthnafdbebniapaaGreatDoorQ08
import Derived.Test.YthnafdbebniapaaGreatDoorQ06
import Derived.Test.YthnafdbebniapaaGreatDoorQ05
import Derived.Test.YthnafdbebniapaaGreatDoorQ04
import Derived.Test.YthnafdbebniapaaGreatDoorQ03
import Derived.Test.YthnafdbebniapaaGreatDoorQ02
import Derived.Test.YthnafdbebniapaaGreatDoorQ01
import Derived.Test.YthnafdbebniapaaGreatDoorKCoverFitsTy
import Derived.Test.YthnafdbebniapaaGreatDoorQ20
import Derived.Test.YthnafdbebniapaaGreatDoorQ17
import Derived.Test.YthnafdbebniapaaGreatDoorKCoverFits01
set_option maxHeartbeats 16000000
set_option maxRecDepth 20000
namespace Go.Proofs.YthnafdbebniapaaGreatDoor
open Go Go.Wk Go.Un Go.De Go.Cv
set_option linter.unusedSimpArgs false
set_option linter.unusedVariables false
attribute [local irreducible] Go.wpList Go.Code.wp Go.wpStill Go.Wk.wpPre Go.bodyPost Go.Calls Go.Wk.Ct Go.Wk.OwnS Go.Wk.wpG Go.Wk.wpM
theorem findC_cons (c : KC) (l : List KC) (s : List UInt8) : findC (c :: l) s = if s = c.nm then some c else findC l s := by
 unfold findC
 rw [List.find?_cons]
 by_cases e : s = c.nm
 ·rw [if_pos e, decide_eq_true e]
 ·rw [if_neg e, decide_eq_false e]
theorem consOf_drop {ts : List TD} {i : Nat} {x : TD} (hx : ts[i]? = some x) : consOf (ts.drop i) = consFrom x 0 x.cs ++ consOf (ts.drop (i + 1)) := by
 obtain ⟨h1, h2⟩ := List.getElem?_eq_some_iff.1 hx
 rw [List.drop_eq_getElem_cons h1, h2]; rfl
theorem from_drop {x : TD} {k : Nat} {y : CD} (hy : x.cs[k]? = some y) : consFrom x k (x.cs.drop k) = ⟨y.nm, x.nm, x.ps, (k : Int), y.fs⟩ :: consFrom x (k + 1) (x.cs.drop (k + 1)) := by
 obtain ⟨h1, h2⟩ := List.getElem?_eq_some_iff.1 hy
 rw [List.drop_eq_getElem_cons h1, h2]; rfl
def RkQ (F' : Heap) (u : Value) (css : List KC) (s : List UInt8) : Prop := ∃ (x : KC) (a1 : Option Addr) (n1 c1 : Nat) (a4 : Option Addr) (c4 : Nat), u = .tuple ⟨[.agg ⟨[.string (bs x.ty), .slice a1 n1 c1, .int .i64 x.pl, .slice a4 x.fs.length c4]⟩, .bool (findC css s).isSome]⟩ ∧ (findC css s = some x ∨ findC css s = none) ∧ LiM F' 1 StR (.slice a1 n1 c1) x.ps ∧ LiM F' 3 FdR (.slice a4 x.fs.length c4) x.fs
theorem rk_none {F : Heap} {css : List KC} {s : List UInt8} (h : findC css s = none) : RkQ F (.tuple ⟨[.agg ⟨[.string (bs []), .slice none 0 0, .int .i64 0, .slice none 0 0]⟩, .bool false]⟩) css s :=
 ⟨⟨[], [], [], 0, []⟩, none, 0, 0, none, 0, by rw [h]; rfl, .inr h, LiM.nil _ _ _, LiM.nil _ _ _⟩
theorem rk_some {F : Heap} {css : List KC} {s : List UInt8} {x : KC} {a1 : Option Addr} {n1 c1 : Nat} {a4 : Option Addr} {c4 : Nat} (h : findC css s = some x) (h1 : LiM F 1 StR (.slice a1 n1 c1) x.ps) (h2 : LiM F 3 FdR (.slice a4 x.fs.length c4) x.fs) : RkQ F (.tuple ⟨[.agg ⟨[.string (bs x.ty), .slice a1 n1 c1, .int .i64 x.pl, .slice a4 x.fs.length c4]⟩, .bool true]⟩) css s :=
 ⟨x, a1, n1, c1, a4, c4, by rw [h]; rfl, .inl h, h1, h2⟩
theorem zzFtD0 {p : Prop} (h : p := by (first | exact rk_some (x := ⟨y.nm, x.nm, x.ps, (k : Int), y.fs⟩) (by rw [hfq, from_drop hy, List.cons_append, findC_cons, if_pos (by first | assumption | exact Eq.symm (by assumption))]) hps hfs | exact rk_none (by rw [hfp, List.drop_of_length_le (by omega)]; rfl) | trace_state)) : p := h
theorem rconsCt (F : Heap) (tp : Nat) (ts : List TD) (hT : RTab F tp ts) (s : List UInt8) : Ct Tryz.prog 78 [.pointer (some ⟨tp, 0, none⟩), .string (bs s)] F [] (fun F' _ u => RkQ F' u (consOf ts) s) := by
 obtain ⟨ao, cap, hc2, hL, -, -, -⟩ := hT
 obtain ⟨_, _, e9, hcap, hpos⟩ := hL
 cases e9
 refine Ct.enter Tryz.func78 rfl Tryz.ntmps78 rfl fun w0 a S => ?_
 refine wp_sr fun Z hZ => ?_
 (refine wpl_alloc S rfl rfl rfl rfl ?_; clear S a; intro b4 a w S)
 (revert S a; revert hZ Z; refine go 9 ?_; intro Z hZ a S)
 refine wpc_loop (fun m a w' => ∃ (i : Nat), m = ts.length - i ∧ i ≤ ts.length ∧ findC (consOf ts) s = findC (consOf (ts.drop i)) s ∧ St 55 [(0, ptr tp), (1, .string (bs s)), (4, ptr b4), (6, .int .i64 i)] w0 F [] F [[(b4, .cells ⟨[.string (bs []), .slice none 0 0, .int .i64 0, .slice none 0 0]⟩ 151 (0, 0))]] a w') ?_ ?_
 ·(refine ⟨ts.length, 0, by omega, Nat.zero_le _, rfl, ?_⟩; refine S.keep ?_; exact zk)
 (clear S; rintro m a w ⟨i, rfl, hil, hfp, S⟩)
 (revert S a; refine go 7 ?_; intro Z hZ Z hZ a S)
 first | (refine wv S (sv_loadO S rfl rfl (by rfl)) ?_; clear S a; intro a S) | (refine wv S (sv_loadF S rfl rfl (by assumption)) ?_; clear S a; intro a S) | (refine wv S (sv_loadF S rfl rfl hc2) ?_; clear S a; intro a S)
 (revert S a; revert hZ Z; refine go 4 ?_; intro a S)
 refine wpc_sp S rfl ?_ ?_ <;> intro h
 ·(revert S a; revert hZ Z; refine go 4 ?_; intro Z hZ a S)
  (refine wp_seq_k ?_; intro Z hZ)
  (obtain ⟨b8, o8, hao, x, cs1, hx, hc1, ⟨v6, u6, rfl, hps, hcs⟩⟩ := LiM.pos hpos (k := i) (by omega); rw [hao] at S hc2; obtain ⟨a61, c61, rfl, -, -⟩ := id hps; obtain ⟨a62, c62, rfl, hcap2, hpos2⟩ := id hcs)
  (revert S a; refine go 5 ?_; intro a S)
  first | (refine wv S (sv_loadO S rfl rfl (by rfl)) ?_; clear S a; intro a S) | (refine wv S (sv_loadF S rfl rfl (by assumption)) ?_; clear S a; intro a S) | (refine wv S (sv_loadF S rfl rfl hc2) ?_; clear S a; intro a S)
  (revert S a; refine go 2 ?_; intro a S)
  (refine wv S (sv_loadAF S rfl rfl hc1 rfl) ?_; clear S a; intro a S)
  (refine wpl_alloc S rfl rfl rfl rfl ?_; clear S a; intro b7 a w S)
  (refine wso S rfl rfl ?_; clear S; intro w S)
  (revert S a; revert hZ Z; refine go 7 ?_; intro a S)
  refine wpc_loop (fun m a w' => ∃ (k : Nat), m = x.cs.length - k ∧ k ≤ x.cs.length ∧ findC (consOf ts) s = findC (consFrom x k (x.cs.drop k) ++ consOf (ts.drop (i + 1))) s ∧ St 55 [(0, ptr tp), (1, .string (bs s)), (4, ptr b4), (6, .int .i64 i), (7, ptr b7), (8, .int .i64 k)] w0 F [] F [[(b7, .cells ⟨[.int .i64 x.l, .int .i64 x.c, .bool x.pub, .string (bs x.nm), .slice a61 x.ps.length c61, .slice a62 x.cs.length c62]⟩ 69 (0, 0))], [(b4, .cells ⟨[.string (bs []), .slice none 0 0, .int .i64 0, .slice none 0 0]⟩ 151 (0, 0))]] a w') ?_ ?_
  ·(refine ⟨x.cs.length, 0, by omega, Nat.zero_le _, by rw [hfp, consOf_drop hx]; rfl, ?_⟩; refine S.keep ?_; exact zk)
  (clear S; rintro m a w ⟨k, rfl, hkl, hfq, S⟩)
  (revert S a; refine go 4 ?_; intro Z hZ Z hZ a S)
  first | (refine wv S (sv_loadO S rfl rfl (by rfl)) ?_; clear S a; intro a S) | (refine wv S (sv_loadF S rfl rfl (by assumption)) ?_; clear S a; intro a S) | (refine wv S (sv_loadF S rfl rfl hc2) ?_; clear S a; intro a S)
  (revert S a; revert hZ Z; refine go 4 ?_; intro a S)
  refine wpc_sp S rfl ?_ ?_ <;> intro h
  ·(revert S a; revert hZ Z; refine go 4 ?_; intro Z hZ a S)
   (refine wp_seq_k ?_; intro Z hZ)
   (obtain ⟨b9, o9, hao2, y, cs2, hy, hd1, ⟨v7, rfl, hfs⟩⟩ := LiM.pos hpos2 (k := k) (by omega); rw [hao2] at S; obtain ⟨a71, c71, rfl, -, -⟩ := id hfs)
   (revert S a; refine go 2 ?_; intro a S)
   first | (refine wv S (sv_loadO S rfl rfl (by rfl)) ?_; clear S a; intro a S) | (refine wv S (sv_loadF S rfl rfl (by assumption)) ?_; clear S a; intro a S) | (refine wv S (sv_loadF S rfl rfl hc2) ?_; clear S a; intro a S)
   (revert S a; refine go 3 ?_; intro a S)
   (refine wv S (sv_loadF S rfl rfl (hd1 0 _ rfl)) ?_; clear S a; intro a S)
   (revert S a; revert hZ Z; refine go 4 ?_; intro a S)
   refine wpc_sp S rfl ?_ ?_ <;> intro h
   ·(refine wp_seq_k ?_; intro Z hZ)
    (refine wpc_mixM [0, 1, 2, 3, 4, 5, 6, 7, 8, 9, 10, 11] [1, 3, 6, 10] [] (.one 0 (.one 1 (.one 2 (.one 3 (.one 4 (.one 5 (.one 6 (.one 7 (.one 8 (.one 9 (.one 10 (.one 11 (.one 12 (.one 13 .nil)))))))))))))) [b7] S mixed (by kernel_rfl) ?_; clear S; intro w S)
    (revert S a; refine go 10 ?_; intro a S)
    (refine wlF S rfl (fun w' S => sv_loadF S rfl rfl (hd1 1 _ rfl)) ?_; clear S a; intro a S)
    (revert S a; refine go 2 ?_; intro a S)
    (refine wso S rfl rfl ?_; clear S; intro w S)
    (revert S a; revert hZ Z; refine go 6 ?_; intro a S)
    refine wp_ret (fin_ret S (results2 Tryz.results78 (RV.cellO S rfl (by rfl)) (RV.tmp S rfl)) ?_)
    exact zzFtD0
   (revert S a; revert hZ Z; refine go 7 ?_; intro a S)
   change ∃ m', _ ∧ _
   (rw [← hao2] at S; refine ⟨x.cs.length - (k + 1), by omega, k + 1, rfl, by omega, ?_, ?_⟩; rotate_left 1; (refine S.keep ?_; exact zk); (rw [hfq, from_drop hy, List.cons_append, findC_cons, if_neg (by intro e; first | exact absurd e.symm (by assumption) | exact absurd e (by assumption))]))
  (refine wp_exit ?_; conv => whnf)
  clear hZ Z
  (revert S a; revert hZ Z; refine go 6 ?_; intro a S)
  change ∃ m', _ ∧ _
  (replace S := S.drop1; refine ⟨ts.length - (i + 1), by omega, i + 1, rfl, by omega, ?_, ?_⟩; rotate_left 1; (refine S.keep ?_; exact zk); (rw [hfq, List.drop_of_length_le (show x.cs.length ≤ k by omega)]; rfl))
 (refine wp_exit ?_; conv => whnf)
 clear hZ Z
 (revert S a; revert hZ Z; refine go 3 ?_; intro Z hZ a S)
 (refine wso S rfl rfl ?_; clear S; intro w S)
 (revert S a; revert hZ Z; refine go 3 ?_; intro a S)
 refine wp_ret (fin_ret S (results2 Tryz.results78 (RV.cellO S rfl (by rfl)) (RV.tmp S rfl)) ?_)
 exact zzFtD0
theorem zzFtD1 {p : Prop} (h : p := by (congr 1; unfold wellT; first | (rw [decide_eq_true (by assumption), Bool.true_and]; done) | (rw [decide_eq_false (by assumption), Bool.false_and]; done) | trace_state)) : p := h
theorem rwellCt (F : Heap) (tp : Nat) (ts : List TD) (hT : RTab F tp ts) (t : Ty) (cs : List Value) (h : TyC F cs t.1 t.2) (hd : depthL t.2 ≤ 1000000000) : Ct Tryz.prog 76 [.pointer (some ⟨tp, 0, none⟩), .agg ⟨cs⟩] F [] (fun _ _ u => u = .bool (wellT ts t)) := by
 have hu := ruseCt tp ts F hT t.1 t.2 cs h hd
 have hc := rclosedCt F t.2.size t.1 t.2 cs (Nat.le_refl _) h
 obtain ⟨va, rfl, aa, ca, rfl, -, -⟩ := h
 refine Ct.enter Tryz.func76 rfl Tryz.ntmps76 rfl fun w0 a S => ?_
 refine wp_sr fun Z hZ => ?_
 (refine wbx S ?_; clear S a; intro b3 a w S)
 (revert S a; revert hZ Z; refine go 6 ?_; intro Z hZ a S)
 (refine wc0 S (hu) ?_; clear S a; intro v a w hv S; subst hv)
 (revert S a; refine go 2 ?_; intro a S)
 refine wgd S ?_ ?_
 ·(clear S; intro h S)
  (revert S a; refine go 2 ?_; intro a S)
  (refine wc0 S (hc) ?_; clear S a; intro v a w hv S; subst hv)
  (revert S a; revert hZ Z; refine go 4 ?_; intro a S)
  refine wp_ret (fr1 S Tryz.results76 ?_)
  exact zzFtD1
 (clear S a; intro h a S)
 (revert S a; revert hZ Z; refine go 5 ?_; intro a S)
 refine wp_ret (fr1 S Tryz.results76 ?_)
 exact zzFtD1
theorem rwell12Ct (F : Heap) (tp : Nat) (ts : List TD) (hT : RTab F tp ts) (t : Ty) (cs : List Value) (h : TyC F cs t.1 t.2) (hd : depthL t.2 ≤ 1000000000) : Ct Tryz.prog 44 [.pointer (some ⟨tp, 0, none⟩), .agg ⟨cs⟩] F [] (fun _ _ u => u = .bool (wellT ts t)) := by
 have hu := rwellCt F tp ts hT t cs h hd
 obtain ⟨va, rfl, aa, ca, rfl, -, -⟩ := h
 refine Ct.enter Tryz.func44 rfl Tryz.ntmps44 rfl fun w0 a S => ?_
 refine wp_sr fun Z hZ => ?_
 (refine wbx S ?_; clear S a; intro b3 a w S)
 (revert S a; revert hZ Z; refine go 6 ?_; intro Z hZ a S)
 (refine wc0 S (hu) ?_; clear S a; intro v a w hv S; subst hv)
 (revert S a; revert hZ Z; refine go 3 ?_; intro a S)
 refine wp_ret (fr1 S Tryz.results44 ?_)
 rfl
theorem zzFtD2 {p : Prop} (h : p := by (congr 1; first | (rw [isT_1 (by omega)]; unfold sBool; rw [Bool.eq_iff_iff]; simp; done) | (rw [isT_2 (by omega)]; unfold sInt; rw [Bool.eq_iff_iff]; simp; done) | (rw [isT_3 (by omega)]; unfold sBig; rw [Bool.eq_iff_iff]; simp; done) | (rw [isT_4 (by omega)]; unfold sText; rw [Bool.eq_iff_iff]; simp; done) | trace_state)) : p := h
theorem rispCt (F : Heap) (tp : Nat) (css : List KC) (x : Vv) (cs : List Value) (hk : 1 ≤ x.1.k ∧ x.1.k ≤ 4) (hV : VaC F cs x.1 x.2) (t : Ty) (cs2 : List Value) (h : TyC F cs2 t.1 t.2) : Ct Tryz.prog 131 [.pointer (some ⟨tp, 0, none⟩), .agg ⟨cs⟩, .agg ⟨cs2⟩] F [] (fun _ _ u => u = .bool (isT css x.1 x.2 t)) := by
 obtain ⟨a1, c1, rfl, -, -⟩ := vac_slc hV
 obtain ⟨va, rfl, aa, ca, rfl, -, -⟩ := h
 refine Ct.enter Tryz.func131 rfl Tryz.ntmps131 rfl fun w0 a S => ?_
 refine wp_sr fun Z hZ => ?_
 (refine wbx S ?_; clear S a; intro b4 a w S)
 (refine wbx S ?_; clear S a; intro b5 a w S)
 (revert S a; revert hZ Z; refine go 15 ?_; intro Z hZ a S)
 refine wpc_sp S rfl ?_ ?_ <;> intro h
 ·(revert S a; refine go 7 ?_; intro a S)
  refine wp_ret (fr1 S Tryz.results131 ?_)
  exact zzFtD2
 (revert S a; refine go 5 ?_; intro a S)
 refine wpc_sp S rfl ?_ ?_ <;> intro h
 ·(revert S a; refine go 7 ?_; intro a S)
  refine wp_ret (fr1 S Tryz.results131 ?_)
  exact zzFtD2
 (revert S a; refine go 5 ?_; intro a S)
 refine wpc_sp S rfl ?_ ?_ <;> intro h
 ·(revert S a; refine go 7 ?_; intro a S)
  refine wp_ret (fr1 S Tryz.results131 ?_)
  exact zzFtD2
 refine wp_sr fun Z hZ => ?_
 (refine wv S (sv_lit (c := true) (sv_pure S rfl) (by rw [beq_iff_eq]; omega)) ?_; clear S a; intro a S)
 (revert S a; revert hZ Z; refine go 3 ?_; intro a S)
 refine wpc_true S rfl ?_
 (revert S a; refine go 7 ?_; intro a S)
 refine wp_ret (fr1 S Tryz.results131 ?_)
 exact zzFtD2
theorem risPCt (F : Heap) (tp : Nat) (ts : List TD) (hT : RTab F tp ts) (css : List KC) (x : Vv) (cs : List Value) (hk : 1 ≤ x.1.k ∧ x.1.k ≤ 4) (hV : VaC F cs x.1 x.2) (t : Ty) (cs2 : List Value) (h : TyC F cs2 t.1 t.2) (hd : depthL t.2 ≤ 1000000000) : Ct Tryz.prog 77 [.pointer (some ⟨tp, 0, none⟩), .agg ⟨cs⟩, .agg ⟨cs2⟩] F [] (fun _ _ u => u = .bool (isF ts css x.1 x.2 t)) := by
 have hq := chkPCt F x cs hk hV
 have hu := ruseCt tp ts F hT t.1 t.2 cs2 h hd
 have hc := rclosedCt F t.2.size t.1 t.2 cs2 (Nat.le_refl _) h
 have hi := rispCt F tp css x cs hk hV t cs2 h
 obtain ⟨a1, c1, rfl, -, -⟩ := vac_slc hV
 obtain ⟨va, rfl, aa, ca, rfl, -, -⟩ := h
 refine Ct.enter Tryz.func77 rfl Tryz.ntmps77 rfl fun w0 a S => ?_
 refine wp_sr fun Z hZ => ?_
 (refine wbx S ?_; clear S a; intro b4 a w S)
 (refine wbx S ?_; clear S a; intro b5 a w S)
 (revert S a; revert hZ Z; refine go 5 ?_; intro Z hZ a S)
 (refine wc0 S hq ?_; clear S a; intro v8 a w hv S; obtain ⟨e8, rfl, he8⟩ := hv)
 (revert S a; refine go 2 ?_; intro a S)
 refine wgd S ?_ ?_
 ·(clear S; intro h S)
  (revert S a; refine go 4 ?_; intro a S)
  (refine wc0 S (hu) ?_; clear S a; intro v a w hv S; subst hv)
  (revert S a; refine go 4 ?_; intro a S)
  refine wgd S ?_ ?_
  ·(clear S; intro h S)
   (revert S a; refine go 2 ?_; intro a S)
   (refine wc0 S (hc) ?_; clear S a; intro v a w hv S; subst hv)
   (revert S a; refine go 2 ?_; intro a S)
   refine wgd S ?_ ?_
   ·(clear S; intro h S)
    (revert S a; refine go 6 ?_; intro a S)
    (refine wc0 S (hi) ?_; clear S a; intro v a w hv S; subst hv)
    (revert S a; revert hZ Z; refine go 4 ?_; intro a S)
    refine wp_ret (fr1 S Tryz.results77 ?_)
    (congr 1; unfold isF wellT; clear hq hu hc hi; rw [Bool.eq_iff_iff]; simp_all; done)
   (clear S a; intro h a S)
   (revert S a; revert hZ Z; refine go 7 ?_; intro a S)
   refine wp_ret (fr1 S Tryz.results77 ?_)
   (congr 1; unfold isF wellT; clear hq hu hc hi; rw [Bool.eq_iff_iff]; simp_all; done)
  (clear S a; intro h a S)
  (revert S a; revert hZ Z; refine go 11 ?_; intro a S)
  refine wp_ret (fr1 S Tryz.results77 ?_)
  (congr 1; unfold isF wellT; clear hq hu hc hi; rw [Bool.eq_iff_iff]; simp_all; done)
 (clear S a; intro h a S)
 (revert S a; revert hZ Z; refine go 17 ?_; intro a S)
 refine wp_ret (fr1 S Tryz.results77 ?_)
 (congr 1; unfold isF wellT; clear hq hu hc hi; rw [Bool.eq_iff_iff]; simp_all; done)
theorem fitL_at {ts : List TD} {css : List KC} {L : Ef} {ys : List Ty} {i : Nat} {x : EH × Ef} {y : Ty} (hx : L.get? i = some x) (hy : ys[i]? = some y) : fitL ts css (L.drop i) (ys.drop i) = (fitE ts css x.1 x.2 y && fitL ts css (L.drop (i + 1)) (ys.drop (i + 1))) := by
 obtain ⟨h1, h2⟩ := List.getElem?_eq_some_iff.1 hy
 rw [Rose.drop_get hx, List.drop_eq_getElem_cons h1, h2]; rfl
theorem fitL_end {ts : List TD} {css : List KC} {L : Ef} {ys : List Ty} {i : Nat} (h1 : L.len ≤ i) (h2 : ys.length ≤ i) : fitL ts css (L.drop i) (ys.drop i) = true := by
 rw [Rose.drop_len h1, List.drop_of_length_le h2]; rfl
theorem good_lit1 {h : EH} {L : Ef} (hg : (goodH h L.len && goodL L) = true) (h1 : h.k = 1) : (1 ≤ h.v.k ∧ h.v.k ≤ 4) ∧ L = .nil := by
 rw [good_1 h1] at hg
 simp only [Bool.and_eq_true, decide_eq_true_eq] at hg
 exact ⟨hg.1.1.1, len0 hg.1.2⟩
theorem good_leaf {h : EH} {L : Ef} (hg : (goodH h L.len && goodL L) = true) (h1 : h.k = 2 ∨ h.k = 3) : L = .nil := by
 rw [Bool.and_eq_true, good_n' (by omega), Bool.and_eq_true] at hg
 refine len0 ?_
 rcases h1 with k | k
 ·have h2 := hg.1.1
  rw [midQ_2 k, Bool.and_eq_true, decide_eq_true_eq] at h2; exact h2.2
 ·have h2 := hg.1.1
  rw [midQ_3 k, Bool.and_eq_true, decide_eq_true_eq, decide_eq_true_eq] at h2; exact h2.2
theorem good_kind {h : EH} {L : Ef} (hg : (goodH h L.len && goodL L) = true) (h1 : ¬ h.k = 1) (h4 : ¬ h.k = 4) (h5 : ¬ h.k = 5) : h.k = 2 ∨ h.k = 3 := by
 refine Classical.byContradiction fun h9 => ?_
 rw [Bool.and_eq_true, good_n' h1, Bool.and_eq_true] at hg
 have h2 := hg.1.1
 rw [midQ_0 ⟨by omega, by omega, h4, h5⟩] at h2
 cases h2
theorem fitE_1 {ts : List TD} {css : List KC} {h : EH} {x : Ty} (h1 : h.k = 1) : fitE ts css h .nil x = isF ts css h.v h.vl x := by
 unfold fitE kidOK
 rw [if_pos h1, kidF_x (by omega) (by omega)]
 exact Bool.and_true _
theorem fitE_v {ts : List TD} {css : List KC} {h : EH} {x : Ty} (h1 : h.k = 2 ∨ h.k = 3) : fitE ts css h .nil x = true := by
 unfold fitE kidOK
 rw [if_neg (by omega), if_neg (by omega), if_neg (by omega), kidF_x (by omega) (by omega)]; rfl
theorem fitE_4 {ts : List TD} {css : List KC} {h : EH} {L : Ef} {x : Ty} (h4 : h.k = 4) : fitE ts css h L x = ((decide (x.1 = sTuple) && decide (x.2.len = L.len)) && fitL ts css L (tysOf x.2)) := by
 unfold fitE kidOK
 rw [if_neg (by omega), if_pos h4, kidF_4 h4]
theorem fitE_5n {ts : List TD} {css : List KC} {h : EH} {L : Ef} {x : Ty} (h5 : h.k = 5) (hc : findC css h.nm = none) : fitE ts css h L x = false := by
 unfold fitE kidOK
 rw [if_neg (by omega), if_neg (by omega), if_pos h5, hc]; rfl
theorem fitE_5 {ts : List TD} {css : List KC} {h : EH} {L : Ef} {x : Ty} {c : KC} (h5 : h.k = 5) (hc : findC css h.nm = some c) : fitE ts css h L x = (decide (c.ty = x.1) && decide (c.fs.length = L.len) && (if c.ty = x.1 ∧ c.fs.length = L.len then fitL ts css L (c.fs.map fun f => putT c.ps x.2 (f.tn, f.ta)) else fitL ts css L [])) := by
 unfold fitE kidOK kidF
 rw [if_neg (by omega), if_neg (by omega), if_pos h5, hc, if_neg (by omega), if_pos h5]
 dsimp only
 split <;> rfl
theorem rk_of {css : List KC} {s : List UInt8} {c : KC} {b : Bool} (h : findC css s = some c ∨ findC css s = none) (hb : (findC css s).isSome = b) : if b = true then findC css s = some c else findC css s = none := by
 subst hb
 rcases h with h | h
 ·rw [h]; rfl
 ·rw [h]; rfl
def Ft12 (tp : Nat) (ts : List TD) (n : Nat) : Prop := ∀ (F : Heap) (h : EH) (L : Ef) (cs : List Value) (t : Ty) (cs2 : List Value), L.size < n → RTab F tp ts → PxC F cs h L → BndH h → BndL L → (goodH h L.len && goodL L) = true → TyC F cs2 t.1 t.2 → ThinT t → depthL t.2 + 2000 * L.size ≤ 100000000 →
 Ct Tryz.prog 45 [.pointer (some ⟨tp, 0, none⟩), .agg ⟨cs⟩, .agg ⟨cs2⟩] F [] (fun _ _ u => u = .bool (fitE ts (consOf ts) h L t))
theorem zzFtE0 {p : Prop} (h : p := by (congr 1; first | (obtain ⟨-, rfl⟩ := good_lit1 hg (by omega); rw [fitE_1 (by omega)]; done) | (have h23 := good_kind hg (by omega) (by omega) (by omega); rw [good_leaf hg h23, fitE_v h23]; done) | (rw [fitE_5n (by omega) (by have := rk_of hc (by assumption : (findC (consOf ts) eh.nm).isSome = false); rwa [if_neg (by decide)] at this)]; done) | (have hcs : findC (consOf ts) eh.nm = some c := (by have := rk_of hc (by assumption : (findC (consOf ts) eh.nm).isSome = true); rwa [if_pos rfl] at this); rw [fitE_5 (by omega) hcs]; first | (rw [decide_eq_false (show ¬ c.ty = t.1 by assumption), Bool.false_and, Bool.false_and]; done) | (rw [decide_eq_false (show ¬ c.fs.length = L.len by omega), Bool.and_false, Bool.false_and]; done) | (rw [decide_eq_true hct, decide_eq_true hcl, if_pos ⟨hct, hcl⟩, ← hfp]; first | (rw [fitL_end (by omega) (by rw [List.length_map]; omega)]; rfl) | (rw [fitL_at hx hzm, (by assumption : fitE ts (consOf ts) x.1 x.2 (putT c.ps t.2 (z.tn, z.ta)) = false)]; rfl))) | (rw [fitE_4 (by omega)]; first | (rw [decide_eq_true ht1, decide_eq_true htl, ← hfp]; first | (rw [fitL_end (by omega) (by rw [tysOf_len]; omega)]; rfl) | (rw [fitL_at hx (by rw [tysOf_get]; exact hy), (by assumption : fitE ts (consOf ts) x.1 x.2 y = false)]; rfl)) | (rw [decide_eq_false (show ¬ t.2.len = L.len by omega), Bool.and_false, Bool.false_and]; done) | (rw [decide_eq_false (show ¬ t.1 = sTuple by first | assumption | (unfold sTuple; simp_all; done)), Bool.false_and, Bool.false_and]; done)) | trace_state)) : p := h
theorem fits12Ct (tp : Nat) (ts : List TD) (hKT : KThin (consOf ts)) (hKD : ∀ c ∈ consOf ts, ∀ f ∈ c.fs, depthL f.ta ≤ 1000) : ∀ n, Ft12 tp ts n := by
 intro n
 induction n with
 | zero => intro F h L cs t cs2 hn; omega
 | succ n ih =>
 intro F eh L cs t cs2 hn hT hX hb hbl hg hty hth hd
 have hkt := kid_types hKT hKD (h := eh) (n := L.len) hth
 have hg2 := (Bool.and_eq_true _ _).mp hg
 obtain ⟨a1, n1, c1, ao, cap, rfl, hv, hL⟩ := id hX
 obtain ⟨_, _, e9, hcap, hpos⟩ := hL
 cases e9
 obtain ⟨va, rfl, hva⟩ := id hty
 obtain ⟨aa, ca, rfl, hca, hposT⟩ := id hva
 refine Ct.enter Tryz.func45 rfl Tryz.ntmps45 rfl fun w0 a S => ?_
 refine wp_sr fun Z hZ => ?_
 (refine wbx S ?_; clear S a; intro b4 a w S)
 (refine wbx S ?_; clear S a; intro b5 a w S)
 (revert S a; revert hZ Z; refine go 15 ?_; intro Z hZ a S)
 refine wpc_sp S rfl ?_ ?_ <;> intro h
 ·(revert S a; refine go 5 ?_; intro Z hZ a S)
  (refine wc0 S (risPCt F tp ts hT (consOf ts) (eh.v, eh.vl) _ (good_lit1 hg (by omega)).1 ⟨_, rfl, hv, hb.2⟩ t _ hty (by omega)) ?_; clear S a; intro v19 a w hv9 S; subst hv9)
  (revert S a; revert hZ Z; refine go 3 ?_; intro a S)
  refine wp_ret (fr1 S Tryz.results45 ?_)
  exact zzFtE0
 (revert S a; refine go 5 ?_; intro a S)
 refine wpc_sp S rfl ?_ ?_ <;> intro h
 ·(revert S a; refine go 6 ?_; intro Z hZ Z hZ a S)
  refine wgd S ?_ ?_
  ·(clear S; intro h S)
   (revert S a; revert hZ Z; refine go 16 ?_; intro a S)
   refine wpc_sp S rfl ?_ ?_ <;> intro h
   ·(revert S a; refine go 4 ?_; intro a S)
    refine wp_ret (fr1 S Tryz.results45 ?_)
    exact zzFtE0
   (revert S a; revert hZ Z; refine go 2 ?_; intro a S)
   (refine wp_seq_k ?_; intro Z hZ)
   (have htl : t.2.len = L.len := (by omega); have hk4 : eh.k = 4 := (by omega); have ht1 : t.1 = sTuple := (by first | assumption | (unfold sTuple; simp_all; done)))
   (revert S a; revert hZ Z; refine go 5 ?_; intro a S)
   refine wpc_loop (fun m a w' => ∃ (i : Nat), m = L.len - i ∧ i ≤ L.len ∧ fitL ts (consOf ts) (L.drop i) ((tysOf t.2).drop i) = fitL ts (consOf ts) L (tysOf t.2) ∧ St 107 [(0, ptr tp), (4, ptr b4), (5, ptr b5), (7, .int .i64 (i : Int))] w0 F [] F [[(b5, .cells ⟨[.string (bs t.1), .slice aa t.2.len ca]⟩ 49 (0, 0))], [(b4, .cells ⟨[.int .u8 (eh.k : Int), .int .i64 eh.l, .int .i64 eh.c, .string (bs eh.nm), .int .u8 (eh.v.k : Int), .int .i64 eh.v.n, .string (bs eh.v.s), .slice a1 n1 c1, .slice ao L.len cap]⟩ 29 (0, 0))]] a w') ?_ ?_
   ·(refine ⟨L.len, 0, by omega, Nat.zero_le _, rfl, ?_⟩; refine S.keep ?_; exact zk)
   (clear S; rintro m a w ⟨i, rfl, hil, hfp, S⟩)
   (revert S a; refine go 9 ?_; intro Z hZ a S)
   refine wpc_sp S rfl ?_ ?_ <;> intro h
   ·(revert S a; revert hZ Z; refine go 4 ?_; intro Z hZ a S)
    (refine wp_seq_k ?_; intro Z hZ)
    (obtain ⟨b8, o8, hao, x, cs1, u1, hx, hc1, hw9, hT1⟩ := TrM.pos hpos (k := i) (by omega); rw [hao] at S; have hXx := pxc_of hw9 hT1; have hXc := hXx; obtain ⟨a91, n91, c91, a92, c92, exx, -, -⟩ := hXc; rw [exx] at hc1 hXx; have hbx := hbl.get hx; have hxs := Rose.size_get hx; have hgx := (Bool.and_eq_true _ _).mpr (goodL_get hg2.2 hx); obtain ⟨b7, o7, hat, y, v1, hy, hd1, hTy⟩ := FoM.pos hposT (k := i) (by omega); rw [hat] at S; obtain ⟨a93, c93, rfl, -, -⟩ := id hTy; have hky := hkt y (by rw [kidF_4 hk4]; exact List.mem_of_getElem? ((tysOf_get t.2 i).trans hy)))
    (refine wpc_mixM [0, 1, 2, 3, 4, 5, 6, 7, 8, 9, 10, 12] [2, 5, 7, 10] [] (.one 0 (.one 1 (.one 2 (.one 3 (.one 4 (.one 5 (.one 6 (.one 7 (.one 8 (.one 9 (.one 10 (.one 11 (.one 12 .nil))))))))))))) [b4, b5] S mixed (by kernel_rfl) ?_; clear S; intro w S)
    (revert S a; refine go 5 ?_; intro a S)
    (refine wlF S rfl (fun w' S => sv_loadAF S rfl rfl hc1 (by rfl)) ?_; clear S a; intro a S)
    (revert S a; refine go 4 ?_; intro a S)
    (refine wlF S rfl (fun w' S => sv_loadAF S rfl rfl hd1 (by rfl)) ?_; clear S a; intro a S)
    refine wpm_eff rfl rfl (kwa S) ?_
    (refine wc0 S (ih F x.1 x.2 _ y _ (by omega) hT hXx hbx.1 hbx.2 hgx ⟨_, rfl, hTy⟩ hky.1 (by have := hky.2; omega)) ?_; clear S a; intro v52 a w hv9 S; subst hv9)
    (revert S a; revert hZ Z; refine go 4 ?_; intro a S)
    refine wpc_sp S rfl ?_ ?_ <;> intro h
    ·(revert S a; refine go 4 ?_; intro a S)
     refine wp_ret (fr1 S Tryz.results45 ?_)
     exact zzFtE0
    (revert S a; revert hZ Z; refine go 7 ?_; intro a S)
    change ∃ m', _ ∧ _
    (have hfy : fitE ts (consOf ts) x.1 x.2 y = true := (by assumption); rw [← hao, ← hat] at S; refine ⟨L.len - (i + 1), by omega, i + 1, rfl, by omega, by rw [← hfp, fitL_at hx (by rw [tysOf_get]; exact hy), hfy, Bool.true_and], ?_⟩; refine S.keep ?_; exact zk)
   (refine wp_exit ?_; conv => whnf)
   clear hZ Z
   (revert S a; revert hZ Z; refine go 5 ?_; intro a S)
   refine wp_ret (fr1 S Tryz.results45 ?_)
   exact zzFtE0
  (clear S a; intro h a S)
  (revert S a; revert hZ Z; refine go 9 ?_; intro a S)
  refine wpc_true S rfl ?_
  (revert S a; refine go 4 ?_; intro a S)
  refine wp_ret (fr1 S Tryz.results45 ?_)
  exact zzFtE0
 (revert S a; refine go 5 ?_; intro a S)
 refine wpc_sp S rfl ?_ ?_ <;> intro h
 ·(revert S a; refine go 4 ?_; intro Z hZ a S)
  (refine wcF S (rconsCt F tp ts hT eh.nm) ?_; clear S a; intro v60 F9 a w hv9 hF9 S; obtain ⟨c, a1c, n1c, c1c, a4c, c4c, rfl, hc, hps, hfs⟩ := hv9; obtain ⟨_, _, e8, hcapf, hposF⟩ := id hfs; cases e8)
  (revert S a; refine go 3 ?_; intro a S)
  (refine wpl_alloc S rfl rfl rfl rfl ?_; clear S a; intro b8 a w S)
  (refine wso S rfl rfl ?_; clear S; intro w S)
  (revert S a; revert hZ Z; refine go 8 ?_; intro Z hZ Z hZ a S)
  refine wgd S ?_ ?_
  ·(clear S; intro h S)
   (revert S a; refine go 11 ?_; intro a S)
   refine wgd S ?_ ?_
   ·(clear S; intro h S)
    (revert S a; revert hZ Z; refine go 16 ?_; intro a S)
    refine wpc_sp S rfl ?_ ?_ <;> intro h
    ·(revert S a; refine go 4 ?_; intro a S)
     refine wp_ret (fr1 S Tryz.results45 ?_)
     exact zzFtE0
    (revert S a; revert hZ Z; refine go 2 ?_; intro a S)
    (refine wp_seq_k ?_; intro Z hZ)
    (have hk5 : eh.k = 5 := (by omega); have hcs : findC (consOf ts) eh.nm = some c := (by have := rk_of hc (by assumption : (findC (consOf ts) eh.nm).isSome = true); rwa [if_pos rfl] at this); have hct : c.ty = t.1 := (by assumption); have hcl : c.fs.length = L.len := (by omega); have hkid : kidF (consOf ts) eh L.len t = c.fs.map (fun f => putT c.ps t.2 (f.tn, f.ta)) := (by unfold kidF; rw [if_neg (by omega), if_pos hk5, hcs]; dsimp only; rw [if_pos ⟨hct, hcl⟩]))
    (revert S a; revert hZ Z; refine go 5 ?_; intro a S)
    refine wpc_loop (fun m a w' => ∃ (i : Nat) (F3 : Heap), m = L.len - i ∧ i ≤ L.len ∧ (∀ b o, F9 b = some o → F3 b = some o) ∧ fitL ts (consOf ts) (L.drop i) ((c.fs.map fun f => putT c.ps t.2 (f.tn, f.ta)).drop i) = fitL ts (consOf ts) L (c.fs.map fun f => putT c.ps t.2 (f.tn, f.ta)) ∧ St 107 [(0, ptr tp), (4, ptr b4), (5, ptr b5), (8, ptr b8), (10, .int .i64 (i : Int))] w0 F [] F3 [[(b8, .cells ⟨[.string (bs c.ty), .slice a1c n1c c1c, .int .i64 c.pl, .slice a4c c.fs.length c4c]⟩ 151 (0, 0))], [(b5, .cells ⟨[.string (bs t.1), .slice aa t.2.len ca]⟩ 49 (0, 0))], [(b4, .cells ⟨[.int .u8 (eh.k : Int), .int .i64 eh.l, .int .i64 eh.c, .string (bs eh.nm), .int .u8 (eh.v.k : Int), .int .i64 eh.v.n, .string (bs eh.v.s), .slice a1 n1 c1, .slice ao L.len cap]⟩ 29 (0, 0))]] a w') ?_ ?_
    ·(refine ⟨L.len, 0, F9, by omega, Nat.zero_le _, fun _ _ h => h, rfl, ?_⟩; refine S.keep ?_; exact zk)
    (clear S; rintro m a w ⟨i, F3, rfl, hil, hF3, hfp, S⟩)
    (revert S a; refine go 9 ?_; intro Z hZ a S)
    refine wpc_sp S rfl ?_ ?_ <;> intro h
    ·(revert S a; revert hZ Z; refine go 4 ?_; intro Z hZ a S)
     (refine wp_seq_k ?_; intro Z hZ)
     (obtain ⟨b88, o8, hao, x, cs1, u1, hx, hc1, hw9, hT1⟩ := TrM.pos hpos (k := i) (by omega); rw [hao] at S; have hXx := (pxc_of hw9 hT1).mono (fun b o h => hF3 _ _ (hF9 _ _ h)); have hXc := hXx; obtain ⟨a91, n91, c91, a92, c92, exx, -, -⟩ := hXc; replace hc1 := Cels.mono hF3 (Cels.mono hF9 hc1); rw [exx] at hc1 hXx; have hbx := hbl.get hx; have hxs := Rose.size_get hx; have hgx := (Bool.and_eq_true _ _).mpr (goodL_get hg2.2 hx); obtain ⟨b7, o7, haf, z, cs2, hz, hd1, ⟨v1, rfl, hTz⟩⟩ := LiM.pos hposF (k := i) (by omega); rw [haf] at S; replace hd1 := Cels.mono hF3 hd1; replace hTz := hTz.mono hF3; obtain ⟨a93, c93, rfl, -, -⟩ := id hTz; have hd2 := Cels.drop hd1 1; have hzm : (c.fs.map fun f => putT c.ps t.2 (f.tn, f.ta))[i]? = some (putT c.ps t.2 (z.tn, z.ta)) := (by rw [List.getElem?_map, hz]; rfl); have hky := hkt _ (by rw [hkid]; exact List.mem_of_getElem? hzm); have hz40 := hKT c (findC_mem hcs) z (List.mem_of_getElem? hz))
     (refine wpc_mixM [0, 1, 2, 3, 4, 5, 6, 7, 8, 9, 10, 11, 12, 13, 14, 15, 18] [2, 5, 7, 11, 13, 15] [] (.one 0 (.one 1 (.one 2 (.one 3 (.one 4 (.one 5 (.one 6 (.one 7 (.one 8 (.one 9 (.one 10 (.one 11 (.one 12 (.one 13 (.one 14 (.one 15 (.one 16 (.one 17 (.one 18 .nil))))))))))))))))))) [b4, b8, b5] S mixed (by kernel_rfl) ?_; clear S; intro w S)
     (revert S a; refine go 5 ?_; intro a S)
     (refine wlF S rfl (fun w' S => sv_loadAF S rfl rfl hc1 (by rfl)) ?_; clear S a; intro a S)
     (revert S a; refine go 5 ?_; intro a S)
     (refine wlF S rfl (fun w' S => sv_loadAF S rfl rfl hd2 (by rfl)) ?_; clear S a; intro a S)
     (revert S a; refine go 5 ?_; intro a S)
     (refine wcF S (refPutCt F3 c.ps _ t.2 _ (lim_sl (hps.mono hF3)) (by obtain ⟨_, _, -, h9, -⟩ := hps; omega) ((hva.mono hF9).mono hF3) hth.2 (z.ta.size + 1) F3 z.tn z.ta _ (Nat.lt_succ_self _) (fun _ _ h => h) ⟨_, rfl, hTz⟩ hz40.1 hz40.2) ?_; clear S a; intro v104 F4 a w hv9 hF4 S; obtain ⟨a9, q9, c9, rfl, hs9⟩ := hv9)
     (revert S a; refine go 2 ?_; intro a S)
     (refine wc0 S (ih F4 x.1 x.2 _ (putT c.ps t.2 (z.tn, z.ta)) _ (by omega) (hT.mono (fun b o h => hF4 _ _ (hF3 _ _ (hF9 _ _ h)))) (hXx.mono hF4) hbx.1 hbx.2 hgx ⟨_, rfl, hs9⟩ hky.1 (by have := hky.2; omega)) ?_; clear S a; intro v105 a w hv9 S; subst hv9)
     (revert S a; revert hZ Z; refine go 4 ?_; intro a S)
     refine wpc_sp S rfl ?_ ?_ <;> intro h
     ·(revert S a; refine go 4 ?_; intro a S)
      refine wp_ret (fr1 S Tryz.results45 ?_)
      exact zzFtE0
     (revert S a; revert hZ Z; refine go 7 ?_; intro a S)
     change ∃ m', _ ∧ _
     (have hfy : fitE ts (consOf ts) x.1 x.2 (putT c.ps t.2 (z.tn, z.ta)) = true := (by assumption); rw [← hao, ← haf] at S; refine ⟨L.len - (i + 1), by omega, i + 1, F4, rfl, by omega, fun b o h => hF4 _ _ (hF3 _ _ h), by rw [← hfp, fitL_at hx hzm, hfy, Bool.true_and], ?_⟩; refine S.keep ?_; exact zk)
    (refine wp_exit ?_; conv => whnf)
    clear hZ Z
    (revert S a; revert hZ Z; refine go 5 ?_; intro a S)
    refine wp_ret (fr1 S Tryz.results45 ?_)
    exact zzFtE0
   (clear S a; intro h a S)
   (revert S a; revert hZ Z; refine go 9 ?_; intro a S)
   refine wpc_true S rfl ?_
   (revert S a; refine go 4 ?_; intro a S)
   refine wp_ret (fr1 S Tryz.results45 ?_)
   exact zzFtE0
  (clear S a; intro h a S)
  (revert S a; revert hZ Z; refine go 16 ?_; intro a S)
  refine wpc_true S rfl ?_
  (revert S a; refine go 4 ?_; intro a S)
  refine wp_ret (fr1 S Tryz.results45 ?_)
  exact zzFtE0
 (revert S a; revert hZ Z; refine go 6 ?_; intro a S)
 refine wp_ret (fr1 S Tryz.results45 ?_)
 exact zzFtE0
theorem fits12MCt (F : Heap) (tp : Nat) (ts : List TD) (hKT : KThin (consOf ts)) (hKD : ∀ c ∈ consOf ts, ∀ f ∈ c.fs, depthL f.ta ≤ 1000) (hT : RTab F tp ts) (eh : EH) (L : Ef) (cs : List Value) (t : Ty) (cs2 : List Value) (hX : PxC F cs eh L) (hb : BndH eh) (hbl : BndL L) (hty : TyC F cs2 t.1 t.2) (hth : ThinT t) (hd : depthL t.2 + 2000 * L.size ≤ 100000000) :
  Ct Tryz.prog 21 [.pointer (some ⟨tp, 0, none⟩), .agg ⟨cs⟩, .agg ⟨cs2⟩] F [] (fun _ _ u => u = .bool (FitsF ts eh L t)) := by
 have hm := may6Ct F eh L cs (by omega) hb hbl hX
 have hw := rwell12Ct F tp ts hT t cs2 hty (by omega)
 have hf := fun hg => fits12Ct tp ts hKT hKD (L.size + 1) F eh L cs t cs2 (Nat.lt_succ_self _) hT hX hb hbl hg hty hth hd
 obtain ⟨a1, n1, c1, ao, cap, rfl, -, -⟩ := hX
 obtain ⟨va, rfl, aa, ca, rfl, -, -⟩ := hty
 refine Ct.enter Tryz.func21 rfl Tryz.ntmps21 rfl fun w0 a S => ?_
 refine wp_sr fun Z hZ => ?_
 (refine wbx S ?_; clear S a; intro b4 a w S)
 (refine wbx S ?_; clear S a; intro b5 a w S)
 (revert S a; revert hZ Z; refine go 5 ?_; intro Z hZ a S)
 (refine wc0 S (hm) ?_; clear S a; intro v a w hv S; subst hv)
 (revert S a; refine go 1 ?_; intro a S)
 refine wgd S ?_ ?_
 ·(clear S; intro h S)
  (revert S a; refine go 4 ?_; intro a S)
  (refine wc0 S (hw) ?_; clear S a; intro v a w hv S; subst hv)
  (revert S a; refine go 2 ?_; intro a S)
  refine wgd S ?_ ?_
  ·(clear S; intro h S)
   (revert S a; refine go 6 ?_; intro a S)
   (refine wc0 S (hf (by have h9 : patZ eh L = true := (by assumption); unfold patZ at h9; exact ((Bool.and_eq_true _ _).mp h9).2)) ?_; clear S a; intro v a w hv S; subst hv)
   (revert S a; revert hZ Z; refine go 4 ?_; intro a S)
   refine wp_ret (fr1 S Tryz.results21 ?_)
   (congr 1; unfold FitsF; clear hm hw hf; simp_all; done)
  (clear S a; intro h a S)
  (revert S a; revert hZ Z; refine go 7 ?_; intro a S)
  refine wp_ret (fr1 S Tryz.results21 ?_)
  (congr 1; unfold FitsF; clear hm hw hf; simp_all; done)
 (clear S a; intro h a S)
 (revert S a; revert hZ Z; refine go 12 ?_; intro a S)
 refine wp_ret (fr1 S Tryz.results21 ?_)
 (congr 1; unfold FitsF; clear hm hw hf; simp_all; done)
end Go.Proofs.YthnafdbebniapaaGreatDoor
