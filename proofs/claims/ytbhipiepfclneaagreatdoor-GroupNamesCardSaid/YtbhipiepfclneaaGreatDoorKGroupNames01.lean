/- Walks. -/
import Derived.Test.YtbhipiepfclneaaGreatDoorQ04
import Derived.Test.YtbhipiepfclneaaGreatDoorQ03
import Derived.Test.YtbhipiepfclneaaGreatDoorQ02
import Derived.Test.YtbhipiepfclneaaGreatDoorQ01
import Derived.OpenShut
import Derived.Below
import Derived.Carry
import Derived.SizedLaws
import Derived.Deep.Slices
import Derived.Deep.Strs
import Derived.Test.YtbhipiepfclneaaGreatDoorQ17
import Derived.Test.YtbhipiepfclneaaGreatDoorQ26
import Derived.Test.YtbhipiepfclneaaGreatDoorQ25
import Derived.Test.YtbhipiepfclneaaGreatDoorQ24
import Derived.Test.YtbhipiepfclneaaGreatDoorQ23
import Derived.Test.YtbhipiepfclneaaGreatDoorQ22
import Derived.Test.YtbhipiepfclneaaGreatDoorQ18
import Derived.Test.YtbhipiepfclneaaGreatDoorQ16
import Derived.Test.YtbhipiepfclneaaGreatDoorQ11
import Derived.Test.YtbhipiepfclneaaGreatDoorQ09
import Derived.Test.YtbhipiepfclneaaGreatDoorQ06
import Derived.Test.YtbhipiepfclneaaGreatDoorQ05
import Derived.Test.YtbhipiepfclneaaGreatDoorKGroupNamesTy
import Derived.Test.YtbhipiepfclneaaGreatDoorQ10
import Derived.Test.YtbhipiepfclneaaGreatDoorQ07
import Derived.Test.YtbhipiepfclneaaGreatDoorQShelf
import Derived.Test.YtbhipiepfclneaaGreatDoorQ21
import Derived.Test.YtbhipiepfclneaaGreatDoorQ20
import Derived.Test.YtbhipiepfclneaaGreatDoorQ19
import Derived.Test.YtbhipiepfclneaaGreatDoorQ15
import Derived.Test.YtbhipiepfclneaaGreatDoorQ14
import Derived.Test.YtbhipiepfclneaaGreatDoorQ13
import Derived.Test.YtbhipiepfclneaaGreatDoorQ12
import Derived.Test.YtbhipiepfclneaaGreatDoorQ27
import Derived.Test.YtbhipiepfclneaaGreatDoorQ29
import Derived.Test.YtbhipiepfclneaaGreatDoorQ28
set_option maxHeartbeats 64000000
set_option maxRecDepth 20000
namespace Go.Wk
open Go Go.ChangeShapes Go.WideShapes
set_option linter.unusedSimpArgs false
set_option linter.unusedVariables false
theorem at_heapOf (w : World) : At w (heapOf w) [] := ⟨fun _ _ h => h, fun p h => by simp at h, by simp [keys]⟩
theorem below_of {W W' : World} {F' : Heap} {G' : List Grp} (h : Tr W (heapOf W) [] W' F' G') : Go.RowKit.Below W.heap.size W W' :=
 ⟨h.os, h.tape, h.output, h.size, fun k hk => h.old k hk (by simp)⟩
end Go.Wk
namespace Go.Proofs.YtbhipiepfclneaaGreatDoor
open Go Go.Wk Go.Un Go.De Go.Num
set_option linter.unusedSimpArgs false
set_option linter.unusedVariables false
attribute [local irreducible] Go.wpList Go.Code.wp Go.wpStill Go.Wk.wpPre Go.bodyPost Go.Calls Go.Wk.Ct Go.Wk.OwnS Go.Wk.wpG Go.Wk.wpM
theorem alD_sub {β : Type} : ∀ {x : List (List UInt8 × β)} {k : List UInt8}, (alD x k).Sublist x
 | [], _ => List.Sublist.slnil
 | (a, u) :: r, k => by
  unfold alD
  split
  ·exact List.sublist_cons_self _ _
  ·exact alD_sub.cons_cons _
theorem gDel_inv {aggs : List (List UInt8)} {x : GA} {key way : Vf} (hI : GInv aggs x) : GInv aggs (gDel x key way) := by
 unfold gDel
 by_cases h0 : delE x key way = 0
 ·rw [if_pos h0]
  generalize (txtG key).getD [] = k
  generalize (txtG way).getD [] = w
  unfold delG
  by_cases hn : alD (waysE x k) w = []
  ·rw [if_pos hn]
   exact ⟨hI.nd.sublist (alD_sub.map _), fun p hp => hI.all p (alD_sub.subset hp)⟩
  ·rw [if_neg hn]
   unfold waysE at hn
   cases hx : alG x k with
   | none => rw [hx] at hn; exact absurd rfl hn
   | some e =>
    rw [hx] at hn
    obtain ⟨x1, x2, rfl, h1, h2, -⟩ := alG_split hx
    have hE := hI.all (k, e) (by simp)
    rw [h2]
    refine ⟨by have := hI.nd; simpa using this, fun p hp => ?_⟩
    rcases List.mem_append.1 hp with hp | hp
    ·exact hI.all p (List.mem_append_left _ hp)
    ·rcases List.mem_cons.1 hp with rfl | hp
     ·have hs : ∀ v ∈ alD e.ways w, v ∈ e.ways := fun v hv => alD_sub.subset hv
      exact ⟨hn, hE.nd.sublist (alD_sub.map _), fun v hv => hE.len v (hs v hv), fun v hv v' hv' => hE.kind v (hs v hv) v' (hs v' hv'), fun v hv => hE.num v (hs v hv), fun v hv => hE.may v (hs v hv), fun v hv => hE.row v (hs v hv), hE.key, hE.krow⟩
     ·exact hI.all p (List.mem_append_right _ (List.mem_cons_of_mem _ hp))
 ·rw [if_neg h0]; exact hI
section
variable {P : Program} {n : Sz} {L : List (Nat × Value)} {w0 : World} {F0 : Heap} {K0 : List Nat} {F : Heap} {G : List Grp} {a : Act} {w : World} {o : Oper}
theorem sv_field1 {x : Operand} {vs : List Value} {t : TypeId} {fs : List (Nat × TypeId)} {i fo : Nat} {ft : TypeId} {u : Value} [ht : Flds P t fs] (S : St n L w0 F0 K0 F G a w) (ho : o.op = .field t x i) (hx : ev L x = some (.agg ⟨vs⟩))
  (hf : fs[i]? = some (fo, ft)) (he : One P ft) (hv : vs[fo]? = some u) : SV P o a w u := by
 obtain ⟨fields, h1, h2⟩ := ht.h
 rw [← h2, List.getElem?_map] at hf
 obtain ⟨f, hf', e⟩ := Option.map_eq_some_iff.1 hf
 simp only [Prod.mk.injEq] at e
 obtain ⟨rfl, rfl⟩ := e
 have hf2 : fields[i]? = some f := by simpa using hf'
 have h3 : (part f.type ⟨vs⟩ f.offset).run P w = .ok u w := by
  simp [part, isAgg_notAgg he, hv]
 unfold SV execOp
 rw [ho]
 simp [S.fr.eval hx, Instr.field, run_underlying h1, hf2, asAgg, h3]
end
theorem rowNilCt (F : Heap) (v1 : Value) : Ct Tryz.prog 15 [.pointer none, v1] F [] (fun _ _ u => u = .tuple ⟨[.slice none 0 0, .int .i64 2]⟩) := by
 refine Ct.enter Tryz.func15 rfl Tryz.ntmps15 rfl fun w0 a S => ?_
 (revert S a; refine go 8 ?_; intro Z hZ Z hZ a S)
 (refine wv S (sv_eqPtrNil S rfl rfl rfl) ?_; clear S a; intro a S)
 (revert S a; revert hZ Z; refine go 2 ?_; intro a S)
 refine wpc_true S rfl ?_
 (revert S a; refine go 5 ?_; intro a S)
 refine wp_ret (fr2 S Tryz.results15 ?_)
 rfl
theorem addNilCt (F : Heap) (v1 v2 v3 : Value) : Ct Tryz.prog 10 [.pointer none, v1, v2, v3] F [] (fun _ _ u => u = .int .i64 2) := by
 refine Ct.enter Tryz.func10 rfl Tryz.ntmps10 rfl fun w0 a S => ?_
 (revert S a; refine go 7 ?_; intro Z hZ Z hZ a S)
 (refine wv S (sv_eqPtrNil S rfl rfl rfl) ?_; clear S a; intro a S)
 (revert S a; revert hZ Z; refine go 2 ?_; intro a S)
 refine wpc_true S rfl ?_
 (revert S a; refine go 4 ?_; intro a S)
 refine wp_ret (fr1 S Tryz.results10 ?_)
 rfl
theorem delNilCt (F : Heap) (v1 v2 : Value) : Ct Tryz.prog 11 [.pointer none, v1, v2] F [] (fun _ _ u => u = .int .i64 2) := by
 refine Ct.enter Tryz.func11 rfl Tryz.ntmps11 rfl fun w0 a S => ?_
 (revert S a; refine go 7 ?_; intro Z hZ Z hZ a S)
 (refine wv S (sv_eqPtrNil S rfl rfl rfl) ?_; clear S a; intro a S)
 (revert S a; revert hZ Z; refine go 2 ?_; intro a S)
 refine wpc_true S rfl ?_
 (revert S a; refine go 4 ?_; intro a S)
 refine wp_ret (fr1 S Tryz.results11 ?_)
 rfl
theorem keysNoCt (F : Heap) : Ct Tryz.prog 25 [.pointer none] F [] (fun _ _ u => u = .slice none 0 0) := by
 refine Ct.enter Tryz.func25 rfl Tryz.ntmps25 rfl fun w0 a S => ?_
 (revert S a; refine go 7 ?_; intro Z hZ Z hZ a S)
 (refine wv S (sv_eqPtrNil S rfl rfl rfl) ?_; clear S a; intro a S)
 (revert S a; revert hZ Z; refine go 2 ?_; intro a S)
 refine wpc_true S rfl ?_
 (revert S a; refine go 4 ?_; intro a S)
 refine wp_ret (fr1 S Tryz.results25 ?_)
 rfl
theorem waysNilCt (F : Heap) (hT : TabF F) (key : Vf) (v1 : Value) (h1 : TrS F 4 VhR v1 key) (r1 : RowB key) : Ct Tryz.prog 27 [.pointer none, v1] F [] (fun _ _ u => u = .int .i64 0) := by
 have t1 := textCtG F hT v1 key h1 r1.rg r1.wt
 refine Ct.enter Tryz.func27 rfl Tryz.ntmps27 rfl fun w0 a S => ?_
 (revert S a; refine go 6 ?_; intro Z hZ a S)
 (refine wc0 S t1 ?_; clear S a; intro v9 a w hv S; subst hv; unfold tvV at S)
 (revert S a; revert hZ Z; refine go 10 ?_; intro Z hZ Z hZ a S)
 (refine wv S (sv_eqPtrNil S rfl rfl rfl) ?_; clear S a; intro a S)
 (revert S a; refine go 3 ?_; intro a S)
 (refine wv S (sv_lit (c := true) (sv_pure S rfl) (by rfl)) ?_; clear S a; intro a S)
 (revert S a; revert hZ Z; refine go 2 ?_; intro a S)
 refine wpc_true S rfl ?_
 (revert S a; refine go 4 ?_; intro a S)
 refine wp_ret (fr1 S Tryz.results27 ?_)
 rfl
theorem waysOldCt (F : Heap) (hT : TabF F) (bg : Nat) (av : Value) (gv : Gv) (gg : Grp) (hG : GsS bg av gv gg) (key : Vf) (v1 : Value) (h1 : TrS F 4 VhR v1 key) (r1 : RowB key)
  (k9 : List UInt8) (hk : txtG key = some k9) (e : Ev) (en : En) (hsome : alG gv k9 = some e) (hkv : TrS F 4 VhR e.kv en.key) (hav : av.oneCell' = true) :
  Ct Tryz.prog 27 [.pointer (some ⟨bg, 0, none⟩), v1] F [gg] (fun _ G' u => u = .int .i64 e.ws.length ∧ G' = [gg]) := by
 have t1 := textCtG F hT v1 key h1 r1.rg r1.wt
 rw [hk] at t1
 obtain ⟨bm, om, gw, rfl, hm, hw⟩ := hG
 obtain ⟨x1, x2, rfl, hx1, hup, hdl⟩ := alG_split hsome
 obtain ⟨g1, ow, g2, rfl, how, hwa, hwb⟩ := WaS.split hw
 have hmg : mGet (gvM (x1 ++ (k9, e) :: x2)) k9 = some (evV e) := by rw [mGet_gv, hsome]; rfl
 obtain ⟨kv, eb, ews⟩ := e
 obtain ⟨akv, ckv, rfl, -⟩ := hkv
 obtain ⟨a1, c1, rfl, -⟩ := h1
 generalize en.key.len = kvn at hm hmg hsome hup hdl ⊢
 refine Ct.enter Tryz.func27 rfl Tryz.ntmps27 rfl fun w0 a S => ?_
 (revert S a; refine go 4 ?_; intro a S)
 (refine wp_seq_k ?_; intro Z hZ)
 (replace S := spl5 S)
 (revert S a; refine go 2 ?_; intro a S)
 (refine wc0 S t1 ?_; clear S a; intro v9 a w hv S; subst hv; unfold tvV at S)
 (revert S a; revert hZ Z; refine go 10 ?_; intro Z hZ Z hZ a S)
 (refine wv S (sv_eqPtrSome S rfl rfl rfl) ?_; clear S a; intro a S)
 (revert S a; refine go 4 ?_; intro a S)
 iterate 2 (refine wv S (sv_lit (c := false) (sv_pure S rfl) (by rfl)) ?_; clear S a; intro a S)
 (revert S a; revert hZ Z; refine go 2 ?_; intro a S)
 refine wpc_false S rfl ?_
 (revert S a; revert hZ Z; refine go 8 ?_; intro Z hZ a S)
 (refine wv S (sv_lookP (enc := kS) (k := k9) S rfl rfl rfl hm) ?_; clear S a; intro a S; rw [hmg] at S; unfold evV at S)
 (refine wv S (sv_field1 S rfl rfl rfl inferInstance rfl) ?_; clear S a; intro a S)
 (refine wv S (sv_lenMap (enc := kS) S rfl rfl rfl how) ?_; clear S a; intro a S)
 (revert S a; revert hZ Z; refine go 3 ?_; intro a S)
 refine wp_ret ?_
 (replace S := joi5 S)
 refine fin_ret S (results1 Tryz.results27 (RV.tmp S rfl)) ?_
 exact ⟨rfl, rfl⟩
theorem numCt (F : Heap) (n : Int) : Ct Tryz.prog 28 ([] ++ [.int .i64 n] ++ []) F [] (fun F' _ u => TrS F' 4 VhR u (rwH [hN n])) := by
 refine Ct.enter Tryz.func28 rfl Tryz.ntmps28 rfl fun w0 a S => ?_
 (revert S a; refine go 7 ?_; intro Z hZ a S)
 (refine wpl_buildSlice S rfl rfl rfl rfl rfl rfl (by rfl) (by simp [Value.cells, splice, splice]) rfl (by rfl) (by rfl) ?_; clear S a; intro b5 a w hown S)
 (revert S a; revert hZ Z; refine go 3 ?_; intro a S)
 refine wp_ret ?_
 (have S' := frz1 S; clear S; obtain ⟨F7, hF7, hb5, S⟩ := S')
 refine fin_ret S (results1 Tryz.results28 (RV.tmp S rfl)) ?_
 exact row_lit (l := [hN n]) hb5 rfl (fun h hh => by obtain rfl := List.mem_singleton.1 hh; exact Nat.zero_le _) (show 1 ≤ 140737488355328 by decide)
section
variable {P : Program} {Q : Exit → Act → World → Prop} {n : Sz} {L : List (Nat × Value)} {w0 : World} {F0 : Heap} {K0 : List Nat} {F : Heap} {G : List Grp} {a : Act} {w : World}
variable {ops : Array Oper} {rest : List Oper} {o : Oper} {d : Nat} {x : Operand} {xs : Array Operand} {ts : Array TypeId} {f : FuncId} {fi ca vs args : List Value}
theorem wpl_gNewE {l : List (List UInt8)} {e : Int} [hf : HasFn P f] (S : St n L w0 F0 K0 F G a w) (hg : o.guard = none) (hd : o.dst = some d) (hn : Nat.blt d n.sz = true)
  (ho : o.op = .call { callee := .value x, args := xs, argTypes := ts }) (hx : ev L x = some (.func (.func f) ⟨fi⟩ ⟨ca⟩)) (hxs : evs L xs.toList = some vs) (C : Ct P f args F [] (fun _ G' u => NewQ l G' u)) (h0 : newG l = e) (h1 : e ≠ 0) (ha : fi ++ vs ++ ca = args)
  (k : ∀ a' w', St n ((d, .tuple ⟨[.pointer none, .int .i64 e]⟩) :: L) w0 F0 K0 F G a' w' → wpList P ops Q rest a' w') : wpList P ops Q (o :: rest) a w := by
 refine wpl_call0 S hg hd hn ho hx hxs (C.mono (Post' := fun _ _ u => u = .tuple ⟨[.pointer none, .int .i64 e]⟩) fun _ _ u hu => ?_) ha fun v a' w' hv S' => ?_
 ·rcases hu with ⟨-, h9⟩ | ⟨h9, -⟩
  ·rw [h9, h0]
  ·exact absurd (h0.symm.trans h9) h1
 ·subst hv
  exact k a' w' S'
theorem wpl_gRowE {Gr : List Grp} {gg : Grp} {bg : Nat} {av : Value} {X : GA} {aggs : List (List UInt8)} {key : Vf} {kx : List UInt8} {e : En} {er : Int} [hf : HasFn P f] (S : St n L w0 F0 K0 F G a w) (hg : o.guard = none) (hd : o.dst = some d) (hn : Nat.blt d n.sz = true)
  (ho : o.op = .call { callee := .value x, args := xs, argTypes := ts }) (hx : ev L x = some (.func (.func f) ⟨fi⟩ ⟨ca⟩)) (hxs : evs L xs.toList = some vs) (hO : GO F bg av X gg) (C : ∀ gv, GsS bg av gv gg → GvR F X gv → Ct P f args F [gg] (fun _ G' u => RowG aggs X key gg G' u)) (ha : fi ++ vs ++ ca = args) (hp : G.flatten.Perm (gg :: Gr).flatten)
  (hk : txtG key = some kx) (he : alG X kx = some e) (hl : 0 < aggs.length) (h0 : (rowA aggs e.ways 0).1 = er) (h1 : er ≠ 0)
  (k : ∀ a' w', St n ((d, .tuple ⟨[.slice none 0 0, .int .i64 er]⟩) :: L) w0 F0 K0 F (gg :: Gr) a' w' → wpList P ops Q rest a' w') : wpList P ops Q (o :: rest) a w := by
 obtain ⟨gv, hG, hX⟩ := hO
 refine wpl_callOwn (Gs := [gg]) (Gr := Gr) S hg hd hn ho hx hxs (C gv hG hX) ha (hp.trans (by simp)) fun v G' a' w' hv S' => ?_
 unfold RowG at hv
 rw [hk] at hv
 simp only [he] at hv
 rcases hv with ⟨i, hi, h2, h3, rfl, rfl⟩ | ⟨h2, -⟩
 ·rcases Nat.eq_zero_or_pos i with rfl | hz
  ·rw [h0] at S'; exact k a' w' S'
  ·exact absurd (h0.symm.trans (h3 0 hz)) h1
 ·exact absurd (h0.symm.trans (h2 0 hl)) h1
theorem wpl_gRow4 {Gr : List Grp} {gg : Grp} {bg : Nat} {av : Value} {X : GA} {aggs : List (List UInt8)} {key : Vf} [hf : HasFn P f] (S : St n L w0 F0 K0 F G a w) (hg : o.guard = none) (hd : o.dst = some d) (hn : Nat.blt d n.sz = true)
  (ho : o.op = .call { callee := .value x, args := xs, argTypes := ts }) (hx : ev L x = some (.func (.func f) ⟨fi⟩ ⟨ca⟩)) (hxs : evs L xs.toList = some vs) (hO : GO F bg av X gg) (C : ∀ gv, GsS bg av gv gg → GvR F X gv → Ct P f args F [gg] (fun _ G' u => RowG aggs X key gg G' u)) (ha : fi ++ vs ++ ca = args) (hp : G.flatten.Perm (gg :: Gr).flatten)
  (hk : txtG key = none)
  (k : ∀ a' w', St n ((d, .tuple ⟨[.slice none 0 0, .int .i64 4]⟩) :: L) w0 F0 K0 F (gg :: Gr) a' w' → wpList P ops Q rest a' w') : wpList P ops Q (o :: rest) a w := by
 obtain ⟨gv, hG, hX⟩ := hO
 refine wpl_callOwn (Gs := [gg]) (Gr := Gr) S hg hd hn ho hx hxs (C gv hG hX) ha (hp.trans (by simp)) fun v G' a' w' hv S' => ?_
 unfold RowG at hv
 rw [hk] at hv
 obtain ⟨rfl, rfl⟩ := hv
 exact k a' w' S'
theorem wpl_gWays {Gr : List Grp} {gg : Grp} {bg : Nat} {av : Value} {X : GA} {kx : List UInt8} {e : En} [hf : HasFn Tryz.prog f] (S : St n L w0 F0 K0 F G a w) (hg : o.guard = none) (hd : o.dst = some d) (hn : Nat.blt d n.sz = true)
  (ho : o.op = .call { callee := .value x, args := xs, argTypes := ts }) (hx : ev L x = some (.func (.func f) ⟨fi⟩ ⟨ca⟩)) (hxs : evs L xs.toList = some vs) (hO : GO F bg av X gg)
  (C : ∀ gv, GsS bg av gv gg → ∀ e' : Ev, alG gv kx = some e' → TrS F 4 VhR e'.kv e.key → Ct Tryz.prog f args F [gg] (fun _ G' u => u = .int .i64 e'.ws.length ∧ G' = [gg])) (ha : fi ++ vs ++ ca = args) (hp : G.flatten.Perm (gg :: Gr).flatten)
  (he : alG X kx = some e)
  (k : ∀ a' w', St n ((d, .int .i64 (e.ways.length : Int)) :: L) w0 F0 K0 F (gg :: Gr) a' w' → wpList Tryz.prog ops Q rest a' w') : wpList Tryz.prog ops Q (o :: rest) a w := by
 obtain ⟨gv, hG, hX⟩ := hO
 rcases hX.get kx with ⟨g1, -⟩ | ⟨e0, e', g1, g2, g3, g4⟩
 ·rw [he] at g1; cases g1
 ·rw [he] at g1
  cases g1
  refine wpl_callOwn (Gs := [gg]) (Gr := Gr) S hg hd hn ho hx hxs (C gv hG e' g2 g3) ha (hp.trans (by simp)) fun v G' a' w' hv S' => ?_
  obtain ⟨rfl, rfl⟩ := hv
  rw [← g4.len] at S'
  exact k a' w' S'
end
def b5N : Vf := rwH [⟨3, 0, [53]⟩]
def t0N : Vf := rwH [⟨4, 0, []⟩]
def z0N : Vf := rwH [⟨0, 0, []⟩]
def n3 : GA := gAdd agN n2 .nil (nr 3) (nr (-1))
def n4 : GA := gAdd agN n3 .nil (nr 4) b5N
def n5 : GA := gAdd agN n4 (nr 1) (nr 4) b5N
def n6 : GA := gAdd agN n5 (nr 2) (nr 4) t0N
def n7 : GA := gAdd agN n6 .nil (nr 3) (nr 7)
def n8 : GA := gAdd agN n7 .nil (nr 5) .nil
def n9 : GA := gAdd agN n8 z0N (nr 5) (nr 1)
def n10 : GA := gDel n9 .nil (nr 9)
theorem nE1 : addE agN [] .nil (nr 1) (nr mxI) = 0 := by kernel_rfl
theorem nE2 : addE agN n1 .nil (nr 2) (nr 1) = 0 := by kernel_rfl
theorem nE3 : addE agN n2 .nil (nr 3) (nr (-1)) = 0 := by kernel_rfl
theorem nE4 : addE agN n3 .nil (nr 4) b5N = 70 := by kernel_rfl
theorem nE5 : addE agN n4 (nr 1) (nr 4) b5N = 0 := by kernel_rfl
theorem nE6 : addE agN n5 (nr 2) (nr 4) t0N = 70 := by kernel_rfl
theorem nE7 : addE agN n6 .nil (nr 3) (nr 7) = 6 := by kernel_rfl
theorem nE8 : addE agN n7 .nil (nr 5) .nil = 1 := by kernel_rfl
theorem nE9 : addE agN n8 z0N (nr 5) (nr 1) = 4 := by kernel_rfl
theorem nE10 : delE n9 .nil (nr 9) = 5 := by kernel_rfl
def w2N : List (List UInt8 × Vf) := [([49, 59], nr mxI), ([50, 59], nr 1)]
def w3N : List (List UInt8 × Vf) := [([49, 59], nr mxI), ([50, 59], nr 1), ([51, 59], nr (-1))]
theorem nA2 : alG n2 [] = some ⟨.nil, w2N⟩ := by kernel_rfl
theorem nA3 : alG n3 [] = some ⟨.nil, w3N⟩ := by kernel_rfl
theorem nA10 : alG n10 [] = some ⟨.nil, w3N⟩ := by kernel_rfl
theorem nA77 : alG n10 [55, 55, 59] = none := by kernel_rfl
theorem nT77 : txtG (nr 77) = some [55, 55, 59] := by kernel_rfl
theorem nTz : txtG z0N = none := by kernel_rfl
theorem nR2 : (rowA agN w2N 0).1 = 80 := by kernel_rfl
theorem nR3 : rowA agN w3N 0 = (0, intV mxI) := by kernel_rfl
theorem nZ3 : ∀ i, i < agN.length → (rowA agN w3N i).1 = 0 := fun i hi => by
 match i, hi with
 | 0, _ => rw [nR3]
theorem nQ3 : roseOf ((List.range agN.length).map fun i => (rowA agN w3N i).2) = nr mxI := by
 show roseOf ([0].map fun i => (rowA agN w3N i).2) = nr mxI
 simp only [List.map_cons, List.map_nil, nR3]
 rfl
theorem nl0 : RowB .nil := ⟨trivial, Nat.zero_le _, trivial, Nat.zero_le _⟩
theorem nrB {n : Int} (h : -9223372036854775808 ≤ n ∧ n ≤ 9223372036854775807) : RowB (nr n) := by
 refine rowb_lit ?_ (by show 1 ≤ 100; decide)
 unfold smL
 simp only [List.all_cons, List.all_nil, decide_eq_true h.1, decide_eq_true h.2]
 rfl
theorem b5B : RowB b5N := rowb_lit (l := [⟨3, 0, [53]⟩]) rfl (by decide)
theorem t0B : RowB t0N := rowb_lit (l := [⟨4, 0, []⟩]) rfl (by decide)
theorem z0B : RowB z0N := rowb_lit (l := [⟨0, 0, []⟩]) rfl (by decide)
theorem nI1 : GInv agN n1 := gAdd_inv (gInv_nil _) nl0 (nrB (by decide))
theorem nI2 : GInv agN n2 := gAdd_inv nI1 nl0 (nrB (by decide))
theorem nI3 : GInv agN n3 := gAdd_inv nI2 nl0 (nrB (by decide))
theorem nI4 : GInv agN n4 := gAdd_inv nI3 nl0 b5B
theorem nI5 : GInv agN n5 := gAdd_inv nI4 (nrB (by decide)) b5B
theorem nI6 : GInv agN n6 := gAdd_inv nI5 (nrB (by decide)) t0B
theorem nI7 : GInv agN n7 := gAdd_inv nI6 nl0 (nrB (by decide))
theorem nI8 : GInv agN n8 := gAdd_inv nI7 nl0 nl0
theorem nI9 : GInv agN n9 := gAdd_inv nI8 z0B (nrB (by decide))
theorem nI10 : GInv agN n10 := gDel_inv nI9
theorem nlen {x : GA} (h : (x.all fun p => decide (p.2.ways.length ≤ 1000)) = true) : ∀ p ∈ x, p.2.ways.length ≤ 1000000000 := fun p hp => by
 have := List.all_eq_true.1 h p hp
 have := of_decide_eq_true this
 omega
theorem nL2 : ∀ p ∈ n2, p.2.ways.length ≤ 1000000000 := nlen (by kernel_rfl)
theorem nL3 : ∀ p ∈ n3, p.2.ways.length ≤ 1000000000 := nlen (by kernel_rfl)
theorem nL10 : ∀ p ∈ n10, p.2.ways.length ≤ 1000000000 := nlen (by kernel_rfl)
theorem row1 {F : Heap} {v : Value} {n : Int} (h : TrS F 4 VhR v (nr n)) : ∃ b o c, v = .slice (some ⟨b, o, none⟩) 1 c ∧ Cel F b (o + 0 * 4 + 1) (.int .i64 n) := by
 obtain ⟨ao, cap, rfl, hcap, hpos⟩ := h
 obtain ⟨b, o, rfl, x, cs, v1, h1, h2, ⟨rfl, -⟩, -⟩ := TrM.pos (k := 0) hpos (show 0 < 1 by decide)
 cases h1
 exact ⟨b, o, cap, rfl, h2 1 _ rfl⟩
theorem gNamesCt (F : Heap) (hq : TabF F) (he : ErrF F) : Ct Tryz.prog 6 [] F [] (fun _ _ u => u = .bool true) := by
 refine Ct.enter Tryz.func6 rfl Tryz.ntmps6 rfl fun w0 a S => ?_
 (revert S a; refine go 10 ?_; intro Z hZ a S)
 (refine wc0 S (rowNilCt F _) ?_; clear S a; intro v33 a w hv S; subst hv)
 (revert S a; revert hZ Z; refine go 8 ?_; intro Z hZ a S)
 (refine wpl_buildSlice S rfl rfl rfl rfl rfl rfl (by rfl) (by simp [Value.cells, splice, splice]) rfl (by rfl) (by rfl) ?_; clear S a; intro b37 a w hown S)
 (have S' := frz1 S; clear S; obtain ⟨F37, hF37, hb37, S⟩ := S'; replace hq := hq.mono hF37; replace he := he.mono hF37; refine wpl_gNewE S rfl rfl rfl rfl rfl rfl (newGCt F37 _ [[97, 118, 103]] (lim_of hb37 (strs_lic F37 [[97, 118, 103]]) (by decide)) (by decide)) (e := 1) (by kernel_rfl) (by decide) rfl ?_; clear S a; intro a w S)
 (revert S a; revert hZ Z; refine go 8 ?_; intro Z hZ a S)
 (refine wpl_makeSlice (q := 9) S rfl rfl rfl rfl rfl rfl rfl (by decide) (by decide) ?_; clear S a; intro b42 a w hown S; clear hown)
 (have S' := frz1 S; clear S; obtain ⟨F42, hF42, hb42, S⟩ := S'; replace hq := hq.mono hF42; replace he := he.mono hF42; refine wpl_gNewE S rfl rfl rfl rfl rfl rfl (newGCt F42 _ (List.replicate 9 []) (lim_of hb42 (strs_lic F42 (List.replicate 9 [])) (by decide)) (by decide)) (e := 1) (by kernel_rfl) (by decide) rfl ?_; clear S a; intro a w S)
 (revert S a; revert hZ Z; refine go 8 ?_; intro Z hZ a S)
 (refine wpl_buildSlice S rfl rfl rfl rfl rfl rfl (by rfl) (by simp [Value.cells, splice, splice]) rfl (by rfl) (by rfl) ?_; clear S a; intro b47 a w hown S)
 (have S' := frz1 S; clear S; obtain ⟨F47, hF47, hb47, S⟩ := S'; replace hq := hq.mono hF47; replace he := he.mono hF47; refine wpl_gNewE S rfl rfl rfl rfl rfl rfl (newGCt F47 _ (List.replicate 9 sCount) (lim_of hb47 (strs_lic F47 (List.replicate 9 sCount)) (by decide)) (by decide)) (e := 3) (by kernel_rfl) (by decide) rfl ?_; clear S a; intro a w S)
 (revert S a; revert hZ Z; refine go 8 ?_; intro Z hZ a S)
 (refine wpl_buildSlice S rfl rfl rfl rfl rfl rfl (by rfl) (by simp [Value.cells, splice, splice]) rfl (by rfl) (by rfl) ?_; clear S a; intro b52 a w hown S)
 (have S' := frz1 S; clear S; obtain ⟨F52, hF52, hb52, S⟩ := S'; replace hq := hq.mono hF52; replace he := he.mono hF52; refine wpl_gNew S rfl rfl rfl rfl rfl rfl (newGCt F52 _ agN (lim_of hb52 (strs_lic F52 agN) (by decide)) (by decide)) (by kernel_rfl) rfl ?_; clear S a; intro bg av gg F53 a w hO hA hF53 S; have W : AwN F53 av := ⟨hq.mono hF53, he.mono hF53, hA⟩; clear hA hq he)
 (revert S a; revert hZ Z; refine go 14 ?_; intro Z hZ a S)
 (refine wcF S (numCt F53 1) ?_; clear S a; intro v58 F58 a w hn58 hF58 S; replace W := W.mono hF58; replace hO := hO.mono hF58)
 (revert S a; refine go 1 ?_; intro a S)
 (refine wcF S (numCt F58 mxI) ?_; clear S a; intro v60 F60 a w hn60 hF60 S; replace W := W.mono hF60; replace hO := hO.mono hF60; replace hn58 := hn58.mono hF60)
 (refine wpl_gg S rfl rfl rfl rfl rfl rfl hO (fun gv h1 h2 => (addGCt F60 W.T bg av gv gg agN [] h1 W.A h2 (gInv_nil _) .nil (nr 1) (nr mxI) _ _ _ (TrS.nil _ _ _) hn58 hn60 nl0 (nrB (by decide)) (nrB (by decide))).mono (fun _ _ _ h => ⟨by rw [h.1, nE1], h.2⟩)) rfl (by exact List.Perm.refl _) ?_; clear S a hO gg; intro gg F61 a w hO hF61 S; replace W := W.mono hF61)
 (revert S a; revert hZ Z; refine go 6 ?_; intro Z hZ a S)
 (refine wcF S (numCt F61 2) ?_; clear S a; intro v64 F64 a w hn64 hF64 S; replace W := W.mono hF64; replace hO := hO.mono hF64)
 (revert S a; refine go 1 ?_; intro a S)
 (refine wcF S (numCt F64 1) ?_; clear S a; intro v66 F66 a w hn66 hF66 S; replace W := W.mono hF66; replace hO := hO.mono hF66; replace hn64 := hn64.mono hF66)
 (refine wpl_gg S rfl rfl rfl rfl rfl rfl hO (fun gv h1 h2 => (addGCt F66 W.T bg av gv gg agN n1 h1 W.A h2 nI1 .nil (nr 2) (nr 1) _ _ _ (TrS.nil _ _ _) hn64 hn66 nl0 (nrB (by decide)) (nrB (by decide))).mono (fun _ _ _ h => ⟨by rw [h.1, nE2], h.2⟩)) rfl (by exact List.Perm.refl _) ?_; clear S a hO gg; intro gg F67 a w hO hF67 S; replace W := W.mono hF67)
 (revert S a; revert hZ Z; refine go 5 ?_; intro Z hZ a S)
 (refine wpl_gRowE S rfl rfl rfl rfl rfl rfl hO (fun gv h1 h2 => rowGCt F67 W.T W.E bg av gv gg agN n2 h1 W.A (by decide) (by decide) h2 nI2 nL2 .nil _ (TrS.nil _ _ _) nl0) rfl (by exact List.Perm.refl _) rfl nA2 (by decide) nR2 (by decide) ?_; clear S a; intro a w S)
 (revert S a; revert hZ Z; refine go 10 ?_; intro Z hZ a S)
 (refine wcF S (numCt F67 3) ?_; clear S a; intro v75 F75 a w hn75 hF75 S; replace W := W.mono hF75; replace hO := hO.mono hF75)
 (revert S a; refine go 1 ?_; intro a S)
 (refine wcF S (numCt F75 (-1)) ?_; clear S a; intro v77 F77 a w hn77 hF77 S; replace W := W.mono hF77; replace hO := hO.mono hF77; replace hn75 := hn75.mono hF77)
 (refine wpl_gg S rfl rfl rfl rfl rfl rfl hO (fun gv h1 h2 => (addGCt F77 W.T bg av gv gg agN n2 h1 W.A h2 nI2 .nil (nr 3) (nr (-1)) _ _ _ (TrS.nil _ _ _) hn75 hn77 nl0 (nrB (by decide)) (nrB (by decide))).mono (fun _ _ _ h => ⟨by rw [h.1, nE3], h.2⟩)) rfl (by exact List.Perm.refl _) ?_; clear S a hO gg; intro gg F78 a w hO hF78 S; replace W := W.mono hF78)
 (revert S a; revert hZ Z; refine go 5 ?_; intro Z hZ a S)
 (refine wpl_gRow (r := nr mxI) S rfl rfl rfl rfl rfl rfl hO (fun gv h1 h2 => rowGCt F78 W.T W.E bg av gv gg agN n3 h1 W.A (by decide) (by decide) h2 nI3 nL3 .nil _ (TrS.nil _ _ _) nl0) rfl (by exact List.Perm.refl _) rfl nA3 nZ3 nQ3 ?_; clear S a; intro v81 F81 a w hr81 hF81 S; replace W := W.mono hF81; replace hO := hO.mono hF81; obtain ⟨br, orr, cr, rfl, hce⟩ := row1 hr81; clear hr81)
 (revert S a; revert hZ Z; refine go 10 ?_; intro Z hZ a S)
 (refine wcF S (numCt F81 4) ?_; clear S a; intro v86 F86 a w hn86 hF86 S; replace W := W.mono hF86; replace hO := hO.mono hF86; replace hce := hce.mono hF86)
 (revert S a; refine go 1 ?_; intro a S)
 (refine wpl_buildSlice S rfl rfl rfl rfl rfl rfl (by rfl) (by simp [Value.cells, splice, splice]) rfl (by rfl) (by rfl) ?_; clear S a; intro b88 a w hown S)
 (have S' := frz1 S; clear S; obtain ⟨F88, hF88, hb88, S⟩ := S'; replace W := W.mono hF88; replace hO := hO.mono hF88; replace hce := hce.mono hF88; replace hn86 := hn86.mono hF88; have hr88 := row_lit (l := [⟨3, 0, [53]⟩]) hb88 rfl (by decide) (by decide); refine wpl_gg S rfl rfl rfl rfl rfl rfl hO (fun gv h1 h2 => (addGCt F88 W.T bg av gv gg agN n3 h1 W.A h2 nI3 .nil (nr 4) b5N _ _ _ (TrS.nil _ _ _) hn86 hr88 nl0 (nrB (by decide)) b5B).mono (fun _ _ _ h => ⟨by rw [h.1, nE4], h.2⟩)) rfl (by exact List.Perm.refl _) ?_; clear S a hO gg; intro gg F89 a w hO hF89 S; replace W := W.mono hF89; replace hce := hce.mono hF89)
 (revert S a; revert hZ Z; refine go 6 ?_; intro Z hZ a S)
 (refine wcF S (numCt F89 1) ?_; clear S a; intro v92 F92 a w hn92 hF92 S; replace W := W.mono hF92; replace hce := hce.mono hF92; replace hO := hO.mono hF92)
 (revert S a; refine go 1 ?_; intro a S)
 (refine wcF S (numCt F92 4) ?_; clear S a; intro v94 F94 a w hn94 hF94 S; replace W := W.mono hF94; replace hce := hce.mono hF94; replace hO := hO.mono hF94; replace hn92 := hn92.mono hF94)
 (revert S a; refine go 1 ?_; intro a S)
 (refine wpl_buildSlice S rfl rfl rfl rfl rfl rfl (by rfl) (by simp [Value.cells, splice, splice]) rfl (by rfl) (by rfl) ?_; clear S a; intro b96 a w hown S)
 (have S' := frz1 S; clear S; obtain ⟨F96, hF96, hb96, S⟩ := S'; replace W := W.mono hF96; replace hce := hce.mono hF96; replace hO := hO.mono hF96; replace hn92 := hn92.mono hF96; replace hn94 := hn94.mono hF96; have hr96 := row_lit (l := [⟨3, 0, [53]⟩]) hb96 rfl (by decide) (by decide); refine wpl_gg S rfl rfl rfl rfl rfl rfl hO (fun gv h1 h2 => (addGCt F96 W.T bg av gv gg agN n4 h1 W.A h2 nI4 (nr 1) (nr 4) b5N _ _ _ hn92 hn94 hr96 (nrB (by decide)) (nrB (by decide)) b5B).mono (fun _ _ _ h => ⟨by rw [h.1, nE5], h.2⟩)) rfl (by exact List.Perm.refl _) ?_; clear S a hO gg; intro gg F97 a w hO hF97 S; replace W := W.mono hF97; replace hce := hce.mono hF97)
 (revert S a; revert hZ Z; refine go 6 ?_; intro Z hZ a S)
 (refine wcF S (numCt F97 2) ?_; clear S a; intro v100 F100 a w hn100 hF100 S; replace W := W.mono hF100; replace hce := hce.mono hF100; replace hO := hO.mono hF100)
 (revert S a; refine go 1 ?_; intro a S)
 (refine wcF S (numCt F100 4) ?_; clear S a; intro v102 F102 a w hn102 hF102 S; replace W := W.mono hF102; replace hce := hce.mono hF102; replace hO := hO.mono hF102; replace hn100 := hn100.mono hF102)
 (revert S a; refine go 1 ?_; intro a S)
 (refine wpl_buildSlice S rfl rfl rfl rfl rfl rfl (by rfl) (by simp [Value.cells, splice, splice]) rfl (by rfl) (by rfl) ?_; clear S a; intro b104 a w hown S)
 (have S' := frz1 S; clear S; obtain ⟨F104, hF104, hb104, S⟩ := S'; replace W := W.mono hF104; replace hce := hce.mono hF104; replace hO := hO.mono hF104; replace hn100 := hn100.mono hF104; replace hn102 := hn102.mono hF104; have hr104 := row_lit (l := [⟨4, 0, []⟩]) hb104 rfl (by decide) (by decide); refine wpl_gg S rfl rfl rfl rfl rfl rfl hO (fun gv h1 h2 => (addGCt F104 W.T bg av gv gg agN n5 h1 W.A h2 nI5 (nr 2) (nr 4) t0N _ _ _ hn100 hn102 hr104 (nrB (by decide)) (nrB (by decide)) t0B).mono (fun _ _ _ h => ⟨by rw [h.1, nE6], h.2⟩)) rfl (by exact List.Perm.refl _) ?_; clear S a hO gg; intro gg F105 a w hO hF105 S; replace W := W.mono hF105; replace hce := hce.mono hF105)
 (revert S a; revert hZ Z; refine go 6 ?_; intro Z hZ a S)
 (refine wcF S (numCt F105 3) ?_; clear S a; intro v108 F108 a w hn108 hF108 S; replace W := W.mono hF108; replace hce := hce.mono hF108; replace hO := hO.mono hF108)
 (revert S a; refine go 1 ?_; intro a S)
 (refine wcF S (numCt F108 7) ?_; clear S a; intro v110 F110 a w hn110 hF110 S; replace W := W.mono hF110; replace hce := hce.mono hF110; replace hO := hO.mono hF110; replace hn108 := hn108.mono hF110)
 (refine wpl_gg S rfl rfl rfl rfl rfl rfl hO (fun gv h1 h2 => (addGCt F110 W.T bg av gv gg agN n6 h1 W.A h2 nI6 .nil (nr 3) (nr 7) _ _ _ (TrS.nil _ _ _) hn108 hn110 nl0 (nrB (by decide)) (nrB (by decide))).mono (fun _ _ _ h => ⟨by rw [h.1, nE7], h.2⟩)) rfl (by exact List.Perm.refl _) ?_; clear S a hO gg; intro gg F111 a w hO hF111 S; replace W := W.mono hF111; replace hce := hce.mono hF111)
 (revert S a; revert hZ Z; refine go 6 ?_; intro Z hZ a S)
 (refine wcF S (numCt F111 5) ?_; clear S a; intro v114 F114 a w hn114 hF114 S; replace W := W.mono hF114; replace hce := hce.mono hF114; replace hO := hO.mono hF114)
 (refine wpl_gg S rfl rfl rfl rfl rfl rfl hO (fun gv h1 h2 => (addGCt F114 W.T bg av gv gg agN n7 h1 W.A h2 nI7 .nil (nr 5) .nil _ _ _ (TrS.nil _ _ _) hn114 (TrS.nil _ _ _) nl0 (nrB (by decide)) nl0).mono (fun _ _ _ h => ⟨by rw [h.1, nE8], h.2⟩)) rfl (by exact List.Perm.refl _) ?_; clear S a hO gg; intro gg F115 a w hO hF115 S; replace W := W.mono hF115; replace hce := hce.mono hF115)
 (revert S a; revert hZ Z; refine go 6 ?_; intro Z hZ a S)
 (refine wpl_buildSlice S rfl rfl rfl rfl rfl rfl (by rfl) (by simp [Value.cells, splice, splice]) rfl (by rfl) (by rfl) ?_; clear S a; intro b118 a w hown S; clear hown; have S' := frz1 S; clear S; obtain ⟨F118, hF118, hb118, S⟩ := S'; replace W := W.mono hF118; replace hce := hce.mono hF118; replace hO := hO.mono hF118; have hr118 := row_lit (l := [⟨0, 0, []⟩]) hb118 rfl (by decide) (by decide); skip)
 (revert S a; refine go 1 ?_; intro a S)
 (refine wcF S (numCt F118 5) ?_; clear S a; intro v120 F120 a w hn120 hF120 S; replace W := W.mono hF120; replace hce := hce.mono hF120; replace hO := hO.mono hF120; replace hr118 := hr118.mono hF120)
 (revert S a; refine go 1 ?_; intro a S)
 (refine wcF S (numCt F120 1) ?_; clear S a; intro v122 F122 a w hn122 hF122 S; replace W := W.mono hF122; replace hce := hce.mono hF122; replace hO := hO.mono hF122; replace hr118 := hr118.mono hF122; replace hn120 := hn120.mono hF122)
 (refine wpl_gg S rfl rfl rfl rfl rfl rfl hO (fun gv h1 h2 => (addGCt F122 W.T bg av gv gg agN n8 h1 W.A h2 nI8 z0N (nr 5) (nr 1) _ _ _ hr118 hn120 hn122 z0B (nrB (by decide)) (nrB (by decide))).mono (fun _ _ _ h => ⟨by rw [h.1, nE9], h.2⟩)) rfl (by exact List.Perm.refl _) ?_; clear S a hO gg; intro gg F123 a w hO hF123 S; replace W := W.mono hF123; replace hce := hce.mono hF123)
 (revert S a; revert hZ Z; refine go 6 ?_; intro Z hZ a S)
 (refine wcF S (numCt F123 9) ?_; clear S a; intro v126 F126 a w hn126 hF126 S; replace W := W.mono hF126; replace hce := hce.mono hF126; replace hO := hO.mono hF126)
 (refine wpl_gg S rfl rfl rfl rfl rfl rfl hO (fun gv h1 h2 => (delGCt F126 W.T bg av gv gg n9 h1 W.one h2 .nil (nr 9) _ _ (TrS.nil _ _ _) hn126 nl0 (nrB (by decide))).mono (fun _ _ _ h => ⟨by rw [h.1, nE10], h.2⟩)) rfl (by exact List.Perm.refl _) ?_; clear S a hO gg; intro gg F127 a w hO hF127 S; replace W := W.mono hF127; replace hce := hce.mono hF127)
 (revert S a; revert hZ Z; refine go 6 ?_; intro Z hZ a S)
 (refine wcF S (numCt F127 77) ?_; clear S a; intro v131 F131 a w hn131 hF131 S; replace W := W.mono hF131; replace hce := hce.mono hF131; replace hO := hO.mono hF131)
 (refine wpl_gRow5 S rfl rfl rfl rfl rfl rfl hO (fun gv h1 h2 => rowGCt F131 W.T W.E bg av gv gg agN n10 h1 W.A (by decide) (by decide) h2 nI10 nL10 (nr 77) _ hn131 (nrB (by decide))) rfl (by exact List.Perm.refl _) nT77 nA77 ?_; clear S a; intro a w S)
 (revert S a; revert hZ Z; refine go 10 ?_; intro Z hZ a S)
 (refine wpl_buildSlice S rfl rfl rfl rfl rfl rfl (by rfl) (by simp [Value.cells, splice, splice]) rfl (by rfl) (by rfl) ?_; clear S a; intro b138 a w hown S)
 (have S' := frz1 S; clear S; obtain ⟨F138, hF138, hb138, S⟩ := S'; replace W := W.mono hF138; replace hce := hce.mono hF138; replace hO := hO.mono hF138; replace hn131 := hn131.mono hF138; have hr138 := row_lit (l := [⟨0, 0, []⟩]) hb138 rfl (by decide) (by decide); refine wpl_gRow4 S rfl rfl rfl rfl rfl rfl hO (fun gv h1 h2 => rowGCt F138 W.T W.E bg av gv gg agN n10 h1 W.A (by decide) (by decide) h2 nI10 nL10 z0N _ hr138 z0B) rfl (by exact List.Perm.refl _) nTz ?_; clear S a; intro a w S)
 (revert S a; revert hZ Z; refine go 9 ?_; intro Z hZ a S)
 (refine wv S (sv_lit (c := true) (sv_pure S rfl) (by rfl)) ?_; clear S a; intro a S)
 (revert S a; refine go 4 ?_; intro a S)
 (refine wc0 S (addNilCt F138 _ _ _) ?_; clear S a; intro v146 a w hv S; subst hv)
 refine wpl_take S rfl rfl rfl ?_
 iterate 2 (refine wv S (sv_lit (c := true) (sv_pure S rfl) (by rfl)) ?_; clear S a; intro a S)
 (revert S a; refine go 4 ?_; intro a S)
 (refine wc0 S (delNilCt F138 _ _) ?_; clear S a; intro v151 a w hv S; subst hv)
 refine wpl_take S rfl rfl rfl ?_
 iterate 2 (refine wv S (sv_lit (c := true) (sv_pure S rfl) (by rfl)) ?_; clear S a; intro a S)
 (revert S a; refine go 4 ?_; intro a S)
 (refine wc0 S (keysNoCt F138) ?_; clear S a; intro v156 a w hv S; subst hv)
 (revert S a; refine go 3 ?_; intro a S)
 iterate 2 (refine wv S (sv_lit (c := true) (sv_pure S rfl) (by rfl)) ?_; clear S a; intro a S)
 (revert S a; refine go 4 ?_; intro a S)
 (refine wc0 S (waysNilCt F138 W.T .nil _ (TrS.nil _ _ _) nl0) ?_; clear S a; intro v162 a w hv S; subst hv)
 refine wpl_take S rfl rfl rfl ?_
 iterate 2 (refine wv S (sv_lit (c := true) (sv_pure S rfl) (by rfl)) ?_; clear S a; intro a S)
 (revert S a; refine go 4 ?_; intro a S)
 iterate 2 (refine wv S (sv_lit (c := true) (sv_pure S rfl) (by rfl)) ?_; clear S a; intro a S)
 (revert S a; refine go 4 ?_; intro a S)
 iterate 2 (refine wv S (sv_lit (c := true) (sv_pure S rfl) (by rfl)) ?_; clear S a; intro a S)
 (revert S a; refine go 4 ?_; intro a S)
 iterate 2 (refine wv S (sv_lit (c := true) (sv_pure S rfl) (by rfl)) ?_; clear S a; intro a S)
 (revert S a; refine go 4 ?_; intro a S)
 iterate 2 (refine wv S (sv_lit (c := true) (sv_pure S rfl) (by rfl)) ?_; clear S a; intro a S)
 (revert S a; refine go 4 ?_; intro a S)
 iterate 2 (refine wv S (sv_lit (c := true) (sv_pure S rfl) (by rfl)) ?_; clear S a; intro a S)
 (revert S a; refine go 4 ?_; intro a S)
 iterate 2 (refine wv S (sv_lit (c := true) (sv_pure S rfl) (by rfl)) ?_; clear S a; intro a S)
 (revert S a; refine go 4 ?_; intro a S)
 iterate 2 (refine wv S (sv_lit (c := true) (sv_pure S rfl) (by rfl)) ?_; clear S a; intro a S)
 (revert S a; refine go 4 ?_; intro a S)
 iterate 2 (refine wv S (sv_lit (c := true) (sv_pure S rfl) (by rfl)) ?_; clear S a; intro a S)
 (revert S a; refine go 4 ?_; intro a S)
 iterate 2 (refine wv S (sv_lit (c := true) (sv_pure S rfl) (by rfl)) ?_; clear S a; intro a S)
 (revert S a; refine go 6 ?_; intro a S)
 iterate 2 (refine wv S (sv_lit (c := true) (sv_pure S rfl) (by rfl)) ?_; clear S a; intro a S)
 (revert S a; refine go 8 ?_; intro a S)
 (refine wv S (sv_loadF S rfl rfl hce) ?_; clear S a; intro a S)
 refine wpl_take S rfl rfl rfl ?_
 iterate 2 (refine wv S (sv_lit (c := true) (sv_pure S rfl) (by rfl)) ?_; clear S a; intro a S)
 (revert S a; refine go 4 ?_; intro a S)
 iterate 2 (refine wv S (sv_lit (c := true) (sv_pure S rfl) (by rfl)) ?_; clear S a; intro a S)
 (revert S a; refine go 4 ?_; intro a S)
 iterate 2 (refine wv S (sv_lit (c := true) (sv_pure S rfl) (by rfl)) ?_; clear S a; intro a S)
 (revert S a; refine go 4 ?_; intro a S)
 iterate 2 (refine wv S (sv_lit (c := true) (sv_pure S rfl) (by rfl)) ?_; clear S a; intro a S)
 (revert S a; refine go 4 ?_; intro a S)
 iterate 2 (refine wv S (sv_lit (c := true) (sv_pure S rfl) (by rfl)) ?_; clear S a; intro a S)
 (revert S a; refine go 4 ?_; intro a S)
 iterate 2 (refine wv S (sv_lit (c := true) (sv_pure S rfl) (by rfl)) ?_; clear S a; intro a S)
 (revert S a; refine go 4 ?_; intro a S)
 iterate 2 (refine wv S (sv_lit (c := true) (sv_pure S rfl) (by rfl)) ?_; clear S a; intro a S)
 (revert S a; refine go 4 ?_; intro a S)
 iterate 2 (refine wv S (sv_lit (c := true) (sv_pure S rfl) (by rfl)) ?_; clear S a; intro a S)
 (revert S a; refine go 4 ?_; intro a S)
 iterate 2 (refine wv S (sv_lit (c := true) (sv_pure S rfl) (by rfl)) ?_; clear S a; intro a S)
 (revert S a; refine go 4 ?_; intro a S)
 iterate 2 (refine wv S (sv_lit (c := true) (sv_pure S rfl) (by rfl)) ?_; clear S a; intro a S)
 (revert S a; refine go 4 ?_; intro a S)
 (refine wpl_gWays S rfl rfl rfl rfl rfl rfl hO (fun gv h1 e' h3 h4 => waysOldCt F138 W.T bg av gv gg h1 .nil _ (TrS.nil _ _ _) nl0 [] rfl e' _ h3 h4 W.one) rfl (by exact List.Perm.refl _) nA10 ?_; clear S a; intro a w S)
 refine wpl_take S rfl rfl rfl ?_
 iterate 2 (refine wv S (sv_lit (c := true) (sv_pure S rfl) (by rfl)) ?_; clear S a; intro a S)
 (revert S a; refine go 2 ?_; intro a S)
 (refine wc0 S (gAwakeCt F138 W.T W.E) ?_; clear S a; intro v255 a w hv S; subst hv)
 (refine wv S (sv_lit (c := true) (sv_pure S rfl) (by rfl)) ?_; clear S a; intro a S)
 (revert S a; revert hZ Z; refine go 3 ?_; intro a S)
 refine wp_ret (fr1 S Tryz.results6 ?_)
 rfl
end Go.Proofs.YtbhipiepfclneaaGreatDoor
