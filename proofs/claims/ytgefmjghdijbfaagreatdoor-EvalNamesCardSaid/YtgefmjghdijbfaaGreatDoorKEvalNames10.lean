/- Walks. -/
import Derived.Test.YtgefmjghdijbfaaGreatDoorKEvalNames09
import Derived.Test.YtgefmjghdijbfaaGreatDoorQ26
import Derived.Test.YtgefmjghdijbfaaGreatDoorQ25
import Derived.Test.YtgefmjghdijbfaaGreatDoorQ24
import Derived.Test.YtgefmjghdijbfaaGreatDoorQ23
import Derived.Test.YtgefmjghdijbfaaGreatDoorQ14
import Derived.Test.YtgefmjghdijbfaaGreatDoorQ13
import Derived.Test.YtgefmjghdijbfaaGreatDoorKEvalNames02
import Derived.Test.YtgefmjghdijbfaaGreatDoorKEvalNamesTy
import Derived.Test.YtgefmjghdijbfaaGreatDoorQ22
import Derived.Test.YtgefmjghdijbfaaGreatDoorQ21
import Derived.Test.YtgefmjghdijbfaaGreatDoorQ09
import Derived.Test.YtgefmjghdijbfaaGreatDoorQ20
import Derived.Test.YtgefmjghdijbfaaGreatDoorQ19
import Derived.Test.YtgefmjghdijbfaaGreatDoorQ18
import Derived.Test.YtgefmjghdijbfaaGreatDoorQ17
import Derived.Test.YtgefmjghdijbfaaGreatDoorQ10
import Derived.Test.YtgefmjghdijbfaaGreatDoorKEvalNames01
import Derived.Test.YtgefmjghdijbfaaGreatDoorQ05
import Derived.Test.YtgefmjghdijbfaaGreatDoorQ16
import Derived.Test.YtgefmjghdijbfaaGreatDoorQ15
import Derived.Test.YtgefmjghdijbfaaGreatDoorQ11
import Derived.Test.YtgefmjghdijbfaaGreatDoorQ06
import Derived.Test.YtgefmjghdijbfaaGreatDoorQShelf
import Derived.Test.YtgefmjghdijbfaaGreatDoorQ12
set_option maxHeartbeats 64000000
set_option maxRecDepth 1000000
namespace Go.Proofs.YtgefmjghdijbfaaGreatDoor
open Go Go.Wk Go.Un Go.De Go.Num
set_option linter.unusedSimpArgs false
set_option linter.unusedVariables false
attribute [local irreducible] Go.wpList Go.Code.wp Go.wpStill Go.Wk.wpPre Go.bodyPost Go.Calls Go.Wk.Ct Go.Wk.OwnS Go.Wk.wpG Go.Wk.wpM
section
variable {P : Program} {n : Sz} {L : List (Nat × Value)} {w0 : World} {F0 : Heap} {K0 : List Nat} {F : Heap} {G : List Grp} {a : Act} {w : World} {ops : Array Oper} {Q : Exit → Act → World → Prop} {rest : List Oper} {o : Oper}
theorem wpl_callNew {d : Nat} {x : Operand} {xs : Array Operand} {ts : Array TypeId} {f : FuncId} {fi ca vs args : List Value} {Post : List Grp → Value → Prop} [hf : HasFn P f] (S : St n L w0 F0 K0 F G a w) (hg : o.guard = none) (hd : o.dst = some d) (hn : Nat.blt d n.sz = true)
  (ho : o.op = .call { callee := .value x, args := xs, argTypes := ts }) (hx : ev L x = some (.func (.func f) ⟨fi⟩ ⟨ca⟩)) (hxs : evs L xs.toList = some vs) (C : Ct P f args F [] (fun _ G' u => Post G' u)) (ha : fi ++ vs ++ ca = args)
  (k : ∀ v G' a' w', Post G' v → St n ((d, v) :: L) w0 F0 K0 F (G' ++ G) a' w' → wpList P ops Q rest a' w') : wpList P ops Q (o :: rest) a w :=
 wpl_callOwn (Gs := []) (Gr := G) S hg hd hn ho hx hxs C ha (by simp) k
theorem sv_loadAOc {x : Operand} {t : TypeId} {z : Value} {sz by_ b off : Nat} {c vs : List Value} {e f R} [ht : Ag P t] [hi : Inf P t z sz by_] [hh : Has G b (.cells ⟨c⟩ e f) R] (S : St n L w0 F0 K0 F G a w) (ho : o.op = .load t x) (hx : ev L x = some (.pointer (some ⟨b, off, none⟩)))
  (hc : ∀ j u, vs[j]? = some u → c[off + j]? = some u) (hl : vs.length = sz) : SV P o a w (.agg ⟨vs⟩) :=
 sv_loadA S ho hx hl fun j v hj => cell_of_heap (S.has hh) (by simpa using hc j v hj)
end
def MSz (M : MD) : Prop := TSz M.ts ∧ RSz M.rs ∧ M.ts.length ≤ 1000000 ∧ M.rs.length ≤ 1000000
theorem FSz.thin {l : List FD} (h : FSz l) : FThin l := fun x hx => by
 have h1 := h x hx
 have h2 : ∀ l : Fo, l.size ≤ 1000000 → Thin l := by
  intro l
  induction l with
  | nil => intro _; trivial
  | cons nm ar r ih1 ih2 =>
   intro h
   simp only [Fo.size] at h
   have := Fo.len_size ar
   exact ⟨by omega, ih1 (by omega), ih2 (by omega)⟩
 have := Fo.len_size x.ta
 exact ⟨by omega, h2 _ h1⟩
theorem newCt (F : Heap) (hE : ErrT F) (M : MD) (cs : List Value) (h : MdR F M cs) (hsz : MSz M) :
    Ct Tryz.prog 26 [.agg ⟨cs⟩] F [] (fun F' _ u => (takeE M = 0 → ∃ tb m1 m2 m3, u = .tuple ⟨[.pointer (some ⟨tb, 0, none⟩), .agg ⟨[.int .i64 0, .int .i64 0]⟩, .int .i64 0]⟩ ∧ TabS F' tb m1 m2 m3 M.ts (consOf M.ts) M.rs) ∧ (takeE M ≠ 0 → ∃ l c : Int, u = .tuple ⟨[.pointer none, .agg ⟨[.int .i64 l, .int .i64 c]⟩, .int .i64 (takeE M)]⟩)) := by
  obtain ⟨hsT, hsR, hnT, hnR⟩ := hsz
  obtain ⟨i1, i2, i3, v1, v2, v3, v4, rfl, h1, h2, h3, h4⟩ := h
  have h1c := h1
  obtain ⟨ao1, cap1, rfl, -, -⟩ := h1c
  have h2c := h2
  obtain ⟨ao2, cap2, rfl, -, -⟩ := h2c
  have h3c := h3
  obtain ⟨ao3, cap3, rfl, -, -⟩ := h3c
  have h4c := h4
  obtain ⟨ao4, cap4, rfl, -, -⟩ := h4c
  refine Ct.enter Tryz.func26 rfl Tryz.ntmps26 rfl fun w0 a S => ?_
  refine wp_sr fun Z hZ => ?_
  (refine wbx S ?_; clear S a; intro b1 a w S)
  (revert S a; refine go 1 ?_; intro a S)
  (refine wpl_alloc S rfl rfl rfl rfl ?_; clear S a; intro b3 a w S)
  (revert S a; revert hZ Z; refine go 4 ?_; intro Z hZ a S)
  (refine wpl_makeMap kS S rfl rfl rfl rfl ?_; clear S a; intro b13 a w S)
  (refine wpl_makeMap kS S rfl rfl rfl rfl ?_; clear S a; intro b14 a w S)
  (refine wpl_makeMap kS S rfl rfl rfl rfl ?_; clear S a; intro b15 a w S)
  (revert S a; refine go 1 ?_; intro a S)
  (refine wbx S ?_; clear S a; intro b17 a w S)
  (revert S a; revert hZ Z; refine go 3 ?_; intro a S)
  (refine wp_seq_k ?_; intro Z hZ)
  replace hZ : ∀ (a' : Act) (w' : World), (∃ (vT vR : Value) (gT gR : Grp) (xT xR : List Value), OwnS 97 6 vT M.ts.length xT gT ∧ LiC F 6 TdR xT M.ts ∧ OwnS 111 6 vR M.rs.length xR gR ∧ LiC F 6 RdR xR M.rs ∧ St 100 [(1, ptr b1), (3, ptr b3), (5, ptr b17)] w0 F [] F [[(b1, .cells ⟨[.string (bs M.nm), .slice i1 i2 i3, vT, vR, .slice ao3 M.ru.length cap3, .slice ao4 M.nv.length cap4]⟩ 28 (0, 0))], gT, gR, [(b17, .cells ⟨[.map (some b13), .map (some b14), .map (some b15)]⟩ 107 (0, 0))], [(b15, mObj kS [])], [(b14, mObj kS [])], [(b13, mObj kS [])], [(b3, .cells ⟨[.int .i64 0, .int .i64 0]⟩ 30 (0, 0))]] a' w') → Z a' w' := (by
   (intro a w hM; refine hZ _ _ ?_; clear hZ Z; clear S; obtain ⟨vT, vR, gT, gR, xT, xR, hownT, hxT, hownR, hxR, S⟩ := hM)
   iterate 2 (refine wp_seq_k ?_; intro Z hZ)
   (have vTat := hownT.at; obtain ⟨aT0, cT0, rfl, -, -, -⟩ := vTat)
   (revert S a; revert hZ Z; refine go 8 ?_; intro a S)
   refine wpc_loop (fun m a w' => ∃ (i : Nat) (vT : Value) (gT : Grp) (xT : List Value) (F3 : Heap), m = M.ts.length - i ∧ i ≤ M.ts.length ∧ (∀ b o, F b = some o → F3 b = some o) ∧ OwnS 97 6 vT M.ts.length xT gT ∧ LiC F3 6 TdR xT M.ts ∧ St 100 [(1, ptr b1), (3, ptr b3), (5, ptr b17), (27, vT), (28, .int .i64 M.ts.length), (29, .int .i64 i)] w0 F [] F3 [[(b1, .cells ⟨[.string (bs M.nm), .slice i1 i2 i3, vT, vR, .slice ao3 M.ru.length cap3, .slice ao4 M.nv.length cap4]⟩ 28 (0, 0))], gT, gR, [(b17, .cells ⟨[.map (some b13), .map (some b14), .map (some b15)]⟩ 107 (0, 0))], [(b15, mObj kS [])], [(b14, mObj kS [])], [(b13, mObj kS [])], [(b3, .cells ⟨[.int .i64 0, .int .i64 0]⟩ 30 (0, 0))]] a w') ?_ ?_
   · (refine ⟨M.ts.length, 0, _, gT, xT, F, by omega, Nat.zero_le _, fun _ _ h => h, hownT, hxT, ?_⟩; refine S.keep ?_; exact zk)
   (clear S hownT hxT; rintro m a w ⟨i, vT, gT, xT, F3, rfl, hil, hF3, hownT, hxT, S⟩)
   (revert S a; refine go 5 ?_; intro Z hZ a S)
   refine wpc_sp S rfl ?_ ?_ <;> intro h
   · (revert S a; revert hZ Z; refine go 4 ?_; intro Z hZ a S)
     (refine wp_seq_k ?_; intro Z hZ)
     (obtain ⟨bT, capT, exT, rfl, rfl, hcq, hcm, hxl, hxe⟩ := ownS_blkN hownT (by omega); obtain ⟨x, hx⟩ : ∃ x, M.ts[i]? = some x := ⟨_, List.getElem?_eq_getElem (by omega)⟩; obtain ⟨xa, cs1, xb, rfl, hxal, -, ⟨vp0, vc0, rfl, hps, hcs⟩, hla, hlb⟩ := hxT.split hx; have hpsc := hps; have hcsc := hcs; obtain ⟨ap, cp, rfl, -, -⟩ := hpsc; obtain ⟨ac, cc, rfl, hcc9, hposc⟩ := hcsc; have hxsz := hsT x (List.mem_of_getElem? hx))
     (revert S a; refine go 3 ?_; intro a S)
     (refine wv S (sv_loadAOc (vs := [.int .i64 x.l, .int .i64 x.c, .bool x.pub, .string (bs x.nm), .slice ap x.ps.length cp, .slice ac x.cs.length cc]) S rfl rfl (fun j u hj => get_mid hxal hj) rfl) ?_; clear S a; intro a S)
     (refine wpl_alloc S rfl rfl rfl rfl ?_; clear S a; intro b7 a w S)
     (revert S a; refine go 1 ?_; intro a S)
     (refine wso S rfl rfl ?_; clear S; intro w S)
     (revert S a; revert hZ Z; refine go 2 ?_; intro a S)
     (refine wp_seq_k ?_; intro Z hZ)
     replace hZ : ∀ (a' : Act) (w' : World), (∃ (vP vC : Value) (gP gC : Grp) (xP xC : List Value), OwnS 9 1 vP x.ps.length xP gP ∧ LiC F3 1 StR xP x.ps ∧ OwnS 93 2 vC x.cs.length xC gC ∧ LiC F3 2 CdR xC x.cs ∧ St 100 [(1, ptr b1), (3, ptr b3), (5, ptr b17), (6, .int .i64 i), (7, ptr b7), (27, .slice (some ⟨bT, 0, none⟩) M.ts.length capT), (28, .int .i64 M.ts.length), (29, .int .i64 i)] w0 F [] F3 [gP, gC, [(b7, .cells ⟨[.int .i64 x.l, .int .i64 x.c, .bool x.pub, .string (bs x.nm), .slice ap x.ps.length cp, .slice ac x.cs.length cc]⟩ 97 (0, 0))], [(b1, .cells ⟨[.string (bs M.nm), .slice i1 i2 i3, .slice (some ⟨bT, 0, none⟩) M.ts.length capT, vR, .slice ao3 M.ru.length cap3, .slice ao4 M.nv.length cap4]⟩ 28 (0, 0))], [(bT, .cells ⟨(xa ++ [.int .i64 x.l, .int .i64 x.c, .bool x.pub, .string (bs x.nm), vP, vC] ++ xb) ++ exT⟩ 97 (0, 0))], gR, [(b17, .cells ⟨[.map (some b13), .map (some b14), .map (some b15)]⟩ 107 (0, 0))], [(b15, mObj kS [])], [(b14, mObj kS [])], [(b13, mObj kS [])], [(b3, .cells ⟨[.int .i64 0, .int .i64 0]⟩ 30 (0, 0))]] a' w') → Z a' w' := (by
      (intro a w hM; refine hZ _ _ ?_; clear hZ Z; clear S; obtain ⟨vP, vC, gP, gC, xP, xC, hownP, hxP, hownC, hxC, S⟩ := hM)
      (refine wp_seq_k ?_; intro Z hZ)
      (have hF4 := add_le (G1 := []) S; replace S := St.freeze (G1 := []) S; (try simp only [List.nil_append] at S hF4); have hvP : LiM (F3.add gP) 1 StR vP x.ps := LiC.lim hownP hxP rfl hF4 (by omega); generalize F3.add gP = F4 at S hF4 hvP)
      (revert S a; revert hZ Z; refine go 8 ?_; intro a S)
      refine wpc_loop (fun m a w' => ∃ (k : Nat) (vC : Value) (gC : Grp) (xC : List Value) (F5 : Heap), m = x.cs.length - k ∧ k ≤ x.cs.length ∧ (∀ b o, F4 b = some o → F5 b = some o) ∧ OwnS 93 2 vC x.cs.length xC gC ∧ LiC F5 2 CdR xC x.cs ∧ St 100 [(1, ptr b1), (3, ptr b3), (5, ptr b17), (6, .int .i64 i), (7, ptr b7), (27, .slice (some ⟨bT, 0, none⟩) M.ts.length capT), (28, .int .i64 M.ts.length), (29, .int .i64 i), (51, .slice ac x.cs.length cc), (52, .int .i64 x.cs.length), (53, .int .i64 k)] w0 F [] F5 [gC, [(b7, .cells ⟨[.int .i64 x.l, .int .i64 x.c, .bool x.pub, .string (bs x.nm), .slice ap x.ps.length cp, .slice ac x.cs.length cc]⟩ 97 (0, 0))], [(b1, .cells ⟨[.string (bs M.nm), .slice i1 i2 i3, .slice (some ⟨bT, 0, none⟩) M.ts.length capT, vR, .slice ao3 M.ru.length cap3, .slice ao4 M.nv.length cap4]⟩ 28 (0, 0))], [(bT, .cells ⟨(xa ++ [.int .i64 x.l, .int .i64 x.c, .bool x.pub, .string (bs x.nm), vP, vC] ++ xb) ++ exT⟩ 97 (0, 0))], gR, [(b17, .cells ⟨[.map (some b13), .map (some b14), .map (some b15)]⟩ 107 (0, 0))], [(b15, mObj kS [])], [(b14, mObj kS [])], [(b13, mObj kS [])], [(b3, .cells ⟨[.int .i64 0, .int .i64 0]⟩ 30 (0, 0))]] a w') ?_ ?_
      · (refine ⟨x.cs.length, 0, vC, gC, xC, F4, by omega, Nat.zero_le _, fun _ _ h => h, hownC, hxC.mono hF4, ?_⟩; refine S.keep ?_; exact zk)
      (clear S hownC hxC; rintro m a w ⟨k, vC, gC, xC, F5, rfl, hkl, hF5, hownC, hxC, S⟩)
      (revert S a; refine go 5 ?_; intro Z hZ a S)
      refine wpc_sp S rfl ?_ ?_ <;> intro h
      · (revert S a; revert hZ Z; refine go 4 ?_; intro Z hZ a S)
        (refine wp_seq_k ?_; intro Z hZ)
        (obtain ⟨bC, capC, exC, rfl, rfl, hcq2, hcm2, hyl, hye⟩ := ownS_blkN hownC (by omega); obtain ⟨bq, oq, hao2, y, cs2, hy, hd1, ⟨w3, rfl, hfs⟩⟩ := LiM.pos hposc (k := k) (by omega); obtain ⟨ya, cs3, yb, rfl, hyal, -, ⟨w4, rfl, hfs4⟩, hya, hyb⟩ := hxC.split hy; rw [hao2] at S; have hF35 : ∀ b o, F3 b = some o → F5 b = some o := (fun b o h => hF5 _ _ (hF4 _ _ h)); replace hd1 := Cels.mono hF35 hd1; replace hfs := hfs.mono hF35; have hfsc := hfs; obtain ⟨af, cf, rfl, -, -⟩ := hfsc; have hysz := hxsz.2.2 y (List.mem_of_getElem? hy))
        (revert S a; refine go 4 ?_; intro a S)
        (refine wpl_alloc S rfl rfl rfl rfl ?_; clear S a; intro b9 a w S)
        (revert S a; refine go 1 ?_; intro a S)
        (refine wso S rfl rfl ?_; clear S; intro w S)
        (revert S a; revert hZ Z; refine go 2 ?_; intro a S)
        (refine wpc_mixM [0, 1, 2, 3, 4, 5, 6, 7, 8, 10, 11] [1, 5, 8] [] (.one 0 (.one 1 (.one 2 (.one 3 (.one 4 (.one 5 (.one 6 (.one 7 (.one 8 (.one 9 (.one 10 (.one 11 (.one 12 .nil))))))))))))) [b1, bT, b9] S mixed (by kernel_rfl) ?_; clear S; intro w S)
        (revert S a; refine go 5 ?_; intro a S)
        (refine wpm_lateO bT S rfl rfl rfl (want_none _ rfl) rfl rfl (fun w' S => sv_loadO S rfl rfl (get_mid (j := 5) (cs := [.int .i64 x.l, .int .i64 x.c, .bool x.pub, .string (bs x.nm), vP, .slice (some ⟨bC, 0, none⟩) x.cs.length capC]) hxal rfl)) ?_; clear S a; intro a S)
        (revert S a; refine go 4 ?_; intro a S)
        (refine wcF S (ownedCt F5 y.fs _ hfs hysz.2 hysz.1.thin) ?_; clear S a; intro vf6 F6 a w hvf6 hF6 S)
        (revert S a; refine go 4 ?_; intro a S)
        (refine wpl_store1 S rfl rfl rfl rfl rfl (lim_one hvf6) (by simp only [List.length_append, List.length_cons, List.length_nil]; omega) ?_; clear S; intro w S; rw [set_mid _ hyal (by simp)] at S)
        (revert S a; revert hZ Z; refine go 7 ?_; intro a S)
        change ∃ m', _ ∧ _
        (rw [← hao2] at S; replace S := S.drop1; refine ⟨x.cs.length - (k + 1), by omega, k + 1, .slice (some ⟨bC, 0, none⟩) x.cs.length capC, _, _, F6, rfl, by omega, fun b o h => hF6 _ _ (hF5 _ _ h), ownS_mkN (b := bC) (cap := capC) (xs := ya ++ [.string (bs y.nm), vf6] ++ yb) (ex := exC) (by simp only [List.length_append, List.length_cons, List.length_nil] at hyl ⊢; omega) hcq2 hcm2 (by simp only [List.length_append, List.length_cons, List.length_nil] at hye ⊢; omega), LiC.join hy (hya.mono hF6) rfl ⟨_, rfl, hvf6⟩ (hyb.mono hF6), ?_⟩; refine S.keep ?_; exact zk)
      (refine wp_exit ?_; conv => whnf)
      clear hZ Z
      (revert S a; revert hZ Z; refine go 5 ?_; intro a S)
      change ∃ m', _ ∧ _
      (replace S : St _ _ _ _ _ F5 [gC, _, _, _, _, _, _, _, _, _] _ _ := S; have hle5 := add_le (G1 := []) S; replace S := St.freeze (G1 := []) S; (try simp only [List.nil_append] at S hle5); have hvC : LiM (F5.add gC) 2 CdR vC x.cs := LiC.lim hownC hxC rfl hle5 (by omega); generalize F5.add gC = F6 at S hle5 hvC; replace S := S.drop1; have hF36 : ∀ b o, F3 b = some o → F6 b = some o := (fun b o h => hle5 _ _ (hF5 _ _ (hF4 _ _ h))); refine ⟨M.ts.length - (i + 1), by omega, i + 1, .slice (some ⟨bT, 0, none⟩) M.ts.length capT, _, _, F6, rfl, by omega, fun b o h => hF36 _ _ (hF3 _ _ h), ownS_mkN (b := bT) (cap := capT) (xs := xa ++ [.int .i64 x.l, .int .i64 x.c, .bool x.pub, .string (bs x.nm), vP, vC] ++ xb) (ex := exT) (by simp only [List.length_append, List.length_cons, List.length_nil] at hxl ⊢; omega) hcq hcm (by simp only [List.length_append, List.length_cons, List.length_nil] at hxe ⊢; omega), LiC.join hx (hla.mono hF36) rfl ⟨_, _, rfl, hvP.mono (fun b o h => hle5 _ _ (hF5 _ _ h)), hvC⟩ (hlb.mono hF36), ?_⟩; refine S.keep ?_; exact zk))
     (refine wpc_mixM [0, 1, 2, 3, 4, 5, 6, 7, 9, 10, 12, 13, 15, 16] [1, 4, 7, 10] [] (.one 0 (.one 1 (.one 2 (.one 3 (.one 4 (.one 5 (.one 6 (.one 7 (.one 9 (.one 10 (.one 8 (.one 11 (.one 12 (.one 13 (.one 14 (.one 15 (.one 16 (.one 17 .nil)))))))))))))))))) [b1, b7] S mixed (by kernel_rfl) ?_; clear S; intro w S)
     (revert S a; refine go 11 ?_; intro a S)
     (refine wpl_callNew S rfl rfl rfl rfl rfl rfl (cloneSCt F3 _ x.ps hps hxsz.2.1) rfl ?_; clear S a; intro vP G9 a w hv S; obtain ⟨gP, xP, rfl, hownP, hxP⟩ := hv; (simp only [List.singleton_append] at S))
     (revert S a; refine go 2 ?_; intro a S)
     (refine wpl_callNew S rfl rfl rfl rfl rfl rfl (cloneCCt F3 _ x.cs hcs hxsz.1) rfl ?_; clear S a; intro vC G9 a w hv S; obtain ⟨gC, xC, rfl, hownC, hxC⟩ := hv; (simp only [List.singleton_append] at S))
     (revert S a; refine go 4 ?_; intro a S)
     (refine wpl_store1 S rfl rfl rfl rfl rfl hownP.oneCell (by simp only [List.length_append, List.length_cons, List.length_nil]; omega) ?_; clear S; intro w S; rw [set_mid _ hxal (by simp)] at S)
     (revert S a; refine go 4 ?_; intro a S)
     (refine wpl_store1 S rfl rfl rfl rfl rfl hownC.oneCell (by simp only [List.length_append, List.length_set, List.length_cons, List.length_nil]; omega) ?_; clear S; intro w S; rw [set_mid _ hxal (by simp)] at S)
     (revert S a; refine go 2 ?_; intro a S)
     (refine hZ _ _ ?_)
     (refine ⟨vP, vC, gP, gC, xP, xC, hownP, hxP, hownC, hxC, ?_⟩; first | (replace S : St _ _ _ _ _ F3 [gP, gC, _, _, _, _, _, _, _, _, _] _ _ := S; (refine S.keep ?_; exact zk); done) | (replace S : St _ _ _ _ _ F3 [gP, gC, _, _, _, _, _, _, _, _, _] _ _ := St.permI S 11 rfl [1, 0, 2, 3, 4, 5, 6, 7, 8, 9, 10] (by decide); (refine S.keep ?_; exact zk); done) | trace_state)
   (refine wp_exit ?_; conv => whnf)
   clear hZ Z
   (revert S a; revert hZ Z; refine go 2 ?_; intro Z hZ a S)
   (refine wp_seq_k ?_; intro Z hZ)
   (have vRat := hownR.at; obtain ⟨aR0, cR0, rfl, -, -, -⟩ := vRat)
   (revert S a; revert hZ Z; refine go 8 ?_; intro a S)
   refine wpc_loop (fun m a w' => ∃ (i : Nat) (vR : Value) (gR : Grp) (xR : List Value) (F7 : Heap), m = M.rs.length - i ∧ i ≤ M.rs.length ∧ (∀ b o, F3 b = some o → F7 b = some o) ∧ OwnS 111 6 vR M.rs.length xR gR ∧ LiC F7 6 RdR xR M.rs ∧ St 100 [(1, ptr b1), (3, ptr b3), (5, ptr b17), (73, vR), (74, .int .i64 M.rs.length), (75, .int .i64 i)] w0 F [] F7 [[(b1, .cells ⟨[.string (bs M.nm), .slice i1 i2 i3, vT, vR, .slice ao3 M.ru.length cap3, .slice ao4 M.nv.length cap4]⟩ 28 (0, 0))], gT, gR, [(b17, .cells ⟨[.map (some b13), .map (some b14), .map (some b15)]⟩ 107 (0, 0))], [(b15, mObj kS [])], [(b14, mObj kS [])], [(b13, mObj kS [])], [(b3, .cells ⟨[.int .i64 0, .int .i64 0]⟩ 30 (0, 0))]] a w') ?_ ?_
   · (refine ⟨M.rs.length, 0, _, gR, xR, F3, by omega, Nat.zero_le _, fun _ _ h => h, hownR, hxR.mono hF3, ?_⟩; refine S.keep ?_; exact zk)
   (clear S hownR hxR; rintro m a w ⟨i, vR, gR, xR, F7, rfl, hil, hF7, hownR, hxR, S⟩)
   (revert S a; refine go 5 ?_; intro Z hZ a S)
   refine wpc_sp S rfl ?_ ?_ <;> intro h
   · (revert S a; revert hZ Z; refine go 4 ?_; intro Z hZ a S)
     (refine wp_seq_k ?_; intro Z hZ)
     (obtain ⟨bR, capR, exR, rfl, rfl, hcq2, hcm2, hyl, hye⟩ := ownS_blkN hownR (by omega); obtain ⟨x, hx⟩ : ∃ x, M.rs[i]? = some x := ⟨_, List.getElem?_eq_getElem (by omega)⟩; obtain ⟨ya, cs1, yb, rfl, hyal, -, ⟨vf0, rfl, hfs⟩, hya, hyb⟩ := hxR.split hx; have hfsc := hfs; obtain ⟨af, cf, rfl, -, -⟩ := hfsc; have hxsz := hsR x (List.mem_of_getElem? hx))
     (revert S a; refine go 3 ?_; intro a S)
     (refine wv S (sv_loadAOc (vs := [.int .i64 x.l, .int .i64 x.c, .bool x.pub, .bool x.inp, .string (bs x.nm), .slice af x.fs.length cf]) S rfl rfl (fun j u hj => get_mid hyal hj) rfl) ?_; clear S a; intro a S)
     (refine wpl_alloc S rfl rfl rfl rfl ?_; clear S a; intro b11 a w S)
     (revert S a; refine go 1 ?_; intro a S)
     (refine wso S rfl rfl ?_; clear S; intro w S)
     (revert S a; revert hZ Z; refine go 2 ?_; intro a S)
     (refine wpc_mixM [0, 1, 2, 3, 4, 6, 7] [1, 4] [] (.one 0 (.one 1 (.one 2 (.one 3 (.one 4 (.one 5 (.one 6 (.one 7 (.one 8 .nil))))))))) [b1, b11] S mixed (by kernel_rfl) ?_; clear S; intro w S)
     (revert S a; refine go 6 ?_; intro a S)
     (refine wcF S (ownedCt F7 x.fs _ hfs hxsz.2 hxsz.1.thin) ?_; clear S a; intro vf8 F8 a w hvf8 hF8 S)
     (revert S a; refine go 4 ?_; intro a S)
     (refine wpl_store1 S rfl rfl rfl rfl rfl (lim_one hvf8) (by simp only [List.length_append, List.length_cons, List.length_nil]; omega) ?_; clear S; intro w S; rw [set_mid _ hyal (by simp)] at S)
     (revert S a; revert hZ Z; refine go 7 ?_; intro a S)
     change ∃ m', _ ∧ _
     (replace S := S.drop1; refine ⟨M.rs.length - (i + 1), by omega, i + 1, .slice (some ⟨bR, 0, none⟩) M.rs.length capR, _, _, F8, rfl, by omega, fun b o h => hF8 _ _ (hF7 _ _ h), ownS_mkN (b := bR) (cap := capR) (xs := ya ++ [.int .i64 x.l, .int .i64 x.c, .bool x.pub, .bool x.inp, .string (bs x.nm), vf8] ++ yb) (ex := exR) (by simp only [List.length_append, List.length_cons, List.length_nil] at hyl ⊢; omega) hcq2 hcm2 (by simp only [List.length_append, List.length_cons, List.length_nil] at hye ⊢; omega), LiC.join hx (hya.mono hF8) rfl ⟨_, rfl, hvf8⟩ (hyb.mono hF8), ?_⟩; refine S.keep ?_; exact zk)
   (refine wp_exit ?_; conv => whnf)
   clear hZ Z
   (revert S a; revert hZ Z; refine go 2 ?_; intro Z hZ a S)
   (refine wpl_alloc S rfl rfl rfl rfl ?_; clear S a; intro b12 a w S)
   (revert S a; revert hZ Z; refine go 3 ?_; intro Z hZ a S)
   (refine wp_seq_k ?_; intro Z hZ)
   (replace S : St _ _ _ _ _ F7 [gT, gR, [(b17, .cells ⟨[.map (some b13), .map (some b14), .map (some b15)]⟩ 107 (0, 0))], [(b13, mObj kS [])], [(b14, mObj kS [])], [(b15, mObj kS [])], [(b12, .cells ⟨[.int .i64 0, .int .i64 0, .int .i64 0]⟩ 116 (0, 0))], [(b1, .cells ⟨[.string (bs M.nm), .slice i1 i2 i3, vT, vR, .slice ao3 M.ru.length cap3, .slice ao4 M.nv.length cap4]⟩ 28 (0, 0))], [(b3, .cells ⟨[.int .i64 0, .int .i64 0]⟩ 30 (0, 0))]] _ _ := St.permI S 9 rfl [2, 3, 4, 7, 6, 5, 0, 1, 8] (by decide); have hle1 := add_le (G1 := []) S; replace S := St.freeze (G1 := []) S; (try simp only [List.nil_append] at S hle1); have hvT : LiM (F7.add gT) 6 TdR vT M.ts := LiC.lim hownT (hxT.mono hF7) rfl hle1 (by omega); generalize F7.add gT = F8 at S hle1 hvT; have hle2 := add_le (G1 := []) S; replace S := St.freeze (G1 := []) S; (try simp only [List.nil_append] at S hle2); have hvR : LiM (F8.add gR) 6 RdR vR M.rs := LiC.lim hownR (hxR.mono hle1) rfl hle2 (by omega); generalize F8.add gR = F9 at S hle2 hvR; have hle3 := add_le (G1 := []) S; replace S := St.freeze (G1 := []) S; (try simp only [List.nil_append] at S hle3); have hcc : Cels (F9.add [(b17, .cells ⟨[.map (some b13), .map (some b14), .map (some b15)]⟩ 107 (0, 0))]) b17 0 [.map (some b13), .map (some b14), .map (some b15)] := (fun j u hj => ⟨_, _, _, Heap.add_new (p := (b17, _)) (List.mem_singleton.2 rfl) (by simp), by simpa using hj⟩); generalize (F9.add [(b17, .cells ⟨[.map (some b13), .map (some b14), .map (some b15)]⟩ 107 (0, 0))]) = F10 at S hle3 hcc; have hF10 : ∀ b o, F b = some o → F10 b = some o := (fun b o h => hle3 _ _ (hle2 _ _ (hle1 _ _ (hF7 _ _ (hF3 _ _ h))))); have hMd : MdR F10 M [.string (bs M.nm), .slice i1 i2 i3, vT, vR, .slice ao3 M.ru.length cap3, .slice ao4 M.nv.length cap4] := ⟨_, _, _, _, _, _, _, rfl, hvT.mono (fun b o h => hle3 _ _ (hle2 _ _ h)), hvR.mono hle3, h3.mono hF10, h4.mono hF10⟩)
   (revert S a; refine go 3 ?_; intro a S)
   (refine wpl_call (Gs := [[(b13, mObj kS [])], [(b14, mObj kS [])], [(b15, mObj kS [])]]) (Gr := [[(b12, .cells ⟨[.int .i64 0, .int .i64 0, .int .i64 0]⟩ 116 (0, 0))], [(b1, .cells ⟨[.string (bs M.nm), .slice i1 i2 i3, vT, vR, .slice ao3 M.ru.length cap3, .slice ao4 M.nv.length cap4]⟩ 28 (0, 0))], [(b3, .cells ⟨[.int .i64 0, .int .i64 0]⟩ 30 (0, 0))]]) S rfl rfl rfl rfl rfl rfl (takeCt F10 b17 b13 b14 b15 hcc M _ hMd hsT hsR) rfl (by exact List.Perm.refl _) ?_; clear S a; intro u9 F11 G9 a w hv hF11 S; replace S := St.rotG S)
   (revert S a; refine go 1 ?_; intro a S)
   (refine wpl_callOwn (Gs := [[(b12, .cells ⟨[.int .i64 0, .int .i64 0, .int .i64 0]⟩ 116 (0, 0))]]) (Gr := _ :: _ :: G9) S rfl rfl rfl rfl rfl rfl (asErrCt F11 (hE.mono (fun b o h => hF11 _ _ (hF10 _ _ h))) (takeE M) u9 hv.1 b12) rfl (by exact List.Perm.refl _) ?_; clear S a; intro r9 G8 a w hv9 S; obtain ⟨wl, wc, wd, rfl, rfl, hwd⟩ := hv9; (simp only [List.singleton_append] at S))
   (revert S a; revert hZ Z; refine go 2 ?_; intro a S)
   refine wpc_sp S rfl ?_ ?_ <;> intro h
   · (refine wp_seq_k ?_; intro Z hZ)
     (refine wpc_mixM [0, 1, 2, 3] [1, 3] [] (.one 0 (.one 1 (.one 2 (.one 3 (.one 4 (.one 5 (.one 6 .nil))))))) [b12] S mixed (by kernel_rfl) ?_; clear S; intro w S)
     (revert S a; refine go 8 ?_; intro a S)
     (refine wso S rfl rfl ?_; clear S; intro w S)
     (revert S a; revert hZ Z; refine go 6 ?_; intro a S)
     refine wp_ret (fin_ret S (results3 Tryz.results26 (RV.tmp S rfl) (RV.cellO S rfl (by rfl)) (RV.tmp S rfl)) ?_)
     (first | (have hne : takeE M ≠ 0 := (by first | assumption | simpa using h); have hwd2 := hwd hne; subst hwd2; exact ⟨fun h9 => absurd h9 hne, fun _ => ⟨_, _, rfl⟩⟩) | (have hz : takeE M = 0 := (by first | assumption | simpa using h); exact ⟨fun _ => ⟨b17, b13, b14, b15, rfl, hv.2 hz⟩, fun h9 => absurd hz h9⟩) | trace_state)
   (revert S a; revert hZ Z; refine go 6 ?_; intro Z hZ a S)
   (refine wso S rfl rfl ?_; clear S; intro w S)
   (revert S a; revert hZ Z; refine go 3 ?_; intro a S)
   refine wp_ret (fin_ret S (results3 Tryz.results26 (RV.tmp S rfl) (RV.cellO S rfl (by rfl)) (RV.tmp S rfl)) ?_)
   (first | (have hne : takeE M ≠ 0 := (by first | assumption | simpa using h); have hwd2 := hwd hne; subst hwd2; exact ⟨fun h9 => absurd h9 hne, fun _ => ⟨_, _, rfl⟩⟩) | (have hz : takeE M = 0 := (by first | assumption | simpa using h); exact ⟨fun _ => ⟨b17, b13, b14, b15, rfl, hv.2 hz⟩, fun h9 => absurd hz h9⟩) | trace_state))
  (refine wpc_mixM [0, 1, 3, 4, 6, 8] [1, 4] [7, 9] (.one 0 (.one 1 (.one 3 (.one 4 (.one 2 (.one 6 (.one 5 (.one 7 (.one 8 (.one 9 .nil)))))))))) [b1] S mixed (by kernel_rfl) ?_; clear S; intro w S)
  (revert S a; refine go 5 ?_; intro a S)
  (refine wpl_callNew S rfl rfl rfl rfl rfl rfl (cloneTCt F _ M.ts h1 hnT) rfl ?_; clear S a; intro vT G9 a w hv S; obtain ⟨gT, xT, rfl, hownT, hxT⟩ := hv; (simp only [List.singleton_append] at S))
  (revert S a; refine go 3 ?_; intro a S)
  (refine wpl_callNew S rfl rfl rfl rfl rfl rfl (cloneRCt F _ M.rs h2 hnR) rfl ?_; clear S a; intro vR G9 a w hv S; obtain ⟨gR, xR, rfl, hownR, hxR⟩ := hv; (simp only [List.singleton_append] at S))
  (revert S a; refine go 2 ?_; intro a S)
  (refine wpl_store1 S rfl rfl rfl rfl rfl hownT.oneCell (by first | (simp; done) | (simp [Value.cells]; done) | exact Nat.le_of_ble_eq_true rfl) ?_; clear S; intro w S)
  (revert S a; refine go 2 ?_; intro a S)
  refine wpm_eff rfl rfl (fun h => absurd h (by decide)) ?_
  (refine wpl_store1 S rfl rfl rfl rfl rfl hownR.oneCell (by first | (simp; done) | (simp [Value.cells]; done) | exact Nat.le_of_ble_eq_true rfl) ?_; clear S; intro w S)
  refine wpList_nil ?_
  refine wpm_nil (fun h => absurd h (by decide)) ?_
  (refine hZ _ _ ?_)
  (refine ⟨vT, vR, gT, gR, xT, xR, hownT, hxT, hownR, hxR, ?_⟩; first | (replace S : St _ _ _ _ _ F [_, gT, gR, _, _, _, _, _] _ _ := St.permI S 8 rfl [7, 1, 0, 2, 3, 4, 5, 6] (by decide); (refine S.keep ?_; exact zk); done) | (replace S : St _ _ _ _ _ F [_, gT, gR, _, _, _, _, _] _ _ := St.permI S 8 rfl [7, 0, 1, 2, 3, 4, 5, 6] (by decide); (refine S.keep ?_; exact zk); done) | trace_state)
def bX (b : Bool) : Ex := litX (boolV b)
def divX : Ex := callX2 [47] (nX 1) (nX 0)
def pairX (a b : Vv) : Ex := (⟨4, 0, 0, [], ⟨0, 0, []⟩, .nil⟩, .cons (litX a).1 (litX a).2 (.cons (litX b).1 (litX b).2 .nil))
def kX (k : Nat) (s : List UInt8) (L : Ef) : Ex := (⟨k, 0, 0, s, ⟨0, 0, []⟩, .nil⟩, L)
def oneL (x : Ex) : Ef := .cons x.1 x.2 .nil
def er (x : Ex) (e : Int) : ExT := ⟨x, zV, e⟩
def varX : Ex := kX 2 [88] .nil
def exT : List ExT := [
 er (callX2 [43] topX (nX 1)) 80, er (callX2 [45] lowX (nX 1)) 80, er (callX2 [42] topX (nX 2)) 80, er (callX2 [42] lowX (nX (-1))) 80,
 ok (callX2 [42] lowX (nX 1)) (intV (-9223372036854775808)), ok (callX2 [42] (nX (-4294967296)) (nX 2147483648)) (intV (-9223372036854775808)), er (callX2 [42] (nX 4294967296) (nX 2147483648)) 80,
 er (callX2 [47] lowX (nX (-1))) 80, ok (callX2 [37] lowX (nX (-1))) (intV 0), er (callX2 [37] (nX 1) (nX 0)) 81,
 er (callX1 sNeg lowX) 80, ok (callX1 sNeg topX) (intV (-9223372036854775807)), er (callX2 [45] (nX 1) lowX) 80, ok (callX2 [45] (nX (-1)) lowX) (intV 9223372036854775807),
 er (callX2 [43] (nX 1) (hX [49])) 70, ok (callX1 sNeg (hX [48])) (bigV [48]), er (callX2 [43] (hX (List.replicate 200 57)) (hX [49])) 80,
 ok (callX2 [43, 43] longX longX) (textV (List.replicate 4096 0)), er (callX2 [43, 43] longX (callX2 [43, 43] longX (tX [97]))) 80, er (callX2 [43, 43] (nX 1) longX) 70,
 ok (callX1 sLen (tX [97, 98])) (intV 2), ok (callX1 sBig (nX 3)) (bigV [51]),
 er (callX1 sInt (hX [57, 50, 50, 51, 51, 55, 50, 48, 51, 54, 56, 53, 52, 55, 55, 53, 56, 48, 56])) 80, ok (callX1 sInt (hX [45, 57, 50, 50, 51, 51, 55, 50, 48, 51, 54, 56, 53, 52, 55, 55, 53, 56, 48, 56])) (intV (-9223372036854775808)),
 er (callX1 sInt (nX 1)) 70, er (callX1 sNot (nX 1)) 70, ok (callX2 sOr (bX true) divX) (boolV true), er (callX2 sOr (bX false) divX) 81, er (callX2 sAnd (nX 1) divX) 70, er (callX2 sAnd (bX true) (nX 1)) 70,
 ok (ifX (bX true) (nX 1) divX) (intV 1), er (ifX (bX false) (nX 1) divX) 81, er (ifX (nX 1) divX divX) 70,
 er varX 71, er (kX 3 [] .nil) 4, er (kX 5 [99] .nil) 63, er (kX 7 [102] (oneL (nX 1))) 70,
 ok (callX2 [60] (pairX (intV 1) (textV [97])) (pairX (intV 1) (textV [98]))) (boolV true), ok (callX2 [61, 61] (nX 1) (tX [49])) (boolV false),
 ok (callX2 [60, 61] (nX 1) (nX 1)) (boolV true), ok (callX2 [62, 61] (nX 1) (nX 1)) (boolV true), ok (callX2 [60] (nX 1) (nX 1)) (boolV false), ok (callX2 [62] (nX 1) (nX 1)) (boolV false),
 er (callH [61, 61], .nil) 4, er (callX1 [63] (nX 1)) 4, er (callX2 [43] divX (callX1 [63] (nX 1))) 4, er (litX zV) 4, er (kX 4 [] (oneL (nX 1))) 4, ok (kX 4 [] .nil) (⟨5, 0, []⟩, .nil),
 er (callX2 [43] divX varX) 81, er (callX2 [43] varX divX) 71]
def comesT (t : ExT) : Bool := comesB t.x t.v t.e
def gvlB : Vf → Bool
 | .nil => true
 | .cons h L r => (decide (in64 h.n) && decide (h.s.length ≤ 200000)) && (gvlB L && gvlB r)
def gvB (v : Vv) : Bool := (decide (in64 v.1.n) && decide (v.1.s.length ≤ 200000)) && (gvlB v.2 && decide (v.2.size ≤ 5000))
def gelB : Ef → Bool
 | .nil => true
 | .cons h L r => (gvB (h.v, h.vl) && (decide (L.len ≤ 3000) && decide (h.nm.length ≤ 4096)) && gelB L) && gelB r
def geB (x : Ex) : Bool := gvB (x.1.v, x.1.vl) && (decide (x.2.len ≤ 3000) && decide (x.1.nm.length ≤ 4096)) && gelB x.2
theorem gvlB_ok : ∀ {l : Vf}, gvlB l = true → GVl l
 | .nil, _ => trivial
 | .cons h L r, e => by
  unfold gvlB at e
  simp only [Bool.and_eq_true, decide_eq_true_eq] at e
  exact ⟨e.1, gvlB_ok e.2.1, gvlB_ok e.2.2⟩
theorem gvB_ok {v : Vv} (e : gvB v = true) : GV v := by
 unfold gvB at e
 simp only [Bool.and_eq_true, decide_eq_true_eq] at e
 exact ⟨e.1, gvlB_ok e.2.1, e.2.2⟩
theorem gelB_ok : ∀ {l : Ef}, gelB l = true → GEl l
 | .nil, _ => trivial
 | .cons h L r, e => by
  unfold gelB at e
  simp only [Bool.and_eq_true, decide_eq_true_eq] at e
  exact ⟨⟨gvB_ok e.1.1.1, ⟨e.1.1.2.1, Nat.le_trans e.1.1.2.2 (by decide)⟩, gelB_ok e.1.2⟩, gelB_ok e.2⟩
theorem geB_ok {x : Ex} (e : geB x = true) : GE x.1 x.2 := by
 unfold geB at e
 simp only [Bool.and_eq_true, decide_eq_true_eq] at e
 exact ⟨gvB_ok e.1.1, ⟨e.1.2.1, Nat.le_trans e.1.2.2 (by decide)⟩, gelB_ok e.2⟩
theorem exT_all : (exT.all fun t => comesT t && geB t.x) = true := by kernel_rfl
theorem exT_at {t : ExT} (h : t ∈ exT) : comesB t.x t.v t.e = true ∧ GE t.x.1 t.x.2 := by
 have := List.all_eq_true.1 exT_all t h
 rw [Bool.and_eq_true] at this
 exact ⟨this.1, geB_ok this.2⟩
theorem exT_len : exT.length = 51 := by kernel_rfl
end Go.Proofs.YtgefmjghdijbfaaGreatDoor
