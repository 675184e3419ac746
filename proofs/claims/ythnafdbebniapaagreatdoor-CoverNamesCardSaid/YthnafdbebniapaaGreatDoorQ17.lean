/- Walks. -/
import Derived.Test.YthnafdbebniapaaGreatDoorQ16
import Derived.Test.YthnafdbebniapaaGreatDoorQ11
import Derived.Lib.SlTrimSet
import Derived.Shelf.Strings.Prefix
import Derived.Lib.Bytealg
set_option maxHeartbeats 64000000
set_option maxRecDepth 20000
namespace Go.Proofs.YthnafdbebniapaaGreatDoor
open Go Go.Wk Go.Un Go.De
set_option linter.unusedSimpArgs false
set_option linter.unusedVariables false
attribute [local irreducible] Go.wpList Go.Code.wp Go.wpStill Go.Wk.wpPre Go.bodyPost Go.Calls Go.Wk.Ct Go.Wk.OwnS Go.Wk.wpG Go.Wk.wpM
section
variable {P : Program} {n : Sz} {L : List (Nat × Value)} {w0 : World} {F0 : Heap} {K0 : List Nat} {F : Heap} {G : List Grp} {a : Act} {w : World} {ops : Array Oper} {Q : Exit → Act → World → Prop} {rest : List Oper} {o : Oper}
theorem wpl_callNew {d : Nat} {x : Operand} {xs : Array Operand} {ts : Array TypeId} {f : FuncId} {fi ca vs args : List Value} {Post : List Grp → Value → Prop} [hf : HasFn P f] (S : St n L w0 F0 K0 F G a w) (hg : o.guard = none) (hd : o.dst = some d) (hn : Nat.blt d n.sz = true)
  (ho : o.op = .call { callee := .value x, args := xs, argTypes := ts }) (hx : ev L x = some (.func (.func f) ⟨fi⟩ ⟨ca⟩)) (hxs : evs L xs.toList = some vs) (C : Ct P f args F [] (fun _ G' u => Post G' u)) (ha : fi ++ vs ++ ca = args)
  (k : ∀ v G' a' w', Post G' v → St n ((d, v) :: L) w0 F0 K0 F (G' ++ G) a' w' → wpList P ops Q rest a' w') : wpList P ops Q (o :: rest) a w :=
 wpl_callOwn (Gs := []) (Gr := G) S hg hd hn ho hx hxs C ha (by simp) k
theorem sv_loadAOc {x : Operand} {t : TypeId} {z : Value} {sz by_ b off : Nat} {c vs : List Value} {e f R} [ht : Ag P t] [hi : Inf P t z sz by_] [hh : Has G b (.cells ⟨c⟩ e f) R] (S : St n L w0 F0 K0 F G a w) (ho : o.op = .load t x) (hx : ev L x = some (.pointer (some ⟨b, off, none⟩)))
  (hc : ∀ j u, vs[j]? = some u → c[off + j]? = some u) (hl : vs.length = sz) : SV P o a w (.agg ⟨vs⟩) :=
 sv_loadA S ho hx hl fun j v hj => cell_of_heap (S.has hh) (by simpa using hc j v hj)
end
def MSz (M : MD) : Prop := TSz M.ts ∧ RSz M.rs ∧ M.ts.length ≤ 1000000 ∧ M.rs.length ≤ 1000000
theorem FSz.thin {l : List FD} (h : FSz l) : FThin l := fun x hx => by
 have h1 := h x hx
 have h2 : ∀ l : Fo, l.size ≤ 1000000 → Thin l := by
  intro l
  induction l with
  | nil => intro _; trivial
  | cons nm ar r ih1 ih2 =>
   intro h
   simp only [Fo.size] at h
   have := Fo.len_size ar
   exact ⟨by omega, ih1 (by omega), ih2 (by omega)⟩
 have := Fo.len_size x.ta
 exact ⟨by omega, h2 _ h1⟩
theorem newCt (F : Heap) (hE : ErrT F) (M : MD) (cs : List Value) (h : MdR F M cs) (hsz : MSz M) :
    Ct Tryz.prog 26 [.agg ⟨cs⟩] F [] (fun F' _ u => (takeE M = 0 → ∃ tb m1 m2 m3, u = .tuple ⟨[.pointer (some ⟨tb, 0, none⟩), .agg ⟨[.int .i64 0, .int .i64 0]⟩, .int .i64 0]⟩ ∧ TabS F' tb m1 m2 m3 M.ts (consOf M.ts) M.rs) ∧ (takeE M ≠ 0 → ∃ l c : Int, u = .tuple ⟨[.pointer none, .agg ⟨[.int .i64 l, .int .i64 c]⟩, .int .i64 (takeE M)]⟩)) := by
  obtain ⟨hsT, hsR, hnT, hnR⟩ := hsz
  obtain ⟨i1, i2, i3, v1, v2, v3, v4, rfl, h1, h2, h3, h4⟩ := h
  have h1c := h1
  obtain ⟨ao1, cap1, rfl, -, -⟩ := h1c
  have h2c := h2
  obtain ⟨ao2, cap2, rfl, -, -⟩ := h2c
  have h3c := h3
  obtain ⟨ao3, cap3, rfl, -, -⟩ := h3c
  have h4c := h4
  obtain ⟨ao4, cap4, rfl, -, -⟩ := h4c
  refine Ct.enter Tryz.func26 rfl Tryz.ntmps26 rfl fun w0 a S => ?_
  refine wp_sr fun Z hZ => ?_
  (refine wbx S ?_; clear S a; intro b1 a w S)
  (revert S a; refine go 1 ?_; intro a S)
  (refine wpl_alloc S rfl rfl rfl rfl ?_; clear S a; intro b3 a w S)
  (revert S a; revert hZ Z; refine go 4 ?_; intro Z hZ a S)
  (refine wpl_makeMap kS S rfl rfl rfl rfl ?_; clear S a; intro b13 a w S)
  (refine wpl_makeMap kS S rfl rfl rfl rfl ?_; clear S a; intro b14 a w S)
  (refine wpl_makeMap kS S rfl rfl rfl rfl ?_; clear S a; intro b15 a w S)
  (revert S a; refine go 1 ?_; intro a S)
  (refine wbx S ?_; clear S a; intro b17 a w S)
  (revert S a; revert hZ Z; refine go 3 ?_; intro a S)
  (refine wp_seq_k ?_; intro Z hZ)
  replace hZ : ∀ (a' : Act) (w' : World), (∃ (vT vR : Value) (gT gR : Grp) (xT xR : List Value), OwnS 69 6 vT M.ts.length xT gT ∧ LiC F 6 TdR xT M.ts ∧ OwnS 107 6 vR M.rs.length xR gR ∧ LiC F 6 RdR xR M.rs ∧ St 100 [(1, ptr b1), (3, ptr b3), (5, ptr b17)] w0 F [] F [[(b1, .cells ⟨[.string (bs M.nm), .slice i1 i2 i3, vT, vR, .slice ao3 M.ru.length cap3, .slice ao4 M.nv.length cap4]⟩ 76 (0, 0))], gT, gR, [(b17, .cells ⟨[.map (some b13), .map (some b14), .map (some b15)]⟩ 103 (0, 0))], [(b15, mObj kS [])], [(b14, mObj kS [])], [(b13, mObj kS [])], [(b3, .cells ⟨[.int .i64 0, .int .i64 0]⟩ 23 (0, 0))]] a' w') → Z a' w' := (by
   (intro a w hM; refine hZ _ _ ?_; clear hZ Z; clear S; obtain ⟨vT, vR, gT, gR, xT, xR, hownT, hxT, hownR, hxR, S⟩ := hM)
   iterate 2 (refine wp_seq_k ?_; intro Z hZ)
   (have vTat := hownT.at; obtain ⟨aT0, cT0, rfl, -, -, -⟩ := vTat)
   (revert S a; revert hZ Z; refine go 8 ?_; intro a S)
   refine wpc_loop (fun m a w' => ∃ (i : Nat) (vT : Value) (gT : Grp) (xT : List Value) (F3 : Heap), m = M.ts.length - i ∧ i ≤ M.ts.length ∧ (∀ b o, F b = some o → F3 b = some o) ∧ OwnS 69 6 vT M.ts.length xT gT ∧ LiC F3 6 TdR xT M.ts ∧ St 100 [(1, ptr b1), (3, ptr b3), (5, ptr b17), (27, vT), (28, .int .i64 M.ts.length), (29, .int .i64 i)] w0 F [] F3 [[(b1, .cells ⟨[.string (bs M.nm), .slice i1 i2 i3, vT, vR, .slice ao3 M.ru.length cap3, .slice ao4 M.nv.length cap4]⟩ 76 (0, 0))], gT, gR, [(b17, .cells ⟨[.map (some b13), .map (some b14), .map (some b15)]⟩ 103 (0, 0))], [(b15, mObj kS [])], [(b14, mObj kS [])], [(b13, mObj kS [])], [(b3, .cells ⟨[.int .i64 0, .int .i64 0]⟩ 23 (0, 0))]] a w') ?_ ?_
   · (refine ⟨M.ts.length, 0, _, gT, xT, F, by omega, Nat.zero_le _, fun _ _ h => h, hownT, hxT, ?_⟩; refine S.keep ?_; exact zk)
   (clear S hownT hxT; rintro m a w ⟨i, vT, gT, xT, F3, rfl, hil, hF3, hownT, hxT, S⟩)
   (revert S a; refine go 5 ?_; intro Z hZ a S)
   refine wpc_sp S rfl ?_ ?_ <;> intro h
   · (revert S a; revert hZ Z; refine go 4 ?_; intro Z hZ a S)
     (refine wp_seq_k ?_; intro Z hZ)
     (obtain ⟨bT, capT, exT, rfl, rfl, hcq, hcm, hxl, hxe⟩ := ownS_blkN hownT (by omega); obtain ⟨x, hx⟩ : ∃ x, M.ts[i]? = some x := ⟨_, List.getElem?_eq_getElem (by omega)⟩; obtain ⟨xa, cs1, xb, rfl, hxal, -, ⟨vp0, vc0, rfl, hps, hcs⟩, hla, hlb⟩ := hxT.split hx; have hpsc := hps; have hcsc := hcs; obtain ⟨ap, cp, rfl, -, -⟩ := hpsc; obtain ⟨ac, cc, rfl, hcc9, hposc⟩ := hcsc; have hxsz := hsT x (List.mem_of_getElem? hx))
     (revert S a; refine go 3 ?_; intro a S)
     (refine wv S (sv_loadAOc (vs := [.int .i64 x.l, .int .i64 x.c, .bool x.pub, .string (bs x.nm), .slice ap x.ps.length cp, .slice ac x.cs.length cc]) S rfl rfl (fun j u hj => get_mid hxal hj) rfl) ?_; clear S a; intro a S)
     (refine wpl_alloc S rfl rfl rfl rfl ?_; clear S a; intro b7 a w S)
     (revert S a; refine go 1 ?_; intro a S)
     (refine wso S rfl rfl ?_; clear S; intro w S)
     (revert S a; revert hZ Z; refine go 2 ?_; intro a S)
     (refine wp_seq_k ?_; intro Z hZ)
     replace hZ : ∀ (a' : Act) (w' : World), (∃ (vP vC : Value) (gP gC : Grp) (xP xC : List Value), OwnS 9 1 vP x.ps.length xP gP ∧ LiC F3 1 StR xP x.ps ∧ OwnS 92 2 vC x.cs.length xC gC ∧ LiC F3 2 CdR xC x.cs ∧ St 100 [(1, ptr b1), (3, ptr b3), (5, ptr b17), (6, .int .i64 i), (7, ptr b7), (27, .slice (some ⟨bT, 0, none⟩) M.ts.length capT), (28, .int .i64 M.ts.length), (29, .int .i64 i)] w0 F [] F3 [gP, gC, [(b7, .cells ⟨[.int .i64 x.l, .int .i64 x.c, .bool x.pub, .string (bs x.nm), .slice ap x.ps.length cp, .slice ac x.cs.length cc]⟩ 69 (0, 0))], [(b1, .cells ⟨[.string (bs M.nm), .slice i1 i2 i3, .slice (some ⟨bT, 0, none⟩) M.ts.length capT, vR, .slice ao3 M.ru.length cap3, .slice ao4 M.nv.length cap4]⟩ 76 (0, 0))], [(bT, .cells ⟨(xa ++ [.int .i64 x.l, .int .i64 x.c, .bool x.pub, .string (bs x.nm), vP, vC] ++ xb) ++ exT⟩ 69 (0, 0))], gR, [(b17, .cells ⟨[.map (some b13), .map (some b14), .map (some b15)]⟩ 103 (0, 0))], [(b15, mObj kS [])], [(b14, mObj kS [])], [(b13, mObj kS [])], [(b3, .cells ⟨[.int .i64 0, .int .i64 0]⟩ 23 (0, 0))]] a' w') → Z a' w' := (by
      (intro a w hM; refine hZ _ _ ?_; clear hZ Z; clear S; obtain ⟨vP, vC, gP, gC, xP, xC, hownP, hxP, hownC, hxC, S⟩ := hM)
      (refine wp_seq_k ?_; intro Z hZ)
      (have hF4 := add_le (G1 := []) S; replace S := St.freeze (G1 := []) S; (try simp only [List.nil_append] at S hF4); have hvP : LiM (F3.add gP) 1 StR vP x.ps := LiC.lim hownP hxP rfl hF4 (by omega); generalize F3.add gP = F4 at S hF4 hvP)
      (revert S a; revert hZ Z; refine go 8 ?_; intro a S)
      refine wpc_loop (fun m a w' => ∃ (k : Nat) (vC : Value) (gC : Grp) (xC : List Value) (F5 : Heap), m = x.cs.length - k ∧ k ≤ x.cs.length ∧ (∀ b o, F4 b = some o → F5 b = some o) ∧ OwnS 92 2 vC x.cs.length xC gC ∧ LiC F5 2 CdR xC x.cs ∧ St 100 [(1, ptr b1), (3, ptr b3), (5, ptr b17), (6, .int .i64 i), (7, ptr b7), (27, .slice (some ⟨bT, 0, none⟩) M.ts.length capT), (28, .int .i64 M.ts.length), (29, .int .i64 i), (51, .slice ac x.cs.length cc), (52, .int .i64 x.cs.length), (53, .int .i64 k)] w0 F [] F5 [gC, [(b7, .cells ⟨[.int .i64 x.l, .int .i64 x.c, .bool x.pub, .string (bs x.nm), .slice ap x.ps.length cp, .slice ac x.cs.length cc]⟩ 69 (0, 0))], [(b1, .cells ⟨[.string (bs M.nm), .slice i1 i2 i3, .slice (some ⟨bT, 0, none⟩) M.ts.length capT, vR, .slice ao3 M.ru.length cap3, .slice ao4 M.nv.length cap4]⟩ 76 (0, 0))], [(bT, .cells ⟨(xa ++ [.int .i64 x.l, .int .i64 x.c, .bool x.pub, .string (bs x.nm), vP, vC] ++ xb) ++ exT⟩ 69 (0, 0))], gR, [(b17, .cells ⟨[.map (some b13), .map (some b14), .map (some b15)]⟩ 103 (0, 0))], [(b15, mObj kS [])], [(b14, mObj kS [])], [(b13, mObj kS [])], [(b3, .cells ⟨[.int .i64 0, .int .i64 0]⟩ 23 (0, 0))]] a w') ?_ ?_
      · (refine ⟨x.cs.length, 0, vC, gC, xC, F4, by omega, Nat.zero_le _, fun _ _ h => h, hownC, hxC.mono hF4, ?_⟩; refine S.keep ?_; exact zk)
      (clear S hownC hxC; rintro m a w ⟨k, vC, gC, xC, F5, rfl, hkl, hF5, hownC, hxC, S⟩)
      (revert S a; refine go 5 ?_; intro Z hZ a S)
      refine wpc_sp S rfl ?_ ?_ <;> intro h
      · (revert S a; revert hZ Z; refine go 4 ?_; intro Z hZ a S)
        (refine wp_seq_k ?_; intro Z hZ)
        (obtain ⟨bC, capC, exC, rfl, rfl, hcq2, hcm2, hyl, hye⟩ := ownS_blkN hownC (by omega); obtain ⟨bq, oq, hao2, y, cs2, hy, hd1, ⟨w3, rfl, hfs⟩⟩ := LiM.pos hposc (k := k) (by omega); obtain ⟨ya, cs3, yb, rfl, hyal, -, ⟨w4, rfl, hfs4⟩, hya, hyb⟩ := hxC.split hy; rw [hao2] at S; have hF35 : ∀ b o, F3 b = some o → F5 b = some o := (fun b o h => hF5 _ _ (hF4 _ _ h)); replace hd1 := Cels.mono hF35 hd1; replace hfs := hfs.mono hF35; have hfsc := hfs; obtain ⟨af, cf, rfl, -, -⟩ := hfsc; have hysz := hxsz.2.2 y (List.mem_of_getElem? hy))
        (revert S a; refine go 4 ?_; intro a S)
        (refine wpl_alloc S rfl rfl rfl rfl ?_; clear S a; intro b9 a w S)
        (revert S a; refine go 1 ?_; intro a S)
        (refine wso S rfl rfl ?_; clear S; intro w S)
        (revert S a; revert hZ Z; refine go 2 ?_; intro a S)
        (refine wpc_mixM [0, 1, 2, 3, 4, 5, 6, 7, 8, 10, 11] [1, 5, 8] [] (.one 0 (.one 1 (.one 2 (.one 3 (.one 4 (.one 5 (.one 6 (.one 7 (.one 8 (.one 9 (.one 10 (.one 11 (.one 12 .nil))))))))))))) [b1, bT, b9] S mixed (by kernel_rfl) ?_; clear S; intro w S)
        (revert S a; refine go 5 ?_; intro a S)
        (refine wpm_lateO bT S rfl rfl rfl (want_none _ rfl) rfl rfl (fun w' S => sv_loadO S rfl rfl (get_mid (j := 5) (cs := [.int .i64 x.l, .int .i64 x.c, .bool x.pub, .string (bs x.nm), vP, .slice (some ⟨bC, 0, none⟩) x.cs.length capC]) hxal rfl)) ?_; clear S a; intro a S)
        (revert S a; refine go 4 ?_; intro a S)
        (refine wcF S (ownedCt F5 y.fs _ hfs hysz.2 hysz.1.thin) ?_; clear S a; intro vf6 F6 a w hvf6 hF6 S)
        (revert S a; refine go 4 ?_; intro a S)
        (refine wpl_store1 S rfl rfl rfl rfl rfl (lim_one hvf6) (by simp only [List.length_append, List.length_cons, List.length_nil]; omega) ?_; clear S; intro w S; rw [set_mid _ hyal (by simp)] at S)
        (revert S a; revert hZ Z; refine go 7 ?_; intro a S)
        change ∃ m', _ ∧ _
        (rw [← hao2] at S; replace S := S.drop1; refine ⟨x.cs.length - (k + 1), by omega, k + 1, .slice (some ⟨bC, 0, none⟩) x.cs.length capC, _, _, F6, rfl, by omega, fun b o h => hF6 _ _ (hF5 _ _ h), ownS_mkN (b := bC) (cap := capC) (xs := ya ++ [.string (bs y.nm), vf6] ++ yb) (ex := exC) (by simp only [List.length_append, List.length_cons, List.length_nil] at hyl ⊢; omega) hcq2 hcm2 (by simp only [List.length_append, List.length_cons, List.length_nil] at hye ⊢; omega), LiC.join hy (hya.mono hF6) rfl ⟨_, rfl, hvf6⟩ (hyb.mono hF6), ?_⟩; refine S.keep ?_; exact zk)
      (refine wp_exit ?_; conv => whnf)
      clear hZ Z
      (revert S a; revert hZ Z; refine go 5 ?_; intro a S)
      change ∃ m', _ ∧ _
      (replace S : St _ _ _ _ _ F5 [gC, _, _, _, _, _, _, _, _, _] _ _ := S; have hle5 := add_le (G1 := []) S; replace S := St.freeze (G1 := []) S; (try simp only [List.nil_append] at S hle5); have hvC : LiM (F5.add gC) 2 CdR vC x.cs := LiC.lim hownC hxC rfl hle5 (by omega); generalize F5.add gC = F6 at S hle5 hvC; replace S := S.drop1; have hF36 : ∀ b o, F3 b = some o → F6 b = some o := (fun b o h => hle5 _ _ (hF5 _ _ (hF4 _ _ h))); refine ⟨M.ts.length - (i + 1), by omega, i + 1, .slice (some ⟨bT, 0, none⟩) M.ts.length capT, _, _, F6, rfl, by omega, fun b o h => hF36 _ _ (hF3 _ _ h), ownS_mkN (b := bT) (cap := capT) (xs := xa ++ [.int .i64 x.l, .int .i64 x.c, .bool x.pub, .string (bs x.nm), vP, vC] ++ xb) (ex := exT) (by simp only [List.length_append, List.length_cons, List.length_nil] at hxl ⊢; omega) hcq hcm (by simp only [List.length_append, List.length_cons, List.length_nil] at hxe ⊢; omega), LiC.join hx (hla.mono hF36) rfl ⟨_, _, rfl, hvP.mono (fun b o h => hle5 _ _ (hF5 _ _ h)), hvC⟩ (hlb.mono hF36), ?_⟩; refine S.keep ?_; exact zk))
     (refine wpc_mixM [0, 1, 2, 3, 4, 5, 6, 7, 9, 10, 12, 13, 15, 16] [1, 4, 7, 10] [] (.one 0 (.one 1 (.one 2 (.one 3 (.one 4 (.one 5 (.one 6 (.one 7 (.one 9 (.one 10 (.one 8 (.one 11 (.one 12 (.one 13 (.one 14 (.one 15 (.one 16 (.one 17 .nil)))))))))))))))))) [b1, b7] S mixed (by kernel_rfl) ?_; clear S; intro w S)
     (revert S a; refine go 11 ?_; intro a S)
     (refine wpl_callNew S rfl rfl rfl rfl rfl rfl (cloneSCt F3 _ x.ps hps hxsz.2.1) rfl ?_; clear S a; intro vP G9 a w hv S; obtain ⟨gP, xP, rfl, hownP, hxP⟩ := hv; (simp only [List.singleton_append] at S))
     (revert S a; refine go 2 ?_; intro a S)
     (refine wpl_callNew S rfl rfl rfl rfl rfl rfl (cloneCCt F3 _ x.cs hcs hxsz.1) rfl ?_; clear S a; intro vC G9 a w hv S; obtain ⟨gC, xC, rfl, hownC, hxC⟩ := hv; (simp only [List.singleton_append] at S))
     (revert S a; refine go 4 ?_; intro a S)
     (refine wpl_store1 S rfl rfl rfl rfl rfl hownP.oneCell (by simp only [List.length_append, List.length_cons, List.length_nil]; omega) ?_; clear S; intro w S; rw [set_mid _ hxal (by simp)] at S)
     (revert S a; refine go 4 ?_; intro a S)
     (refine wpl_store1 S rfl rfl rfl rfl rfl hownC.oneCell (by simp only [List.length_append, List.length_set, List.length_cons, List.length_nil]; omega) ?_; clear S; intro w S; rw [set_mid _ hxal (by simp)] at S)
     (revert S a; refine go 2 ?_; intro a S)
     (refine hZ _ _ ?_)
     (refine ⟨vP, vC, gP, gC, xP, xC, hownP, hxP, hownC, hxC, ?_⟩; first | (replace S : St _ _ _ _ _ F3 [gP, gC, _, _, _, _, _, _, _, _, _] _ _ := S; (refine S.keep ?_; exact zk); done) | (replace S : St _ _ _ _ _ F3 [gP, gC, _, _, _, _, _, _, _, _, _] _ _ := St.permI S 11 rfl [1, 0, 2, 3, 4, 5, 6, 7, 8, 9, 10] (by decide); (refine S.keep ?_; exact zk); done) | trace_state)
   (refine wp_exit ?_; conv => whnf)
   clear hZ Z
   (revert S a; revert hZ Z; refine go 2 ?_; intro Z hZ a S)
   (refine wp_seq_k ?_; intro Z hZ)
   (have vRat := hownR.at; obtain ⟨aR0, cR0, rfl, -, -, -⟩ := vRat)
   (revert S a; revert hZ Z; refine go 8 ?_; intro a S)
   refine wpc_loop (fun m a w' => ∃ (i : Nat) (vR : Value) (gR : Grp) (xR : List Value) (F7 : Heap), m = M.rs.length - i ∧ i ≤ M.rs.length ∧ (∀ b o, F3 b = some o → F7 b = some o) ∧ OwnS 107 6 vR M.rs.length xR gR ∧ LiC F7 6 RdR xR M.rs ∧ St 100 [(1, ptr b1), (3, ptr b3), (5, ptr b17), (73, vR), (74, .int .i64 M.rs.length), (75, .int .i64 i)] w0 F [] F7 [[(b1, .cells ⟨[.string (bs M.nm), .slice i1 i2 i3, vT, vR, .slice ao3 M.ru.length cap3, .slice ao4 M.nv.length cap4]⟩ 76 (0, 0))], gT, gR, [(b17, .cells ⟨[.map (some b13), .map (some b14), .map (some b15)]⟩ 103 (0, 0))], [(b15, mObj kS [])], [(b14, mObj kS [])], [(b13, mObj kS [])], [(b3, .cells ⟨[.int .i64 0, .int .i64 0]⟩ 23 (0, 0))]] a w') ?_ ?_
   · (refine ⟨M.rs.length, 0, _, gR, xR, F3, by omega, Nat.zero_le _, fun _ _ h => h, hownR, hxR.mono hF3, ?_⟩; refine S.keep ?_; exact zk)
   (clear S hownR hxR; rintro m a w ⟨i, vR, gR, xR, F7, rfl, hil, hF7, hownR, hxR, S⟩)
   (revert S a; refine go 5 ?_; intro Z hZ a S)
   refine wpc_sp S rfl ?_ ?_ <;> intro h
   · (revert S a; revert hZ Z; refine go 4 ?_; intro Z hZ a S)
     (refine wp_seq_k ?_; intro Z hZ)
     (obtain ⟨bR, capR, exR, rfl, rfl, hcq2, hcm2, hyl, hye⟩ := ownS_blkN hownR (by omega); obtain ⟨x, hx⟩ : ∃ x, M.rs[i]? = some x := ⟨_, List.getElem?_eq_getElem (by omega)⟩; obtain ⟨ya, cs1, yb, rfl, hyal, -, ⟨vf0, rfl, hfs⟩, hya, hyb⟩ := hxR.split hx; have hfsc := hfs; obtain ⟨af, cf, rfl, -, -⟩ := hfsc; have hxsz := hsR x (List.mem_of_getElem? hx))
     (revert S a; refine go 3 ?_; intro a S)
     (refine wv S (sv_loadAOc (vs := [.int .i64 x.l, .int .i64 x.c, .bool x.pub, .bool x.inp, .string (bs x.nm), .slice af x.fs.length cf]) S rfl rfl (fun j u hj => get_mid hyal hj) rfl) ?_; clear S a; intro a S)
     (refine wpl_alloc S rfl rfl rfl rfl ?_; clear S a; intro b11 a w S)
     (revert S a; refine go 1 ?_; intro a S)
     (refine wso S rfl rfl ?_; clear S; intro w S)
     (revert S a; revert hZ Z; refine go 2 ?_; intro a S)
     (refine wpc_mixM [0, 1, 2, 3, 4, 6, 7] [1, 4] [] (.one 0 (.one 1 (.one 2 (.one 3 (.one 4 (.one 5 (.one 6 (.one 7 (.one 8 .nil))))))))) [b1, b11] S mixed (by kernel_rfl) ?_; clear S; intro w S)
     (revert S a; refine go 6 ?_; intro a S)
     (refine wcF S (ownedCt F7 x.fs _ hfs hxsz.2 hxsz.1.thin) ?_; clear S a; intro vf8 F8 a w hvf8 hF8 S)
     (revert S a; refine go 4 ?_; intro a S)
     (refine wpl_store1 S rfl rfl rfl rfl rfl (lim_one hvf8) (by simp only [List.length_append, List.length_cons, List.length_nil]; omega) ?_; clear S; intro w S; rw [set_mid _ hyal (by simp)] at S)
     (revert S a; revert hZ Z; refine go 7 ?_; intro a S)
     change ∃ m', _ ∧ _
     (replace S := S.drop1; refine ⟨M.rs.length - (i + 1), by omega, i + 1, .slice (some ⟨bR, 0, none⟩) M.rs.length capR, _, _, F8, rfl, by omega, fun b o h => hF8 _ _ (hF7 _ _ h), ownS_mkN (b := bR) (cap := capR) (xs := ya ++ [.int .i64 x.l, .int .i64 x.c, .bool x.pub, .bool x.inp, .string (bs x.nm), vf8] ++ yb) (ex := exR) (by simp only [List.length_append, List.length_cons, List.length_nil] at hyl ⊢; omega) hcq2 hcm2 (by simp only [List.length_append, List.length_cons, List.length_nil] at hye ⊢; omega), LiC.join hx (hya.mono hF8) rfl ⟨_, rfl, hvf8⟩ (hyb.mono hF8), ?_⟩; refine S.keep ?_; exact zk)
   (refine wp_exit ?_; conv => whnf)
   clear hZ Z
   (revert S a; revert hZ Z; refine go 2 ?_; intro Z hZ a S)
   (refine wpl_alloc S rfl rfl rfl rfl ?_; clear S a; intro b12 a w S)
   (revert S a; revert hZ Z; refine go 3 ?_; intro Z hZ a S)
   (refine wp_seq_k ?_; intro Z hZ)
   (replace S : St _ _ _ _ _ F7 [gT, gR, [(b17, .cells ⟨[.map (some b13), .map (some b14), .map (some b15)]⟩ 103 (0, 0))], [(b13, mObj kS [])], [(b14, mObj kS [])], [(b15, mObj kS [])], [(b12, .cells ⟨[.int .i64 0, .int .i64 0, .int .i64 0]⟩ 112 (0, 0))], [(b1, .cells ⟨[.string (bs M.nm), .slice i1 i2 i3, vT, vR, .slice ao3 M.ru.length cap3, .slice ao4 M.nv.length cap4]⟩ 76 (0, 0))], [(b3, .cells ⟨[.int .i64 0, .int .i64 0]⟩ 23 (0, 0))]] _ _ := St.permI S 9 rfl [2, 3, 4, 7, 6, 5, 0, 1, 8] (by decide); have hle1 := add_le (G1 := []) S; replace S := St.freeze (G1 := []) S; (try simp only [List.nil_append] at S hle1); have hvT : LiM (F7.add gT) 6 TdR vT M.ts := LiC.lim hownT (hxT.mono hF7) rfl hle1 (by omega); generalize F7.add gT = F8 at S hle1 hvT; have hle2 := add_le (G1 := []) S; replace S := St.freeze (G1 := []) S; (try simp only [List.nil_append] at S hle2); have hvR : LiM (F8.add gR) 6 RdR vR M.rs := LiC.lim hownR (hxR.mono hle1) rfl hle2 (by omega); generalize F8.add gR = F9 at S hle2 hvR; have hle3 := add_le (G1 := []) S; replace S := St.freeze (G1 := []) S; (try simp only [List.nil_append] at S hle3); have hcc : Cels (F9.add [(b17, .cells ⟨[.map (some b13), .map (some b14), .map (some b15)]⟩ 103 (0, 0))]) b17 0 [.map (some b13), .map (some b14), .map (some b15)] := (fun j u hj => ⟨_, _, _, Heap.add_new (p := (b17, _)) (List.mem_singleton.2 rfl) (by simp), by simpa using hj⟩); generalize (F9.add [(b17, .cells ⟨[.map (some b13), .map (some b14), .map (some b15)]⟩ 103 (0, 0))]) = F10 at S hle3 hcc; have hF10 : ∀ b o, F b = some o → F10 b = some o := (fun b o h => hle3 _ _ (hle2 _ _ (hle1 _ _ (hF7 _ _ (hF3 _ _ h))))); have hMd : MdR F10 M [.string (bs M.nm), .slice i1 i2 i3, vT, vR, .slice ao3 M.ru.length cap3, .slice ao4 M.nv.length cap4] := ⟨_, _, _, _, _, _, _, rfl, hvT.mono (fun b o h => hle3 _ _ (hle2 _ _ h)), hvR.mono hle3, h3.mono hF10, h4.mono hF10⟩)
   (revert S a; refine go 3 ?_; intro a S)
   (refine wpl_call (Gs := [[(b13, mObj kS [])], [(b14, mObj kS [])], [(b15, mObj kS [])]]) (Gr := [[(b12, .cells ⟨[.int .i64 0, .int .i64 0, .int .i64 0]⟩ 112 (0, 0))], [(b1, .cells ⟨[.string (bs M.nm), .slice i1 i2 i3, vT, vR, .slice ao3 M.ru.length cap3, .slice ao4 M.nv.length cap4]⟩ 76 (0, 0))], [(b3, .cells ⟨[.int .i64 0, .int .i64 0]⟩ 23 (0, 0))]]) S rfl rfl rfl rfl rfl rfl (takeCt F10 b17 b13 b14 b15 hcc M _ hMd hsT hsR) rfl (by exact List.Perm.refl _) ?_; clear S a; intro u9 F11 G9 a w hv hF11 S; replace S := St.rotG S)
   (revert S a; refine go 1 ?_; intro a S)
   (refine wpl_callOwn (Gs := [[(b12, .cells ⟨[.int .i64 0, .int .i64 0, .int .i64 0]⟩ 112 (0, 0))]]) (Gr := _ :: _ :: G9) S rfl rfl rfl rfl rfl rfl (asErrCt F11 (hE.mono (fun b o h => hF11 _ _ (hF10 _ _ h))) (takeE M) u9 hv.1 b12) rfl (by exact List.Perm.refl _) ?_; clear S a; intro r9 G8 a w hv9 S; obtain ⟨wl, wc, wd, rfl, rfl, hwd⟩ := hv9; (simp only [List.singleton_append] at S))
   (revert S a; revert hZ Z; refine go 2 ?_; intro a S)
   refine wpc_sp S rfl ?_ ?_ <;> intro h
   · (refine wp_seq_k ?_; intro Z hZ)
     (refine wpc_mixM [0, 1, 2, 3] [1, 3] [] (.one 0 (.one 1 (.one 2 (.one 3 (.one 4 (.one 5 (.one 6 .nil))))))) [b12] S mixed (by kernel_rfl) ?_; clear S; intro w S)
     (revert S a; refine go 8 ?_; intro a S)
     (refine wso S rfl rfl ?_; clear S; intro w S)
     (revert S a; revert hZ Z; refine go 6 ?_; intro a S)
     refine wp_ret (fin_ret S (results3 Tryz.results26 (RV.tmp S rfl) (RV.cellO S rfl (by rfl)) (RV.tmp S rfl)) ?_)
     (first | (have hne : takeE M ≠ 0 := (by first | assumption | simpa using h); have hwd2 := hwd hne; subst hwd2; exact ⟨fun h9 => absurd h9 hne, fun _ => ⟨_, _, rfl⟩⟩) | (have hz : takeE M = 0 := (by first | assumption | simpa using h); exact ⟨fun _ => ⟨b17, b13, b14, b15, rfl, hv.2 hz⟩, fun h9 => absurd hz h9⟩) | trace_state)
   (revert S a; revert hZ Z; refine go 6 ?_; intro Z hZ a S)
   (refine wso S rfl rfl ?_; clear S; intro w S)
   (revert S a; revert hZ Z; refine go 3 ?_; intro a S)
   refine wp_ret (fin_ret S (results3 Tryz.results26 (RV.tmp S rfl) (RV.cellO S rfl (by rfl)) (RV.tmp S rfl)) ?_)
   (first | (have hne : takeE M ≠ 0 := (by first | assumption | simpa using h); have hwd2 := hwd hne; subst hwd2; exact ⟨fun h9 => absurd h9 hne, fun _ => ⟨_, _, rfl⟩⟩) | (have hz : takeE M = 0 := (by first | assumption | simpa using h); exact ⟨fun _ => ⟨b17, b13, b14, b15, rfl, hv.2 hz⟩, fun h9 => absurd hz h9⟩) | trace_state))
  (refine wpc_mixM [0, 1, 3, 4, 6, 8] [1, 4] [7, 9] (.one 0 (.one 1 (.one 3 (.one 4 (.one 2 (.one 6 (.one 5 (.one 7 (.one 8 (.one 9 .nil)))))))))) [b1] S mixed (by kernel_rfl) ?_; clear S; intro w S)
  (revert S a; refine go 5 ?_; intro a S)
  (refine wpl_callNew S rfl rfl rfl rfl rfl rfl (cloneTCt F _ M.ts h1 hnT) rfl ?_; clear S a; intro vT G9 a w hv S; obtain ⟨gT, xT, rfl, hownT, hxT⟩ := hv; (simp only [List.singleton_append] at S))
  (revert S a; refine go 3 ?_; intro a S)
  (refine wpl_callNew S rfl rfl rfl rfl rfl rfl (cloneRCt F _ M.rs h2 hnR) rfl ?_; clear S a; intro vR G9 a w hv S; obtain ⟨gR, xR, rfl, hownR, hxR⟩ := hv; (simp only [List.singleton_append] at S))
  (revert S a; refine go 2 ?_; intro a S)
  (refine wpl_store1 S rfl rfl rfl rfl rfl hownT.oneCell (by first | (simp; done) | (simp [Value.cells]; done) | exact Nat.le_of_ble_eq_true rfl) ?_; clear S; intro w S)
  (revert S a; refine go 2 ?_; intro a S)
  refine wpm_eff rfl rfl (fun h => absurd h (by decide)) ?_
  (refine wpl_store1 S rfl rfl rfl rfl rfl hownR.oneCell (by first | (simp; done) | (simp [Value.cells]; done) | exact Nat.le_of_ble_eq_true rfl) ?_; clear S; intro w S)
  refine wpList_nil ?_
  refine wpm_nil (fun h => absurd h (by decide)) ?_
  (refine hZ _ _ ?_)
  (refine ⟨vT, vR, gT, gR, xT, xR, hownT, hxT, hownR, hxR, ?_⟩; first | (replace S : St _ _ _ _ _ F [_, gT, gR, _, _, _, _, _] _ _ := St.permI S 8 rfl [7, 1, 0, 2, 3, 4, 5, 6] (by decide); (refine S.keep ?_; exact zk); done) | (replace S : St _ _ _ _ _ F [_, gT, gR, _, _, _, _, _] _ _ := St.permI S 8 rfl [7, 0, 1, 2, 3, 4, 5, 6] (by decide); (refine S.keep ?_; exact zk); done) | trace_state)
end Go.Proofs.YthnafdbebniapaaGreatDoor
namespace Go.De
open Go Go.Wk Go.Un
set_option linter.unusedSimpArgs false
set_option linter.unusedVariables false
def nameN (c : Nat) : Bool := decide (97 ≤ c ∧ c ≤ 122 ∨ 65 ≤ c ∧ c ≤ 90 ∨ 48 ≤ c ∧ c ≤ 57 ∨ c = 95)
def nameS (s : List UInt8) : Bool := decide (s ≠ [] ∧ s.length ≤ 32 ∧ 97 ≤ (s.getD 0 0).toNat ∧ (s.getD 0 0).toNat ≤ 122) && s.all fun c => nameN c.toNat
def digS : List UInt8 := [48, 49, 50, 51, 52, 53, 54, 55, 56, 57]
def numD (s : List UInt8) : List UInt8 := Lib.trimPrefix s [45]
def numOK (s : List UInt8) : Bool := !(decide (numD s = []) || decide (Lib.trimS (numD s) digS ≠ []) || decide (((numD s).getD 0 0).toNat = 48) && decide (s ≠ [48]))
def numN (s : List UInt8) : Int := if numOK s = true then (numD s).length else 0
def cutI (s : List UInt8) : Int := Lib.indexByte s 46
def cutA (s : List UInt8) : List UInt8 := if 0 ≤ cutI s then s.take (cutI s).toNat else s
def cutB (s : List UInt8) : List UInt8 := if 0 ≤ cutI s then s.drop ((cutI s).toNat + 1) else []
def cutC (s : List UInt8) : Bool := decide (0 ≤ cutI s)
def sTrue : List UInt8 := [116, 114, 117, 101]
def sFalse : List UInt8 := [102, 97, 108, 115, 101]
def formH (h : VH) (n : Nat) : Bool :=
 if h.k = 1 then decide ((h.n = 0 ∨ h.n = 1) ∧ h.s = [] ∧ n = 0)
 else if h.k = 2 then decide (h.s = [] ∧ n = 0)
 else if h.k = 3 then numOK h.s && decide (h.n = 0 ∧ n = 0)
 else if h.k = 4 then decide (h.n = 0 ∧ n = 0)
 else if h.k = 5 then decide (h.n = 0 ∧ h.s = [] ∧ n ≠ 1)
 else if h.k = 6 then decide (h.n = 0) && (nameS (cutA h.s) && ((cutC h.s && nameS (cutB h.s)) || (!cutC h.s && decide (h.s ≠ sTrue ∧ h.s ≠ sFalse))))
 else false
def fitsH (h : VH) (n : Nat) : Bool :=
 if h.k = 3 then decide (numN h.s ≤ 200) else if h.k = 4 then decide (h.s.length ≤ 4096) else if h.k = 5 then decide (n ≤ 16) else if h.k = 6 then decide (n ≤ 8) else true
def formL : Vf → Bool
 | .nil => true
 | .cons h L r => (formH h L.len && formL L) && formL r
def fitsL : Vf → Bool
 | .nil => true
 | .cons h L r => (fitsH h L.len && fitsL L) && fitsL r
theorem formL_cons (h : VH) (L r : Vf) : formL (.cons h L r) = ((formH h L.len && formL L) && formL r) := rfl
theorem fitsL_cons (h : VH) (L r : Vf) : fitsL (.cons h L r) = ((fitsH h L.len && fitsL L) && fitsL r) := rfl
def depV : Vf → Int → Int → Int
 | .nil, n, _ => n
 | .cons _ L r, n, m => if m ≤ n then n else depV r (max n (depV L 0 (m - 1) + 1)) m
theorem depV_cons (h : VH) (L r : Vf) (n m : Int) : depV (.cons h L r) n m = if m ≤ n then n else depV r (max n (depV L 0 (m - 1) + 1)) m := rfl
theorem depV_bd : ∀ (l : Vf) (n m : Int), 0 ≤ n → n ≤ depV l n m ∧ depV l n m ≤ n + l.size
 | .nil, n, m, h => ⟨Int.le_refl _, by show n ≤ n + _; omega⟩
 | .cons h L r, n, m, hn => by
  rw [depV_cons]
  split
  ·exact ⟨Int.le_refl _, by omega⟩
  ·have h1 := depV_bd L 0 (m - 1) (Int.le_refl _)
   have h2 := depV_bd r (max n (depV L 0 (m - 1) + 1)) m (by omega)
   have h3 : (Rose.cons h L r).size = L.size + r.size + 1 := rfl
   constructor <;> omega
theorem depV_max : ∀ (l : Vf) (n m : Int), 0 ≤ n → depV l n m ≤ max n (max m 0)
 | .nil, n, m, h => by show n ≤ _; omega
 | .cons h L r, n, m, hn => by
  rw [depV_cons]
  split
  ·omega
  ·have h1 := depV_max L 0 (m - 1) (Int.le_refl _)
   have h2 := depV_max r (max n (depV L 0 (m - 1) + 1)) m (by have := (depV_bd L 0 (m - 1) (Int.le_refl _)).1; omega)
   omega
def checkV (h : VH) (L : Vf) : Int := if 64 < depV L 0 65 + 1 then 65 else if (formH h L.len && formL L) = false then 4 else if (fitsH h L.len && fitsL L) = false then 40 else 0
def ShortV (b : Nat) : Vf → Prop
 | .nil => True
 | .cons h L r => h.s.length ≤ b ∧ ShortV b L ∧ ShortV b r
theorem ShortV.get {b : Nat} : ∀ {l : Vf} {k : Nat} {x : VH × Vf}, ShortV b l → l.get? k = some x → x.1.s.length ≤ b ∧ ShortV b x.2
 | .cons h L r, 0, x, ⟨h1, h2, _⟩, e => by cases e; exact ⟨h1, h2⟩
 | .cons h L r, k + 1, x, ⟨_, _, h3⟩, e => ShortV.get (l := r) h3 e
def tysOf : Fo → List Ty
 | .nil => []
 | .cons nm ar r => (nm, ar) :: tysOf r
def eq2 {α : Type} (p : VH → Vf → α → Bool) : Vf → List α → Bool
 | .nil, [] => true
 | .cons h L r, t :: ts => p h L t && eq2 p r ts
 | _, _ => false
theorem eq2_len {α : Type} (p : VH → Vf → α → Bool) : ∀ (l : Vf) (m : List α), l.len ≠ m.length → eq2 p l m = false
 | .nil, [], h => absurd rfl h
 | .nil, _ :: _, _ => rfl
 | .cons _ _ _, [], _ => rfl
 | .cons h L r, t :: ts, hl => by
  show (p h L t && eq2 p r ts) = false
  rw [eq2_len p r ts (by intro e; apply hl; simp only [Rose.len, List.length_cons]; omega), Bool.and_false]
def isAll (css : List KC) : Vf → List Ty → Bool
 | .nil, ts => decide (ts.length = 0)
 | .cons _ _ _, [] => false
 | .cons h L r, t :: ts => (if h.k = 1 then decide (t.1 = sBool) else if h.k = 2 then decide (t.1 = sInt) else if h.k = 3 then decide (t.1 = sBig) else if h.k = 4 then decide (t.1 = sText)
   else if h.k = 5 then decide (t.1 = sTuple) && isAll css L (tysOf t.2)
   else match findC css h.s with
    | none => false
    | some c => decide (c.ty = t.1) && isAll css L (c.fs.map fun f => putT c.ps t.2 (f.tn, f.ta))) && isAll css r ts
def isT (css : List KC) (h : VH) (L : Vf) (t : Ty) : Bool := if h.k = 1 then decide (t.1 = sBool) else if h.k = 2 then decide (t.1 = sInt) else if h.k = 3 then decide (t.1 = sBig) else if h.k = 4 then decide (t.1 = sText)
   else if h.k = 5 then decide (t.1 = sTuple) && isAll css L (tysOf t.2)
   else match findC css h.s with
    | none => false
    | some c => decide (c.ty = t.1) && isAll css L (c.fs.map fun f => putT c.ps t.2 (f.tn, f.ta))
theorem isAll_cons (css : List KC) (h : VH) (L r : Vf) (t : Ty) (ts : List Ty) : isAll css (.cons h L r) (t :: ts) = (isT css h L t && isAll css r ts) := rfl
theorem isAll_eq (css : List KC) : ∀ (l : Vf) (ts : List Ty), isAll css l ts = eq2 (isT css) l ts
 | .nil, [] => rfl
 | .nil, _ :: _ => rfl
 | .cons _ _ _, [] => rfl
 | .cons h L r, t :: ts => by rw [isAll_cons, isAll_eq css r ts]; rfl
theorem eq2_map {α β : Type} (p : VH → Vf → β → Bool) (f : α → β) : ∀ (l : Vf) (m : List α), eq2 p l (m.map f) = eq2 (fun h L x => p h L (f x)) l m
 | .nil, [] => rfl
 | .nil, _ :: _ => rfl
 | .cons _ _ _, [] => rfl
 | .cons h L r, x :: m => by show (_ && eq2 p r (m.map f)) = (_ && eq2 _ r m); rw [eq2_map p f r m]
theorem tysOf_len : ∀ l : Fo, (tysOf l).length = l.len
 | .nil => rfl
 | .cons nm ar r => by show (tysOf r).length + 1 = r.len + 1; rw [tysOf_len r]
theorem tysOf_get : ∀ (l : Fo) (k : Nat), (tysOf l)[k]? = l.get? k
 | .nil, _ => rfl
 | .cons nm ar r, 0 => rfl
 | .cons nm ar r, k + 1 => by show (tysOf r)[k]? = r.get? k; exact tysOf_get r k
def wellT (ts : List TD) (t : Ty) : Bool := decide (useT ts t = 0) && !openT t
def isF (ts : List TD) (css : List KC) (h : VH) (L : Vf) (t : Ty) : Bool := wellT ts t && (decide (checkV h L = 0) && isT css h L t)
end Go.De
