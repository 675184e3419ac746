/- The walk of typed: the types of a program. -/
import Derived.Test.YtoaodbclgeeaeaaGreatDoorDeN
namespace Go.Proofs.YtoaodbclgeeaeaaGreatDoor
open Go Go.Wk Go.Un Go.De
set_option linter.unusedSimpArgs false
set_option linter.unusedVariables false
attribute [local irreducible] Go.wpList Go.Code.wp Go.wpStill Go.Wk.wpPre Go.bodyPost Go.Calls Go.Wk.Ct Go.Wk.OwnS
attribute [local irreducible] Go.Wk.wpG Go.Wk.wpM

theorem typed1Ct (F : Heap) (bx : Nat) (x : TD) (ap : Option Addr) (cp : Nat) (hc : Cel F bx 4 (.slice ap x.ps.length cp)) (hps : LiM F 1 StR (.slice ap x.ps.length cp) x.ps) : CbS F 77 [] [.pointer (some ⟨bx, 0, none⟩)] (fun s => decide (s ∈ x.ps)) := by
  unfold CbS
  intro F' s hF
  replace hc := hc.mono hF
  have hsl := lim_sl (hps.mono hF)
  have hb : x.ps.length ≤ 140737488355328 := by obtain ⟨_, _, e, hb, _⟩ := hps; exact hb.2
  refine Ct.enter Tryz.func77 rfl Tryz.ntmps77 rfl fun w0 a S => ?_
  refine wp_sr fun Kq1 hKq1 => ?_
  (refine wpl_p S ?_; clear S a; intro a S)
  (refine wpList_nil (hKq1 _ _ (wp_sr fun Kq2 hKq2 => ?_)); try clear hKq1 Kq1)
  (refine wpl_f S ?_; clear S a; intro a S)
  (refine wpl_v S rfl rfl rfl (sv_loadF S rfl rfl hc) ?_; clear S a; intro a S)
  (refine wpl_p S ?_; clear S a; intro a S)
  (refine wpl_c0 S (containsSCt F' x.ps s _ hsl (by omega)) ?_; clear S a; intro v a w hv S; subst hv)
  (refine wpl_p S ?_; clear S a; intro a S)
  (refine wpList_nil (hKq2 _ _ ?_); try clear hKq2 Kq2)
  exact wp_ret (fin_ret S (results1 Tryz.results77 (RV.tmp S rfl)) rfl)
theorem dupE_cons (tn cn : List (List UInt8)) (x : TD) (r : List TD) : dupE tn cn (x :: r) = ((badT tn x || consBad cn x.cs) || dupE (tn ++ [x.nm]) (cn ++ x.cs.map CD.nm) r) := rfl
theorem consBad_cons (cn : List (List UInt8)) (c : CD) (r : List CD) : consBad cn (c :: r) = ((decide (c.nm ∈ cn) || twiceD c.fs) || consBad (cn ++ [c.nm]) r) := rfl
theorem consFE_cons (ts : List TD) (ps : List (List UInt8)) (c : CD) (r : List CD) : consFE ts ps (c :: r) = if fieldsE ts (fun s => decide (s ∈ ps)) c.fs ≠ 0 then fieldsE ts (fun s => decide (s ∈ ps)) c.fs else consFE ts ps r := rfl
theorem typesFE_cons (ts : List TD) (x : TD) (r : List TD) : typesFE ts (x :: r) = if consFE ts x.ps x.cs ≠ 0 then consFE ts x.ps x.cs else typesFE ts r := rfl
/-- What is asked of the types' sizes. -/
def TSz (l : List TD) : Prop := ∀ x ∈ l, x.cs.length ≤ 1000000 ∧ x.ps.length ≤ 1000000 ∧ ∀ c ∈ x.cs, FSz c.fs ∧ c.fs.length ≤ 1000000
set_option maxRecDepth 20000 in
set_option maxHeartbeats 32000000 in
theorem typedCt (F : Heap) (tb m1 m2 m3 : Nat) (hcc : Cels F tb 0 [.map (some m1), .map (some m2), .map (some m3)]) (l : List TD) (v : Value) (h : LiM F 6 TdR v l) (hsz : TSz l) :
    Ct Tryz.prog 52 [.pointer (some ⟨tb, 0, none⟩), v] F [[(m1, mObj kS [])], [(m2, mObj kS [])]] (fun F' G' u => ErrV (typedE l) u ∧ (typedE l = 0 → G' = [] ∧ MapS F' TdR TD.nm m1 l ∧ MapS F' KcR KC.nm m2 (consOf l))) := by
  have hl0 := h
  obtain ⟨ao, cap, rfl, hcap, hpos⟩ := h
  have hc1 : Cel F tb 0 (.map (some m1)) := hcc 0 _ rfl
  have hc2 : Cel F tb 1 (.map (some m2)) := hcc 1 _ rfl
  refine Ct.enter Tryz.func52 rfl Tryz.ntmps52 rfl fun w0 a S => ?_
  refine wp_sr fun Kq1 hKq1 => ?_
  (refine wpl_p S ?_; clear S a; intro a S)
  (refine wpList_nil (hKq1 _ _ (wp_seq_k fun Kq2 hKq2 => ?_)); try clear hKq1 Kq1)
  refine wp_sr fun Kq3 hKq3 => ?_
  (refine wpl_p S ?_; clear S a; intro a S)
  (refine wpl_n S ?_; clear S a; intro a S)
  (refine wpl_p S ?_; clear S a; intro a S)
  (refine wpList_nil (hKq3 _ _ ?_); try clear hKq3 Kq3)
  refine wp_block ?_
  refine wpc_loop (fun m a w' => ∃ (i : Nat) (es1 es2 : List (List UInt8 × Value)), m = l.length - i ∧ i ≤ l.length ∧ MapM F TdR TD.nm es1 (l.take i) ∧ MapM F KcR KC.nm es2 (consOf (l.take i)) ∧ dupE [] [] l = dupE ((l.take i).map TD.nm) (cnames (l.take i)) (l.drop i) ∧ St 133 [(0, ptr tb), (1, .slice ao l.length cap), (18, .slice ao l.length cap), (19, .int .i64 l.length), (20, .int .i64 i)] w0 F [m1, m2] F [[(m1, mObj kS es1)], [(m2, mObj kS es2)]] a w') ?_ ?_
  · (refine ⟨l.length, 0, [], [], by omega, Nat.zero_le _, trivial, trivial, rfl, ?_⟩; refine S.keep ?_; repeat (first | exact trivial | refine ⟨rfl, ?_⟩))
  (clear S; rintro m a w ⟨i, es1, es2, rfl, hil, hm1, hm2, hdu, S⟩)
  refine wp_sr fun Kq4 hKq4 => ?_
  (refine wpl_p S ?_; clear S a; intro a S)
  (refine wpList_nil (hKq4 _ _ (wp_seq_k fun Kq5 hKq5 => ?_)); try clear hKq4 Kq4)
  refine wpc_split S rfl (fun h => ?_) (fun h => ?_)
  · (skip; (try simp only [tq] at h))
    refine wp_skip ?_
    (refine hKq5 _ _ ?_; try (clear hKq5 Kq5))
    (refine wp_seq_k ?_; intro Kq6 hKq6)
    refine wp_block ?_
    (refine wp_seq_k ?_; intro Kq7 hKq7)
    (obtain ⟨bq, oq, hao, x, cs1, hx, hd1, ⟨w1, w2, rfl, hps, hcs⟩⟩ := LiM.pos hpos (k := i) (by omega); rw [hao] at S; have hpsc := hps; have hcsc := hcs; obtain ⟨ap, cp, rfl, -, -⟩ := hpsc; obtain ⟨ac, cc, rfl, hcc9, hposc⟩ := hcsc; have hxsz := hsz x (List.mem_of_getElem? hx); have htk : l.take (i + 1) = l.take i ++ [x] := (by rw [List.take_add_one, hx]; rfl); obtain ⟨l1, hmm1, hl1⟩ := hm1.set (x := x) (cs := [.int .i64 x.l, .int .i64 x.c, .bool x.pub, .string (bs x.nm), .slice ap x.ps.length cp, .slice ac x.cs.length cc]) ⟨_, _, rfl, hps, hcs⟩)
    refine wp_region_lit ?_
    (refine wpl_i S ?_; clear S a; intro a S)
    (refine wpl_l S ?_; clear S a; intro a S)
    (refine wpl_al S ?_; clear S a; intro b6 a w S)
    (refine wpl_storeO S rfl rfl rfl rfl rfl (by rfl) (by simp [Value.cells, Value.oneCell', splice]) (by rfl) ?_; clear S; intro w S)
    (refine wpList_nil (hKq7 _ _ (wp_seq_k fun Kq8 hKq8 => ?_)); try clear hKq7 Kq7)
    (refine wpc_mixM [0, 1, 2, 3, 4, 5, 6, 7, 8, 9] [3, 5, 6] [] (.one 0 (.one 1 (.one 2 (.one 3 (.one 4 (.one 5 (.one 6 (.one 7 (.one 8 (.one 9 (.one 10 (.one 11 (.one 12 .nil))))))))))))) [b6, m1] S mixed (by kernel_rfl) ?_; clear S; intro w S)
    (refine wpm_p S ?_; clear S a; intro a S)
    (refine wpm_s S ?_; clear S a; intro a S)
    (refine wpm_f S ?_; clear S a; intro a S)
    (refine wpm_lateF S rfl rfl rfl (want_none _ rfl) rfl rfl (fun w' S => sv_loadF S rfl rfl hc1) ?_; clear S a; intro a S)
    (refine wpm_f S ?_; clear S a; intro a S)
    (refine wpm_o b6 S ?_; clear S a; intro a S)
    (refine wpm_lateO m1 S rfl rfl rfl (want_none _ rfl) rfl rfl (fun w' S => sv_lookupO (enc := kS) S rfl rfl rfl) ?_; clear S a; intro a S)
    (obtain ⟨yy, ya, yb, yc, yd, hgd, -, -, -, -⟩ := get_td hm1 x.nm; rw [if_pos rfl, hgd, hm1.mem x.nm] at S)
    iterate 3 (refine wpm_p S ?_; clear S a; intro a S)
    refine wpm_eff rfl rfl (kwa S) ?_
    (refine wpl_al S ?_; clear S a; intro b7 a w S)
    refine wpList_nil ?_
    refine wpm_eff rfl rfl (kwa S) ?_
    (refine wpl_storeO S rfl rfl rfl rfl rfl (by rfl) (by simp [Value.cells, Value.oneCell', splice]) (by rfl) ?_; clear S; intro w S)
    refine wpList_nil ?_
    refine wpm_eff rfl rfl (kwa S) ?_
    (refine wpl_p S ?_; clear S a; intro a S)
    refine wpList_nil ?_
    (refine wpm_nil (kwa S) (hKq8 _ _ (wp_seq_k fun Kq9 hKq9 => ?_)); try clear hKq8 Kq8)
    replace hKq9 : ∀ (a' : Act) (w' : World), (True ∧ St 133 [(0, ptr tb), (1, .slice (some ⟨bq, oq, none⟩) l.length cap), (6, ptr b6), (8, .bool (badT ((l.take i).map TD.nm) x)), (18, .slice (some ⟨bq, oq, none⟩) l.length cap), (19, .int .i64 l.length), (20, .int .i64 i)] w0 F [m1, m2] F [[(b7, .cells ⟨[.int .i64 yy.l, .int .i64 yy.c, .bool yy.pub, .string (bs yy.nm), .slice ya yy.ps.length yb, .slice yc yy.cs.length yd]⟩ 57 (0, 0))], [(b6, .cells ⟨[.int .i64 x.l, .int .i64 x.c, .bool x.pub, .string (bs x.nm), .slice ap x.ps.length cp, .slice ac x.cs.length cc]⟩ 57 (0, 0))], [(m1, mObj kS es1)], [(m2, mObj kS es2)]] a' w') → Kq9 a' w' := (by
     (intro a w hM; refine hKq9 _ _ ?_; clear hKq9 Kq9; clear S; obtain ⟨-, S⟩ := hM)
     (refine wp_seq_k ?_; intro Kq10 hKq10)
     (refine wpc_mixM [0, 1, 2, 3, 4, 5, 6] [3, 5, 6] [] (.one 0 (.one 1 (.one 2 (.one 3 (.one 4 (.one 5 (.one 6 (.one 7 .nil)))))))) [b6] S mixed (by kernel_rfl) ?_; clear S; intro w S)
     (refine wpm_p S ?_; clear S a; intro a S)
     (refine wpm_s S ?_; clear S a; intro a S)
     (refine wpm_f S ?_; clear S a; intro a S)
     (refine wpm_lateF S rfl rfl rfl (want_none _ rfl) rfl rfl (fun w' S => sv_loadF S rfl rfl hc1) ?_; clear S a; intro a S)
     (refine wpm_f S ?_; clear S a; intro a S)
     iterate 2 (refine wpm_o b6 S ?_; clear S a; intro a S)
     refine wpm_eff rfl rfl (kwa S) ?_
     (refine wpl_mapSet (enc := kS) S rfl rfl rfl rfl rfl rfl ?_; clear S; intro w S)
     refine wpList_nil ?_
     (refine wpm_nil (kwa S) (hKq10 _ _ (wp_seq_k fun Kq11 hKq11 => ?_)); try clear hKq10 Kq10)
     (refine wp_seq_k ?_; intro Kq12 hKq12)
     (replace S : St _ _ _ _ _ F [_, _, [(m1, mObj kS (mSet es1 x.nm (.agg ⟨[.int .i64 x.l, .int .i64 x.c, .bool x.pub, .string (bs x.nm), .slice ap x.ps.length cp, .slice ac x.cs.length cc]⟩)))], _] _ _ := S; generalize hes1n : mSet es1 x.nm (.agg ⟨[.int .i64 x.l, .int .i64 x.c, .bool x.pub, .string (bs x.nm), .slice ap x.ps.length cp, .slice ac x.cs.length cc]⟩) = es1n at S hmm1)
     refine wp_region_lit ?_
     (refine wpl_f S ?_; clear S a; intro a S)
     (refine wpl_l S ?_; clear S a; intro a S)
     (refine wpl_n S ?_; clear S a; intro a S)
     (refine wpl_p S ?_; clear S a; intro a S)
     (refine wpList_nil (hKq12 _ _ ?_); try clear hKq12 Kq12)
     refine wp_block ?_
     refine wpc_loop (fun m a w' => ∃ (j : Nat) (b : Bool) (es2 : List (List UInt8 × Value)) (cl : List KC), m = x.cs.length - j ∧ j ≤ x.cs.length ∧ MapM F KcR KC.nm es2 cl ∧ (b = false → cl = consOf (l.take i) ++ consFrom x 0 (x.cs.take j)) ∧ (badT ((l.take i).map TD.nm) x || consBad (cnames (l.take i)) x.cs) = (b || consBad (cnames (l.take i) ++ (x.cs.take j).map CD.nm) (x.cs.drop j)) ∧ St 133 [(0, ptr tb), (1, .slice (some ⟨bq, oq, none⟩) l.length cap), (6, ptr b6), (8, .bool b), (18, .slice (some ⟨bq, oq, none⟩) l.length cap), (19, .int .i64 l.length), (20, .int .i64 i), (58, .slice ac x.cs.length cc), (59, .int .i64 x.cs.length), (60, .int .i64 j)] w0 F [m1, m2] F [[(b7, .cells ⟨[.int .i64 yy.l, .int .i64 yy.c, .bool yy.pub, .string (bs yy.nm), .slice ya yy.ps.length yb, .slice yc yy.cs.length yd]⟩ 57 (0, 0))], [(b6, .cells ⟨[.int .i64 x.l, .int .i64 x.c, .bool x.pub, .string (bs x.nm), .slice ap x.ps.length cp, .slice ac x.cs.length cc]⟩ 57 (0, 0))], [(m1, mObj kS es1n)], [(m2, mObj kS es2)]] a w') ?_ ?_
     · (refine ⟨x.cs.length, 0, badT ((l.take i).map TD.nm) x, es2, consOf (l.take i), by omega, Nat.zero_le _, hm2, fun _ => by simp [consFrom], by simp, ?_⟩; first | ((refine S.keep ?_; repeat (first | exact trivial | refine ⟨rfl, ?_⟩)); done) | (have hbd : badT ((l.take i).map TD.nm) x = _ := hbadv; rw [hbd]; refine S.keep ?_; repeat (first | exact trivial | refine ⟨rfl, ?_⟩)))
     (clear S; rintro m a w ⟨j, b, es2, cl, rfl, hjl, hm2, hcl, hcb, S⟩)
     refine wp_sr fun Kq13 hKq13 => ?_
     (refine wpl_p S ?_; clear S a; intro a S)
     (refine wpList_nil (hKq13 _ _ (wp_seq_k fun Kq14 hKq14 => ?_)); try clear hKq13 Kq13)
     refine wpc_split S rfl (fun h => ?_) (fun h => ?_)
     · (skip; (try simp only [tq] at h))
       refine wp_skip ?_
       (refine hKq14 _ _ ?_; try (clear hKq14 Kq14))
       (refine wp_seq_k ?_; intro Kq15 hKq15)
       refine wp_block ?_
       (refine wp_seq_k ?_; intro Kq16 hKq16)
       (obtain ⟨bp, op, hao2, y, cs2, hy, he1, ⟨w3, rfl, hfs⟩⟩ := LiM.pos hposc (k := j) (by omega); rw [hao2] at S; have hfsc := hfs; obtain ⟨af, cf, rfl, -, -⟩ := hfsc; have hysz := hxsz.2.2 y (List.mem_of_getElem? hy); have htj : x.cs.take (j + 1) = x.cs.take j ++ [y] := (by rw [List.take_add_one, hy]; rfl); obtain ⟨cl2, hmm2, hcl2⟩ := hm2.set (x := (⟨y.nm, x.nm, x.ps, (j : Int), y.fs⟩ : KC)) (cs := [.string (bs x.nm), .slice ap x.ps.length cp, .int .i64 (j : Int), .slice af y.fs.length cf]) ⟨_, _, rfl, hps, hfs⟩)
       refine wp_region_lit ?_
       (refine wpl_p S ?_; clear S a; intro a S)
       (refine wpl_i S ?_; clear S a; intro a S)
       (refine wpl_l S ?_; clear S a; intro a S)
       (refine wpl_al S ?_; clear S a; intro b10 a w S)
       (refine wpl_p S ?_; clear S a; intro a S)
       (refine wpl_storeO S rfl rfl rfl rfl rfl (by rfl) (by simp [Value.cells, Value.oneCell', splice]) (by rfl) ?_; clear S; intro w S)
       (refine wpList_nil (hKq16 _ _ (wp_seq_k fun Kq17 hKq17 => ?_)); try clear hKq16 Kq16)
       (refine wpc_mixM [0, 1, 2, 3, 4, 5, 6, 7, 8, 9] [3, 5, 6] [] (.one 0 (.one 1 (.one 2 (.one 3 (.one 4 (.one 5 (.one 6 (.one 7 (.one 8 (.one 9 (.one 10 (.one 11 (.one 12 .nil))))))))))))) [b10, m2] S mixed (by kernel_rfl) ?_; clear S; intro w S)
       (refine wpm_p S ?_; clear S a; intro a S)
       (refine wpm_s S ?_; clear S a; intro a S)
       (refine wpm_f S ?_; clear S a; intro a S)
       (refine wpm_lateF S rfl rfl rfl (want_none _ rfl) rfl rfl (fun w' S => sv_loadF S rfl rfl hc2) ?_; clear S a; intro a S)
       (refine wpm_f S ?_; clear S a; intro a S)
       (refine wpm_o b10 S ?_; clear S a; intro a S)
       (refine wpm_lateO m2 S rfl rfl rfl (want_none _ rfl) rfl rfl (fun w' S => sv_lookupO (enc := kS) S rfl rfl rfl) ?_; clear S a; intro a S)
       (obtain ⟨zz, za, zb, zc, zd, hgd2, -, -, -, -⟩ := get_kc hm2 y.nm; rw [if_pos rfl, hgd2, hm2.mem y.nm] at S)
       iterate 3 (refine wpm_p S ?_; clear S a; intro a S)
       refine wpm_eff rfl rfl (kwa S) ?_
       (refine wpl_al S ?_; clear S a; intro b11 a w S)
       refine wpList_nil ?_
       refine wpm_eff rfl rfl (kwa S) ?_
       (refine wpl_storeO S rfl rfl rfl rfl rfl (by rfl) (by simp [Value.cells, Value.oneCell', splice]) (by rfl) ?_; clear S; intro w S)
       refine wpList_nil ?_
       refine wpm_eff rfl rfl (kwa S) ?_
       (refine wpl_p S ?_; clear S a; intro a S)
       refine wpList_nil ?_
       (refine wpm_nil (kwa S) (hKq17 _ _ (wp_seq_k fun Kq18 hKq18 => ?_)); try clear hKq17 Kq17)
       replace hKq18 : ∀ (a' : Act) (w' : World), (True ∧ St 133 [(0, ptr tb), (1, .slice (some ⟨bq, oq, none⟩) l.length cap), (6, ptr b6), (8, .bool ((b || decide (y.nm ∈ cl.map KC.nm)) || twiceD y.fs)), (9, .int .i64 j), (10, ptr b10), (18, .slice (some ⟨bq, oq, none⟩) l.length cap), (19, .int .i64 l.length), (20, .int .i64 i), (58, .slice (some ⟨bp, op, none⟩) x.cs.length cc), (59, .int .i64 x.cs.length), (60, .int .i64 j)] w0 F [m1, m2] F [[(b11, .cells ⟨[.string (bs zz.ty), .slice za zz.ps.length zb, .int .i64 zz.pl, .slice zc zz.fs.length zd]⟩ 76 (0, 0))], [(b10, .cells ⟨[.string (bs y.nm), .slice af y.fs.length cf]⟩ 65 (0, 0))], [(b7, .cells ⟨[.int .i64 yy.l, .int .i64 yy.c, .bool yy.pub, .string (bs yy.nm), .slice ya yy.ps.length yb, .slice yc yy.cs.length yd]⟩ 57 (0, 0))], [(b6, .cells ⟨[.int .i64 x.l, .int .i64 x.c, .bool x.pub, .string (bs x.nm), .slice ap x.ps.length cp, .slice (some ⟨bp, op, none⟩) x.cs.length cc]⟩ 57 (0, 0))], [(m1, mObj kS es1n)], [(m2, mObj kS es2)]] a' w') → Kq18 a' w' := (by
        (intro a w hM; refine hKq18 _ _ ?_; clear hKq18 Kq18; clear S; obtain ⟨-, S⟩ := hM)
        (refine wpc_mixM [0, 1, 2, 3, 4, 5, 6, 7, 8, 9, 10, 11, 12, 13] [3, 5, 7, 9, 12] [] (.one 0 (.one 1 (.one 2 (.one 3 (.one 4 (.one 5 (.one 6 (.one 7 (.one 8 (.one 9 (.one 10 (.one 11 (.one 12 (.one 13 (.one 14 .nil))))))))))))))) [b10, b6] S mixed (by kernel_rfl) ?_; clear S; intro w S)
        (refine wpm_p S ?_; clear S a; intro a S)
        (refine wpm_s S ?_; clear S a; intro a S)
        (refine wpm_f S ?_; clear S a; intro a S)
        (refine wpm_lateF S rfl rfl rfl (want_none _ rfl) rfl rfl (fun w' S => sv_loadF S rfl rfl hc2) ?_; clear S a; intro a S)
        (refine wpm_f S ?_; clear S a; intro a S)
        (refine wpm_o b10 S ?_; clear S a; intro a S)
        (refine wpm_f S ?_; clear S a; intro a S)
        (refine wpm_o b6 S ?_; clear S a; intro a S)
        (refine wpm_f S ?_; clear S a; intro a S)
        (refine wpm_o b6 S ?_; clear S a; intro a S)
        (refine wpm_p S ?_; clear S a; intro a S)
        (refine wpm_f S ?_; clear S a; intro a S)
        (refine wpm_o b10 S ?_; clear S a; intro a S)
        (refine wpm_b S ?_; clear S a; intro a S)
        refine wpm_eff rfl rfl (kwa S) ?_
        (refine wpl_mapSet (enc := kS) S rfl rfl rfl rfl rfl rfl ?_; clear S; intro w S)
        refine wpList_nil ?_
        (refine wpm_nil (kwa S) (hKq15 _ _ ?_); try clear hKq15 Kq15)
        (replace S : St _ _ _ _ _ F [_, _, _, _, _, [(m2, mObj kS (mSet es2 y.nm (.agg ⟨[.string (bs x.nm), .slice ap x.ps.length cp, .int .i64 (j : Int), .slice af y.fs.length cf]⟩)))]] _ _ := S)
        refine wp_region_lit ?_
        (refine wpl_a S ?_; clear S a; intro a S)
        (refine wpl_p S ?_; clear S a; intro a S)
        refine wpList_nil ?_
        change ∃ m', _ ∧ _
        (rw [← hao2] at S; replace S := S.drop1.drop1; refine ⟨x.cs.length - (j + 1), by omega, j + 1, ((b || decide (y.nm ∈ cl.map KC.nm)) || twiceD y.fs), mSet es2 y.nm (.agg ⟨[.string (bs x.nm), .slice ap x.ps.length cp, .int .i64 (j : Int), .slice af y.fs.length cf]⟩), cl2, rfl, by omega, hmm2, ?_, ?_, ?_⟩; rotate_left 2; (refine S.keep ?_; repeat (first | exact trivial | refine ⟨rfl, ?_⟩)); (intro h9; simp only [Bool.or_eq_false_iff, decide_eq_false_iff_not] at h9; rw [hcl2 h9.1.2, hcl h9.1.1, htj, consFrom_app, List.length_take, Nat.min_eq_left hjl, Nat.zero_add, List.append_assoc]); (rw [hcb, drop_at hy, consBad_cons, htj, List.map_append]; rcases Bool.eq_false_or_eq_true b with hb0 | hb0; (rw [hb0]; simp); (have h9 := hcl hb0; rw [h9, List.map_append, consOf_nm, consFrom_nm, hb0]; simp [Bool.or_assoc]))))
       refine wp_region_lit ?_
       iterate 2 (refine wpl_p S ?_; clear S a; intro a S)
       refine wpl_guard S rfl rfl rfl rfl rfl ?_ ?_
       · (intro h S'; clear S; have S := S'; clear S'; (try simp only [tq] at h))
         iterate 3 (refine wpl_p S ?_; clear S a; intro a S)
         refine wpl_guard S rfl rfl rfl rfl rfl ?_ ?_
         · (intro h S'; clear S; have S := S'; clear S'; (try simp only [tq] at h))
           (refine wpl_f S ?_; clear S a; intro a S)
           refine wpl_take S rfl rfl rfl ?_
           (refine wpl_l S ?_; clear S a; intro a S)
           refine wpl_take S rfl rfl rfl ?_
           (refine wpl_c0 S (twiceCt F y.fs _ hfs hysz.2) ?_; clear S a; intro v9 a w hv S; subst hv)
           iterate 2 (refine wpl_p S ?_; clear S a; intro a S)
           refine wpList_nil ?_
           (refine hKq18 _ _ ?_)
           (first | (have h1 : b = true := (by assumption); have e9 : ((b || decide (y.nm ∈ cl.map KC.nm)) || twiceD y.fs) = true := (by rw [h1]; rfl); rw [e9]; refine ⟨trivial, ?_⟩; (refine S.keep ?_; repeat (first | exact trivial | refine ⟨rfl, ?_⟩)); done) | (have h2 : y.nm ∈ cl.map KC.nm := (by assumption); have e9 : ((b || decide (y.nm ∈ cl.map KC.nm)) || twiceD y.fs) = true := (by rw [decide_eq_true h2, Bool.or_true]; rfl); rw [e9]; refine ⟨trivial, ?_⟩; (refine S.keep ?_; repeat (first | exact trivial | refine ⟨rfl, ?_⟩)); done) | (have h1 : b = false := (by assumption); have h2 : ¬ y.nm ∈ cl.map KC.nm := (by assumption); have e9 : ((b || decide (y.nm ∈ cl.map KC.nm)) || twiceD y.fs) = twiceD y.fs := (by rw [h1, decide_eq_false h2]; rfl); rw [e9]; refine ⟨trivial, ?_⟩; (refine S.keep ?_; repeat (first | exact trivial | refine ⟨rfl, ?_⟩)); done) | trace_state)
         (intro h; clear S a; intro a S; (try simp only [tq] at h))
         iterate 2 (refine wpl_k S ?_; clear S a; intro a S)
         iterate 2 (refine wpl_p S ?_; clear S a; intro a S)
         refine wpList_nil ?_
         (refine hKq18 _ _ ?_)
         (first | (have h1 : b = true := (by assumption); have e9 : ((b || decide (y.nm ∈ cl.map KC.nm)) || twiceD y.fs) = true := (by rw [h1]; rfl); rw [e9]; refine ⟨trivial, ?_⟩; (refine S.keep ?_; repeat (first | exact trivial | refine ⟨rfl, ?_⟩)); done) | (have h2 : y.nm ∈ cl.map KC.nm := (by assumption); have e9 : ((b || decide (y.nm ∈ cl.map KC.nm)) || twiceD y.fs) = true := (by rw [decide_eq_true h2, Bool.or_true]; rfl); rw [e9]; refine ⟨trivial, ?_⟩; (refine S.keep ?_; repeat (first | exact trivial | refine ⟨rfl, ?_⟩)); done) | (have h1 : b = false := (by assumption); have h2 : ¬ y.nm ∈ cl.map KC.nm := (by assumption); have e9 : ((b || decide (y.nm ∈ cl.map KC.nm)) || twiceD y.fs) = twiceD y.fs := (by rw [h1, decide_eq_false h2]; rfl); rw [e9]; refine ⟨trivial, ?_⟩; (refine S.keep ?_; repeat (first | exact trivial | refine ⟨rfl, ?_⟩)); done) | trace_state)
       (intro h; clear S a; intro a S; (try simp only [tq] at h))
       iterate 2 (refine wpl_p S ?_; clear S a; intro a S)
       iterate 3 (refine wpl_k S ?_; clear S a; intro a S)
       iterate 2 (refine wpl_p S ?_; clear S a; intro a S)
       refine wpList_nil ?_
       (refine hKq18 _ _ ?_)
       (first | (have h1 : b = true := (by assumption); have e9 : ((b || decide (y.nm ∈ cl.map KC.nm)) || twiceD y.fs) = true := (by rw [h1]; rfl); rw [e9]; refine ⟨trivial, ?_⟩; (refine S.keep ?_; repeat (first | exact trivial | refine ⟨rfl, ?_⟩)); done) | (have h2 : y.nm ∈ cl.map KC.nm := (by assumption); have e9 : ((b || decide (y.nm ∈ cl.map KC.nm)) || twiceD y.fs) = true := (by rw [decide_eq_true h2, Bool.or_true]; rfl); rw [e9]; refine ⟨trivial, ?_⟩; (refine S.keep ?_; repeat (first | exact trivial | refine ⟨rfl, ?_⟩)); done) | (have h1 : b = false := (by assumption); have h2 : ¬ y.nm ∈ cl.map KC.nm := (by assumption); have e9 : ((b || decide (y.nm ∈ cl.map KC.nm)) || twiceD y.fs) = twiceD y.fs := (by rw [h1, decide_eq_false h2]; rfl); rw [e9]; refine ⟨trivial, ?_⟩; (refine S.keep ?_; repeat (first | exact trivial | refine ⟨rfl, ?_⟩)); done) | trace_state)
     (skip; (try simp only [tq] at h))
     refine wp_exit ?_
     (refine hKq11 _ _ ?_; try (clear hKq11 Kq11))
     refine wp_sr fun Kq15 hKq15 => ?_
     (refine wpl_p S ?_; clear S a; intro a S)
     (refine wpList_nil (hKq15 _ _ ?_); try clear hKq15 Kq15)
     refine wpc_split S rfl (fun h => ?_) (fun h => ?_)
     · (skip; (try simp only [tq] at h))
       refine wp_sr fun Kq16 hKq16 => ?_
       (refine wpl_f S ?_; clear S a; intro a S)
       (refine wpl_l S ?_; clear S a; intro a S)
       (refine wpl_b S ?_; clear S a; intro a S)
       (refine wpl_s S ?_; clear S a; intro a S)
       (refine wpl_p S ?_; clear S a; intro a S)
       (refine wpList_nil (hKq16 _ _ ?_); try clear hKq16 Kq16)
       refine wp_ret ?_
       (first | (have h9 := hy; replace S := S.drop1) | skip)
       refine fin_ret S (results1 Tryz.results52 (RV.tmp S rfl)) ?_
       (first | (have hne : fieldsE l (fun s => decide (s ∈ x.ps)) y.fs ≠ 0 := (by first | assumption | simpa using h); have e1 : consFE l x.ps x.cs = fieldsE l (fun s => decide (s ∈ x.ps)) y.fs := (by rw [hce, drop_at hy, consFE_cons, if_pos hne]); have e2 : typesFE l l = fieldsE l (fun s => decide (s ∈ x.ps)) y.fs := (by rw [htf, drop_at hx, typesFE_cons, e1, if_pos hne]); have e9 : typedE l = fieldsE l (fun s => decide (s ∈ x.ps)) y.fs := (by unfold typedE; rw [if_neg (by rw [hdf]; decide), e2, if_pos hne]); rw [e9]; exact ⟨hv, fun h9 => absurd h9 hne⟩) | (have h9 := hTy; have e2 : typesFE l l = 0 := (by rw [htf, List.drop_eq_nil_of_le (by omega)]; rfl); have e9 : typedE l = fullE l := (by unfold typedE; rw [if_neg (by rw [hdf]; decide), if_neg (fun h => h e2)]); rw [e9]; exact ⟨hv, fun _ => ⟨rfl, hMS1.mono hF3, hMS2.mono hF3⟩⟩) | (have hb9 : b = true := (by assumption); have e9 : typedE l = 6 := (by unfold typedE; rw [if_pos (by rw [hdu, drop_at hx, dupE_cons, hcb, hb9, Bool.true_or, Bool.true_or])]); rw [e9]; exact ⟨errV_of (by decide), fun h9 => absurd h9 (by decide)⟩) | trace_state)
     (skip; (try simp only [tq] at h))
     refine wp_skip ?_
     (refine hKq6 _ _ ?_; try (clear hKq6 Kq6))
     refine wp_region_lit ?_
     (refine wpl_a S ?_; clear S a; intro a S)
     (refine wpl_p S ?_; clear S a; intro a S)
     refine wpList_nil ?_
     change ∃ m', _ ∧ _
     (have hb9 : b = false := (by assumption); subst hb9; rw [← hao] at S; replace S := S.drop1.drop1; have hjj : j = x.cs.length := (by omega); rw [List.drop_eq_nil_of_le (by omega), show consBad (cnames (l.take i) ++ (x.cs.take j).map CD.nm) [] = false from rfl] at hcb; have hnb : badT ((l.take i).map TD.nm) x = false ∧ consBad (cnames (l.take i)) x.cs = false := (by simpa using hcb); have hxn : x.nm ∉ (l.take i).map TD.nm := (by have h9 := hnb.1; unfold badT at h9; simp only [Bool.or_eq_false_iff, decide_eq_false_iff_not] at h9; exact h9.1.1.1); have e1 := hl1 hxn; have e2 := hcl rfl; rw [List.take_of_length_le (l := x.cs) (i := j) (by omega)] at e2; refine ⟨l.length - (i + 1), by omega, i + 1, _, _, rfl, by omega, (by rw [htk, ← e1]; exact hmm1), (by rw [htk, consOf_app, ← e2]; exact hm2), (by rw [hdu, drop_at hx, dupE_cons, hnb.1, hnb.2, htk, List.map_append, cnames_app]; rfl), ?_⟩; refine S.keep ?_; repeat (first | exact trivial | refine ⟨rfl, ?_⟩)))
    refine wp_region_lit ?_
    iterate 2 (refine wpl_p S ?_; clear S a; intro a S)
    refine wpl_guard S rfl rfl rfl rfl rfl ?_ ?_
    · (intro h S'; clear S; have S := S'; clear S'; (try simp only [tq] at h))
      (refine wpl_f S ?_; clear S a; intro a S)
      refine wpl_take S rfl rfl rfl ?_
      (refine wpl_l S ?_; clear S a; intro a S)
      refine wpl_take S rfl rfl rfl ?_
      (refine wpl_c0 S (plainCt F x.nm) ?_; clear S a; intro v a w hv S; subst hv)
      iterate 2 (refine wpl_p S ?_; clear S a; intro a S)
      refine wpl_guard S rfl rfl rfl rfl rfl ?_ ?_
      · (intro h S'; clear S; have S := S'; clear S'; (try simp only [tq] at h))
        (refine wpl_f S ?_; clear S a; intro a S)
        refine wpl_take S rfl rfl rfl ?_
        (refine wpl_l S ?_; clear S a; intro a S)
        refine wpl_take S rfl rfl rfl ?_
        iterate 3 (refine wpl_p S ?_; clear S a; intro a S)
        refine wpl_guard S rfl rfl rfl rfl rfl ?_ ?_
        · (intro h S'; clear S; have S := S'; clear S'; (try simp only [tq] at h))
          (refine wpl_f S ?_; clear S a; intro a S)
          refine wpl_take S rfl rfl rfl ?_
          (refine wpl_l S ?_; clear S a; intro a S)
          refine wpl_take S rfl rfl rfl ?_
          (refine wpl_c0 S (paramCt F x.nm) ?_; clear S a; intro v a w hv S; subst hv)
          iterate 2 (refine wpl_p S ?_; clear S a; intro a S)
          refine wpList_nil ?_
          (refine hKq9 _ _ ?_)
          (first | (have h1 : x.nm ∈ (l.take i).map TD.nm := (by assumption); have e9 : badT ((l.take i).map TD.nm) x = true := (by unfold badT; rw [decide_eq_true h1]; rfl); rw [e9]; refine ⟨trivial, ?_⟩; (refine S.keep ?_; repeat (first | exact trivial | refine ⟨rfl, ?_⟩)); done) | (have h1 : plainS x.nm = true := (by assumption); have e9 : badT ((l.take i).map TD.nm) x = true := (by unfold badT; rw [h1, Bool.or_true]; rfl); rw [e9]; refine ⟨trivial, ?_⟩; (refine S.keep ?_; repeat (first | exact trivial | refine ⟨rfl, ?_⟩)); done) | (have h1 : x.nm = sTuple := (by assumption); have e9 : badT ((l.take i).map TD.nm) x = true := (by unfold badT; rw [decide_eq_true h1, Bool.or_true]; rfl); rw [e9]; refine ⟨trivial, ?_⟩; (refine S.keep ?_; repeat (first | exact trivial | refine ⟨rfl, ?_⟩)); done) | (have h1 : ¬ x.nm ∈ (l.take i).map TD.nm := (by assumption); have h2 : plainS x.nm = false := (by assumption); have h3 : ¬ x.nm = sTuple := (by assumption); have e9 : badT ((l.take i).map TD.nm) x = parS x.nm := (by unfold badT; rw [decide_eq_false h1, h2, decide_eq_false h3]; rfl); rw [e9]; refine ⟨trivial, ?_⟩; (refine S.keep ?_; repeat (first | exact trivial | refine ⟨rfl, ?_⟩)); done) | trace_state)
        (intro h; clear S a; intro a S; (try simp only [tq] at h))
        iterate 2 (refine wpl_k S ?_; clear S a; intro a S)
        iterate 2 (refine wpl_p S ?_; clear S a; intro a S)
        refine wpList_nil ?_
        (refine hKq9 _ _ ?_)
        (first | (have h1 : x.nm ∈ (l.take i).map TD.nm := (by assumption); have e9 : badT ((l.take i).map TD.nm) x = true := (by unfold badT; rw [decide_eq_true h1]; rfl); rw [e9]; refine ⟨trivial, ?_⟩; (refine S.keep ?_; repeat (first | exact trivial | refine ⟨rfl, ?_⟩)); done) | (have h1 : plainS x.nm = true := (by assumption); have e9 : badT ((l.take i).map TD.nm) x = true := (by unfold badT; rw [h1, Bool.or_true]; rfl); rw [e9]; refine ⟨trivial, ?_⟩; (refine S.keep ?_; repeat (first | exact trivial | refine ⟨rfl, ?_⟩)); done) | (have h1 : x.nm = sTuple := (by assumption); have e9 : badT ((l.take i).map TD.nm) x = true := (by unfold badT; rw [decide_eq_true h1, Bool.or_true]; rfl); rw [e9]; refine ⟨trivial, ?_⟩; (refine S.keep ?_; repeat (first | exact trivial | refine ⟨rfl, ?_⟩)); done) | (have h1 : ¬ x.nm ∈ (l.take i).map TD.nm := (by assumption); have h2 : plainS x.nm = false := (by assumption); have h3 : ¬ x.nm = sTuple := (by assumption); have e9 : badT ((l.take i).map TD.nm) x = parS x.nm := (by unfold badT; rw [decide_eq_false h1, h2, decide_eq_false h3]; rfl); rw [e9]; refine ⟨trivial, ?_⟩; (refine S.keep ?_; repeat (first | exact trivial | refine ⟨rfl, ?_⟩)); done) | trace_state)
      (intro h; clear S a; intro a S; (try simp only [tq] at h))
      iterate 2 (refine wpl_k S ?_; clear S a; intro a S)
      iterate 2 (refine wpl_p S ?_; clear S a; intro a S)
      iterate 3 (refine wpl_k S ?_; clear S a; intro a S)
      iterate 2 (refine wpl_p S ?_; clear S a; intro a S)
      refine wpList_nil ?_
      (refine hKq9 _ _ ?_)
      (first | (have h1 : x.nm ∈ (l.take i).map TD.nm := (by assumption); have e9 : badT ((l.take i).map TD.nm) x = true := (by unfold badT; rw [decide_eq_true h1]; rfl); rw [e9]; refine ⟨trivial, ?_⟩; (refine S.keep ?_; repeat (first | exact trivial | refine ⟨rfl, ?_⟩)); done) | (have h1 : plainS x.nm = true := (by assumption); have e9 : badT ((l.take i).map TD.nm) x = true := (by unfold badT; rw [h1, Bool.or_true]; rfl); rw [e9]; refine ⟨trivial, ?_⟩; (refine S.keep ?_; repeat (first | exact trivial | refine ⟨rfl, ?_⟩)); done) | (have h1 : x.nm = sTuple := (by assumption); have e9 : badT ((l.take i).map TD.nm) x = true := (by unfold badT; rw [decide_eq_true h1, Bool.or_true]; rfl); rw [e9]; refine ⟨trivial, ?_⟩; (refine S.keep ?_; repeat (first | exact trivial | refine ⟨rfl, ?_⟩)); done) | (have h1 : ¬ x.nm ∈ (l.take i).map TD.nm := (by assumption); have h2 : plainS x.nm = false := (by assumption); have h3 : ¬ x.nm = sTuple := (by assumption); have e9 : badT ((l.take i).map TD.nm) x = parS x.nm := (by unfold badT; rw [decide_eq_false h1, h2, decide_eq_false h3]; rfl); rw [e9]; refine ⟨trivial, ?_⟩; (refine S.keep ?_; repeat (first | exact trivial | refine ⟨rfl, ?_⟩)); done) | trace_state)
    (intro h; clear S a; intro a S; (try simp only [tq] at h))
    iterate 2 (refine wpl_k S ?_; clear S a; intro a S)
    iterate 2 (refine wpl_p S ?_; clear S a; intro a S)
    iterate 3 (refine wpl_k S ?_; clear S a; intro a S)
    iterate 2 (refine wpl_p S ?_; clear S a; intro a S)
    iterate 3 (refine wpl_k S ?_; clear S a; intro a S)
    iterate 2 (refine wpl_p S ?_; clear S a; intro a S)
    refine wpList_nil ?_
    (refine hKq9 _ _ ?_)
    (first | (have h1 : x.nm ∈ (l.take i).map TD.nm := (by assumption); have e9 : badT ((l.take i).map TD.nm) x = true := (by unfold badT; rw [decide_eq_true h1]; rfl); rw [e9]; refine ⟨trivial, ?_⟩; (refine S.keep ?_; repeat (first | exact trivial | refine ⟨rfl, ?_⟩)); done) | (have h1 : plainS x.nm = true := (by assumption); have e9 : badT ((l.take i).map TD.nm) x = true := (by unfold badT; rw [h1, Bool.or_true]; rfl); rw [e9]; refine ⟨trivial, ?_⟩; (refine S.keep ?_; repeat (first | exact trivial | refine ⟨rfl, ?_⟩)); done) | (have h1 : x.nm = sTuple := (by assumption); have e9 : badT ((l.take i).map TD.nm) x = true := (by unfold badT; rw [decide_eq_true h1, Bool.or_true]; rfl); rw [e9]; refine ⟨trivial, ?_⟩; (refine S.keep ?_; repeat (first | exact trivial | refine ⟨rfl, ?_⟩)); done) | (have h1 : ¬ x.nm ∈ (l.take i).map TD.nm := (by assumption); have h2 : plainS x.nm = false := (by assumption); have h3 : ¬ x.nm = sTuple := (by assumption); have e9 : badT ((l.take i).map TD.nm) x = parS x.nm := (by unfold badT; rw [decide_eq_false h1, h2, decide_eq_false h3]; rfl); rw [e9]; refine ⟨trivial, ?_⟩; (refine S.keep ?_; repeat (first | exact trivial | refine ⟨rfl, ?_⟩)); done) | trace_state)
  (skip; (try simp only [tq] at h))
  refine wp_exit ?_
  (refine hKq2 _ _ ?_; try (clear hKq2 Kq2))
  (refine wp_seq_k ?_; intro Kq6 hKq6)
  (refine wp_seq_k ?_; intro Kq7 hKq7)
  (have hii : i = l.length := (by omega); rw [List.take_of_length_le (by omega)] at hm1 hm2; have hdf : dupE [] [] l = false := (by rw [hdu, List.drop_eq_nil_of_le (by omega)]; rfl); have hle1 := add_le (G1 := []) S; replace S := St.freeze (G1 := []) S; (try simp only [List.nil_append] at S hle1); have hM1 : (F.add [(m1, mObj kS es1)]) m1 = some (mObj kS es1) := Heap.add_new (p := (m1, _)) (List.mem_singleton.2 rfl) (by simp); generalize (F.add [(m1, mObj kS es1)]) = F1 at S hle1 hM1; have hle2 := add_le (G1 := []) S; replace S := St.freeze (G1 := []) S; (try simp only [List.nil_append] at S hle2); have hM2 : (F1.add [(m2, mObj kS es2)]) m2 = some (mObj kS es2) := Heap.add_new (p := (m2, _)) (List.mem_singleton.2 rfl) (by simp); generalize (F1.add [(m2, mObj kS es2)]) = F2 at S hle2 hM2; have hF2 : ∀ b o, F b = some o → F2 b = some o := (fun b o h => hle2 _ _ (hle1 _ _ h)); have hMS1 : MapS F2 TdR TD.nm m1 l := ⟨es1, hle2 _ _ hM1, hm1.mono hF2⟩; have hMS2 : MapS F2 KcR KC.nm m2 (consOf l) := ⟨es2, hM2, hm2.mono hF2⟩; have hTy : TyS F2 tb m1 l := ⟨hc1.mono hF2, hMS1⟩; skip)
  refine wp_region_lit ?_
  (refine wpl_p S ?_; clear S a; intro a S)
  (refine wpl_n S ?_; clear S a; intro a S)
  (refine wpl_p S ?_; clear S a; intro a S)
  (refine wpList_nil (hKq7 _ _ ?_); try clear hKq7 Kq7)
  refine wp_block ?_
  refine wpc_loop (fun m a w' => ∃ (i : Nat) (F3 : Heap), m = l.length - i ∧ i ≤ l.length ∧ (∀ b o, F2 b = some o → F3 b = some o) ∧ typesFE l l = typesFE l (l.drop i) ∧ St 133 [(0, ptr tb), (1, .slice ao l.length cap), (105, .slice ao l.length cap), (106, .int .i64 l.length), (107, .int .i64 i)] w0 F [m1, m2] F3 [] a w') ?_ ?_
  · (refine ⟨l.length, 0, F2, by omega, Nat.zero_le _, fun _ _ h => h, rfl, ?_⟩; refine S.keep ?_; repeat (first | exact trivial | refine ⟨rfl, ?_⟩))
  (clear S; rintro m a w ⟨i, F3, rfl, hil, hF3, htf, S⟩)
  refine wp_sr fun Kq8 hKq8 => ?_
  (refine wpl_p S ?_; clear S a; intro a S)
  (refine wpList_nil (hKq8 _ _ (wp_seq_k fun Kq9 hKq9 => ?_)); try clear hKq8 Kq8)
  refine wpc_split S rfl (fun h => ?_) (fun h => ?_)
  · (skip; (try simp only [tq] at h))
    refine wp_skip ?_
    (refine hKq9 _ _ ?_; try (clear hKq9 Kq9))
    (refine wp_seq_k ?_; intro Kq10 hKq10)
    refine wp_block ?_
    (refine wp_seq_k ?_; intro Kq11 hKq11)
    (obtain ⟨bq, oq, hao, x, cs1, hx, hd1, ⟨w1, w2, rfl, hps, hcs⟩⟩ := LiM.pos hpos (k := i) (by omega); rw [hao] at S; have hF23 : ∀ b o, F b = some o → F3 b = some o := (fun b o h => hF3 _ _ (hF2 _ _ h)); replace hd1 := Cels.mono hF23 hd1; replace hps := hps.mono hF23; replace hcs := hcs.mono hF23; have hpsc := hps; have hcsc := hcs; obtain ⟨ap, cp, rfl, -, -⟩ := hpsc; obtain ⟨ac, cc, rfl, hcc9, hposc⟩ := hcsc; have hxsz := hsz x (List.mem_of_getElem? hx))
    refine wp_region_lit ?_
    (refine wpl_i S ?_; clear S a; intro a S)
    (refine wpl_l S ?_; clear S a; intro a S)
    (refine wpl_al S ?_; clear S a; intro b14 a w S)
    (refine wpl_storeO S rfl rfl rfl rfl rfl (by rfl) (by simp [Value.cells, Value.oneCell', splice]) (by rfl) ?_; clear S; intro w S)
    (refine wpList_nil (hKq11 _ _ (wp_seq_k fun Kq12 hKq12 => ?_)); try clear hKq11 Kq11)
    (replace S : St _ _ _ _ _ F3 [[(b14, .cells ⟨[.int .i64 x.l, .int .i64 x.c, .bool x.pub, .string (bs x.nm), .slice ap x.ps.length cp, .slice ac x.cs.length cc]⟩ 57 (0, 0))]] _ _ := S; have hF4 := add_le (G1 := []) S; replace S := St.freeze (G1 := []) S; (try simp only [List.nil_append] at S hF4); have hb14 : Cels (F3.add [(b14, .cells ⟨[.int .i64 x.l, .int .i64 x.c, .bool x.pub, .string (bs x.nm), .slice ap x.ps.length cp, .slice ac x.cs.length cc]⟩ 57 (0, 0))]) b14 0 [.int .i64 x.l, .int .i64 x.c, .bool x.pub, .string (bs x.nm), .slice ap x.ps.length cp, .slice ac x.cs.length cc] := (fun j u hj => ⟨_, _, _, Heap.add_new (p := (b14, _)) (List.mem_singleton.2 rfl) (by simp), by simpa using hj⟩); generalize (F3.add [(b14, .cells ⟨[.int .i64 x.l, .int .i64 x.c, .bool x.pub, .string (bs x.nm), .slice ap x.ps.length cp, .slice ac x.cs.length cc]⟩ 57 (0, 0))]) = F4 at S hF4 hb14; have hmay := typed1Ct F4 b14 x ap cp (hb14 4 _ rfl) (hps.mono hF4); have hc5 : Cel F4 b14 5 (.slice ac x.cs.length cc) := hb14 5 _ rfl; have hp45 : Cels F4 b14 0 [.int .i64 x.l, .int .i64 x.c] := hb14.take 2)
    refine wp_region_lit ?_
    (refine wpl_f S ?_; clear S a; intro a S)
    (refine wpl_v S rfl rfl rfl (sv_loadF S rfl rfl hc5) ?_; clear S a; intro a S)
    (refine wpl_n S ?_; clear S a; intro a S)
    (refine wpl_p S ?_; clear S a; intro a S)
    (refine wpList_nil (hKq12 _ _ ?_); try clear hKq12 Kq12)
    refine wp_block ?_
    refine wpc_loop (fun m a w' => ∃ (j : Nat), m = x.cs.length - j ∧ j ≤ x.cs.length ∧ consFE l x.ps x.cs = consFE l x.ps (x.cs.drop j) ∧ St 133 [(0, ptr tb), (1, .slice (some ⟨bq, oq, none⟩) l.length cap), (14, ptr b14), (105, .slice (some ⟨bq, oq, none⟩) l.length cap), (106, .int .i64 l.length), (107, .int .i64 i), (112, .slice ac x.cs.length cc), (113, .int .i64 x.cs.length), (114, .int .i64 j)] w0 F [m1, m2] F4 [] a w') ?_ ?_
    · (refine ⟨x.cs.length, 0, by omega, Nat.zero_le _, rfl, ?_⟩; refine S.keep ?_; repeat (first | exact trivial | refine ⟨rfl, ?_⟩))
    (clear S; rintro m a w ⟨j, rfl, hjl, hce, S⟩)
    refine wp_sr fun Kq13 hKq13 => ?_
    (refine wpl_p S ?_; clear S a; intro a S)
    (refine wpList_nil (hKq13 _ _ (wp_seq_k fun Kq14 hKq14 => ?_)); try clear hKq13 Kq13)
    refine wpc_split S rfl (fun h => ?_) (fun h => ?_)
    · (skip; (try simp only [tq] at h))
      refine wp_skip ?_
      (refine hKq14 _ _ ?_; try (clear hKq14 Kq14))
      (refine wp_seq_k ?_; intro Kq15 hKq15)
      refine wp_block ?_
      (refine wp_seq_k ?_; intro Kq16 hKq16)
      (obtain ⟨bp, op, hao2, y, cs2, hy, he1, ⟨w3, rfl, hfs⟩⟩ := LiM.pos hposc (k := j) (by omega); rw [hao2] at S; replace he1 := Cels.mono hF4 he1; replace hfs := hfs.mono hF4; have hfsc := hfs; obtain ⟨af, cf, rfl, -, -⟩ := hfsc; have hysz := hxsz.2.2 y (List.mem_of_getElem? hy))
      refine wp_region_lit ?_
      (refine wpl_i S ?_; clear S a; intro a S)
      (refine wpl_l S ?_; clear S a; intro a S)
      (refine wpl_al S ?_; clear S a; intro b16 a w S)
      (refine wpl_storeO S rfl rfl rfl rfl rfl (by rfl) (by simp [Value.cells, Value.oneCell', splice]) (by rfl) ?_; clear S; intro w S)
      (refine wpList_nil (hKq16 _ _ (wp_sr fun Kq17 hKq17 => ?_)); try clear hKq16 Kq16)
      (refine wpl_p S ?_; clear S a; intro a S)
      (refine wpl_f S ?_; clear S a; intro a S)
      (refine wpl_l S ?_; clear S a; intro a S)
      (refine wpl_f S ?_; clear S a; intro a S)
      (refine wpl_v S rfl rfl rfl (sv_loadAF S rfl rfl hp45 (by rfl)) ?_; clear S a; intro a S)
      (refine wpl_p S ?_; clear S a; intro a S)
      (refine wpl_c0 S (fieldsCt F4 tb m1 l (hTy.mono (fun b o h => hF4 _ _ (hF3 _ _ h))) y.fs _ hfs hysz.1 x.l x.c (fun s => decide (s ∈ x.ps)) 77 [] [.pointer (some ⟨b14, 0, none⟩)] hmay) ?_; clear S a; intro v9 a w hv S)
      (refine wpl_p S ?_; clear S a; intro a S)
      (refine wpList_nil (hKq17 _ _ (wp_sr fun Kq18 hKq18 => ?_)); try clear hKq17 Kq17)
      (refine wpl_p S ?_; clear S a; intro a S)
      (refine wpl_v S rfl rfl rfl (sv_neErr S rfl rfl hv) ?_; clear S a; intro a S)
      (refine wpList_nil (hKq18 _ _ ?_); try clear hKq18 Kq18)
      refine wpc_split S rfl (fun h => ?_) (fun h => ?_)
      · (skip; (try simp only [tq] at h))
        refine wp_sr fun Kq19 hKq19 => ?_
        iterate 2 (refine wpl_p S ?_; clear S a; intro a S)
        (refine wpList_nil (hKq19 _ _ ?_); try clear hKq19 Kq19)
        refine wp_ret ?_
        (first | (have h9 := hy; replace S := S.drop1) | skip)
        refine fin_ret S (results1 Tryz.results52 (RV.tmp S rfl)) ?_
        (first | (have hne : fieldsE l (fun s => decide (s ∈ x.ps)) y.fs ≠ 0 := (by first | assumption | simpa using h); have e1 : consFE l x.ps x.cs = fieldsE l (fun s => decide (s ∈ x.ps)) y.fs := (by rw [hce, drop_at hy, consFE_cons, if_pos hne]); have e2 : typesFE l l = fieldsE l (fun s => decide (s ∈ x.ps)) y.fs := (by rw [htf, drop_at hx, typesFE_cons, e1, if_pos hne]); have e9 : typedE l = fieldsE l (fun s => decide (s ∈ x.ps)) y.fs := (by unfold typedE; rw [if_neg (by rw [hdf]; decide), e2, if_pos hne]); rw [e9]; exact ⟨hv, fun h9 => absurd h9 hne⟩) | (have h9 := hTy; have e2 : typesFE l l = 0 := (by rw [htf, List.drop_eq_nil_of_le (by omega)]; rfl); have e9 : typedE l = fullE l := (by unfold typedE; rw [if_neg (by rw [hdf]; decide), if_neg (fun h => h e2)]); rw [e9]; exact ⟨hv, fun _ => ⟨rfl, hMS1.mono hF3, hMS2.mono hF3⟩⟩) | (have hb9 : b = true := (by assumption); have e9 : typedE l = 6 := (by unfold typedE; rw [if_pos (by rw [hdu, drop_at hx, dupE_cons, hcb, hb9, Bool.true_or, Bool.true_or])]); rw [e9]; exact ⟨errV_of (by decide), fun h9 => absurd h9 (by decide)⟩) | trace_state)
      (skip; (try simp only [tq] at h))
      refine wp_skip ?_
      (refine hKq15 _ _ ?_; try (clear hKq15 Kq15))
      refine wp_region_lit ?_
      (refine wpl_a S ?_; clear S a; intro a S)
      (refine wpl_p S ?_; clear S a; intro a S)
      refine wpList_nil ?_
      change ∃ m', _ ∧ _
      (have hz : fieldsE l (fun s => decide (s ∈ x.ps)) y.fs = 0 := (by first | assumption | omega | (simp_all; done)); rw [← hao2] at S; replace S := S.drop1; refine ⟨x.cs.length - (j + 1), by omega, j + 1, rfl, by omega, (by rw [hce, drop_at hy, consFE_cons, if_neg (fun h => h hz)]), ?_⟩; refine S.keep ?_; repeat (first | exact trivial | refine ⟨rfl, ?_⟩))
    (skip; (try simp only [tq] at h))
    refine wp_exit ?_
    (refine hKq10 _ _ ?_; try (clear hKq10 Kq10))
    refine wp_region_lit ?_
    (refine wpl_a S ?_; clear S a; intro a S)
    (refine wpl_p S ?_; clear S a; intro a S)
    refine wpList_nil ?_
    change ∃ m', _ ∧ _
    (have hz : consFE l x.ps x.cs = 0 := (by rw [hce, List.drop_eq_nil_of_le (by omega)]; rfl); rw [← hao] at S; refine ⟨l.length - (i + 1), by omega, i + 1, F4, rfl, by omega, fun b o h => hF4 _ _ (hF3 _ _ h), (by rw [htf, drop_at hx, typesFE_cons, if_neg (fun h => h hz)]), ?_⟩; refine S.keep ?_; repeat (first | exact trivial | refine ⟨rfl, ?_⟩))
  (skip; (try simp only [tq] at h))
  refine wp_exit ?_
  (refine hKq6 _ _ ?_; try (clear hKq6 Kq6))
  refine wp_sr fun Kq10 hKq10 => ?_
  iterate 2 (refine wpl_p S ?_; clear S a; intro a S)
  (refine wpl_c0 S (fullCt F3 _ l _ ((hl0.mono hF2).mono hF3)) ?_; clear S a; intro v9 a w hv S)
  (refine wpl_p S ?_; clear S a; intro a S)
  (refine wpList_nil (hKq10 _ _ ?_); try clear hKq10 Kq10)
  refine wp_ret ?_
  (first | (have h9 := hy; replace S := S.drop1) | skip)
  refine fin_ret S (results1 Tryz.results52 (RV.tmp S rfl)) ?_
  (first | (have hne : fieldsE l (fun s => decide (s ∈ x.ps)) y.fs ≠ 0 := (by first | assumption | simpa using h); have e1 : consFE l x.ps x.cs = fieldsE l (fun s => decide (s ∈ x.ps)) y.fs := (by rw [hce, drop_at hy, consFE_cons, if_pos hne]); have e2 : typesFE l l = fieldsE l (fun s => decide (s ∈ x.ps)) y.fs := (by rw [htf, drop_at hx, typesFE_cons, e1, if_pos hne]); have e9 : typedE l = fieldsE l (fun s => decide (s ∈ x.ps)) y.fs := (by unfold typedE; rw [if_neg (by rw [hdf]; decide), e2, if_pos hne]); rw [e9]; exact ⟨hv, fun h9 => absurd h9 hne⟩) | (have h9 := hTy; have e2 : typesFE l l = 0 := (by rw [htf, List.drop_eq_nil_of_le (by omega)]; rfl); have e9 : typedE l = fullE l := (by unfold typedE; rw [if_neg (by rw [hdf]; decide), if_neg (fun h => h e2)]); rw [e9]; exact ⟨hv, fun _ => ⟨rfl, hMS1.mono hF3, hMS2.mono hF3⟩⟩) | (have hb9 : b = true := (by assumption); have e9 : typedE l = 6 := (by unfold typedE; rw [if_pos (by rw [hdu, drop_at hx, dupE_cons, hcb, hb9, Bool.true_or, Bool.true_or])]); rw [e9]; exact ⟨errV_of (by decide), fun h9 => absurd h9 (by decide)⟩) | trace_state)
end Go.Proofs.YtoaodbclgeeaeaaGreatDoor
