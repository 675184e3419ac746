/- Walks. -/
import Derived.Test.YtgefmjghdijbfaaGreatDoorKEvalNames07
set_option maxHeartbeats 32000000
set_option maxRecDepth 20000
namespace Go.Proofs.YtgefmjghdijbfaaGreatDoor
open Go Go.Wk Go.Un Go.De
set_option linter.unusedSimpArgs false
set_option linter.unusedVariables false
attribute [local irreducible] Go.wpList Go.Code.wp Go.wpStill Go.Wk.wpPre Go.bodyPost Go.Calls Go.Wk.Ct Go.Wk.OwnS Go.Wk.wpG Go.Wk.wpM
theorem typed1Ct (F : Heap) (bx : Nat) (x : TD) (ap : Option Addr) (cp : Nat) (hc : Cel F bx 4 (.slice ap x.ps.length cp)) (hps : LiM F 1 StR (.slice ap x.ps.length cp) x.ps) : CbS F 140 [] [.pointer (some ⟨bx, 0, none⟩)] (fun s => decide (s ∈ x.ps)) := by
 unfold CbS
 intro F' s hF
 replace hc := hc.mono hF
 have hsl := lim_sl (hps.mono hF)
 have hb : x.ps.length ≤ 140737488355328 := by obtain ⟨_, _, e, hb, _⟩ := hps; exact hb.2
 refine Ct.enter Tryz.func140 rfl Tryz.ntmps140 rfl fun w0 a S => ?_
 (revert S a; refine go 6 ?_; intro Z hZ a S)
 (refine wv S (sv_loadF S rfl rfl hc) ?_; clear S a; intro a S)
 (revert S a; refine go 1 ?_; intro a S)
 (refine wc0 S (containsSCt F' x.ps s _ hsl (by omega)) ?_; clear S a; intro v a w hv S; subst hv)
 (revert S a; revert hZ Z; refine go 3 ?_; intro a S)
 refine wp_ret (fr1 S Tryz.results140 ?_)
 rfl
theorem dupE_cons (tn cn : List (List UInt8)) (x : TD) (r : List TD) : dupE tn cn (x :: r) = ((badT tn x || consBad cn x.cs) || dupE (tn ++ [x.nm]) (cn ++ x.cs.map CD.nm) r) := rfl
theorem consBad_cons (cn : List (List UInt8)) (c : CD) (r : List CD) : consBad cn (c :: r) = ((decide (c.nm ∈ cn) || twiceD c.fs) || consBad (cn ++ [c.nm]) r) := rfl
theorem consFE_cons (ts : List TD) (ps : List (List UInt8)) (c : CD) (r : List CD) : consFE ts ps (c :: r) = if fieldsE ts (fun s => decide (s ∈ ps)) c.fs ≠ 0 then fieldsE ts (fun s => decide (s ∈ ps)) c.fs else consFE ts ps r := rfl
theorem typesFE_cons (ts : List TD) (x : TD) (r : List TD) : typesFE ts (x :: r) = if consFE ts x.ps x.cs ≠ 0 then consFE ts x.ps x.cs else typesFE ts r := rfl
def TSz (l : List TD) : Prop := ∀ x ∈ l, x.cs.length ≤ 1000000 ∧ x.ps.length ≤ 1000000 ∧ ∀ c ∈ x.cs, FSz c.fs ∧ c.fs.length ≤ 1000000
theorem zzDeO0 {p : Prop} (h : p := by (first | (have h1 : b = true := (by assumption); have e9 : ((b || decide (y.nm ∈ cl.map KC.nm)) || twiceD y.fs) = true := (by rw [h1]; rfl); rw [e9]; refine ⟨trivial, ?_⟩; (refine S.keep ?_; exact zk); done) | (have h2 : y.nm ∈ cl.map KC.nm := (by assumption); have e9 : ((b || decide (y.nm ∈ cl.map KC.nm)) || twiceD y.fs) = true := (by rw [decide_eq_true h2, Bool.or_true]; rfl); rw [e9]; refine ⟨trivial, ?_⟩; (refine S.keep ?_; exact zk); done) | (have h1 : b = false := (by assumption); have h2 : ¬ y.nm ∈ cl.map KC.nm := (by assumption); have e9 : ((b || decide (y.nm ∈ cl.map KC.nm)) || twiceD y.fs) = twiceD y.fs := (by rw [h1, decide_eq_false h2]; rfl); rw [e9]; refine ⟨trivial, ?_⟩; (refine S.keep ?_; exact zk); done) | trace_state)) : p := h
theorem zzDeO1 {p : Prop} (h : p := by (first | (have hne : fieldsE l (fun s => decide (s ∈ x.ps)) y.fs ≠ 0 := (by first | assumption | simpa using h); have e1 : consFE l x.ps x.cs = fieldsE l (fun s => decide (s ∈ x.ps)) y.fs := (by rw [hce, drop_at hy, consFE_cons, if_pos hne]); have e2 : typesFE l l = fieldsE l (fun s => decide (s ∈ x.ps)) y.fs := (by rw [htf, drop_at hx, typesFE_cons, e1, if_pos hne]); have e9 : typedE l = fieldsE l (fun s => decide (s ∈ x.ps)) y.fs := (by unfold typedE; rw [if_neg (by rw [hdf]; decide), e2, if_pos hne]); rw [e9]; exact ⟨hv, fun h9 => absurd h9 hne⟩) | (have h9 := hTy; have e2 : typesFE l l = 0 := (by rw [htf, List.drop_eq_nil_of_le (by omega)]; rfl); have e9 : typedE l = fullE l := (by unfold typedE; rw [if_neg (by rw [hdf]; decide), if_neg (fun h => h e2)]); rw [e9]; exact ⟨hv, fun _ => ⟨rfl, hMS1.mono hF3, hMS2.mono hF3⟩⟩) | (have hb9 : b = true := (by assumption); have e9 : typedE l = 6 := (by unfold typedE; rw [if_pos (by rw [hdu, drop_at hx, dupE_cons, hcb, hb9, Bool.true_or, Bool.true_or])]); rw [e9]; exact ⟨errV_of (by decide), fun h9 => absurd h9 (by decide)⟩) | trace_state)) : p := h
theorem zzDeO2 {p : Prop} (h : p := by (first | (have h1 : x.nm ∈ (l.take i).map TD.nm := (by assumption); have e9 : badT ((l.take i).map TD.nm) x = true := (by unfold badT; rw [decide_eq_true h1]; rfl); rw [e9]; refine ⟨trivial, ?_⟩; (refine S.keep ?_; exact zk); done) | (have h1 : plainS x.nm = true := (by assumption); have e9 : badT ((l.take i).map TD.nm) x = true := (by unfold badT; rw [h1, Bool.or_true]; rfl); rw [e9]; refine ⟨trivial, ?_⟩; (refine S.keep ?_; exact zk); done) | (have h1 : x.nm = sTuple := (by assumption); have e9 : badT ((l.take i).map TD.nm) x = true := (by unfold badT; rw [decide_eq_true h1, Bool.or_true]; rfl); rw [e9]; refine ⟨trivial, ?_⟩; (refine S.keep ?_; exact zk); done) | (have h1 : ¬ x.nm ∈ (l.take i).map TD.nm := (by assumption); have h2 : plainS x.nm = false := (by assumption); have h3 : ¬ x.nm = sTuple := (by assumption); have e9 : badT ((l.take i).map TD.nm) x = parS x.nm := (by unfold badT; rw [decide_eq_false h1, h2, decide_eq_false h3]; rfl); rw [e9]; refine ⟨trivial, ?_⟩; (refine S.keep ?_; exact zk); done) | trace_state)) : p := h
theorem typedCt (F : Heap) (tb m1 m2 m3 : Nat) (hcc : Cels F tb 0 [.map (some m1), .map (some m2), .map (some m3)]) (l : List TD) (v : Value) (h : LiM F 6 TdR v l) (hsz : TSz l) :
    Ct Tryz.prog 95 [.pointer (some ⟨tb, 0, none⟩), v] F [[(m1, mObj kS [])], [(m2, mObj kS [])]] (fun F' G' u => ErrV (typedE l) u ∧ (typedE l = 0 → G' = [] ∧ MapS F' TdR TD.nm m1 l ∧ MapS F' KcR KC.nm m2 (consOf l))) := by
  have hl0 := h
  obtain ⟨ao, cap, rfl, hcap, hpos⟩ := h
  have hc1 : Cel F tb 0 (.map (some m1)) := hcc 0 _ rfl
  have hc2 : Cel F tb 1 (.map (some m2)) := hcc 1 _ rfl
  refine Ct.enter Tryz.func95 rfl Tryz.ntmps95 rfl fun w0 a S => ?_
  (revert S a; refine go 12 ?_; intro Z hZ a S)
  refine wpc_loop (fun m a w' => ∃ (i : Nat) (es1 es2 : List (List UInt8 × Value)), m = l.length - i ∧ i ≤ l.length ∧ MapM F TdR TD.nm es1 (l.take i) ∧ MapM F KcR KC.nm es2 (consOf (l.take i)) ∧ dupE [] [] l = dupE ((l.take i).map TD.nm) (cnames (l.take i)) (l.drop i) ∧ St 133 [(0, ptr tb), (1, .slice ao l.length cap), (18, .slice ao l.length cap), (19, .int .i64 l.length), (20, .int .i64 i)] w0 F [m1, m2] F [[(m1, mObj kS es1)], [(m2, mObj kS es2)]] a w') ?_ ?_
  · (refine ⟨l.length, 0, [], [], by omega, Nat.zero_le _, trivial, trivial, rfl, ?_⟩; refine S.keep ?_; exact zk)
  (clear S; rintro m a w ⟨i, es1, es2, rfl, hil, hm1, hm2, hdu, S⟩)
  (revert S a; refine go 5 ?_; intro Z hZ a S)
  refine wpc_sp S rfl ?_ ?_ <;> intro h
  · (revert S a; revert hZ Z; refine go 4 ?_; intro Z hZ a S)
    (refine wp_seq_k ?_; intro Z hZ)
    (obtain ⟨bq, oq, hao, x, cs1, hx, hd1, ⟨w1, w2, rfl, hps, hcs⟩⟩ := LiM.pos hpos (k := i) (by omega); rw [hao] at S; have hpsc := hps; have hcsc := hcs; obtain ⟨ap, cp, rfl, -, -⟩ := hpsc; obtain ⟨ac, cc, rfl, hcc9, hposc⟩ := hcsc; have hxsz := hsz x (List.mem_of_getElem? hx); have htk : l.take (i + 1) = l.take i ++ [x] := (by rw [List.take_add_one, hx]; rfl); obtain ⟨l1, hmm1, hl1⟩ := hm1.set (x := x) (cs := [.int .i64 x.l, .int .i64 x.c, .bool x.pub, .string (bs x.nm), .slice ap x.ps.length cp, .slice ac x.cs.length cc]) ⟨_, _, rfl, hps, hcs⟩)
    (revert S a; refine go 3 ?_; intro a S)
    (refine wpl_alloc S rfl rfl rfl rfl ?_; clear S a; intro b6 a w S)
    (refine wso S rfl rfl ?_; clear S; intro w S)
    (revert S a; revert hZ Z; refine go 2 ?_; intro a S)
    (refine wp_seq_k ?_; intro Z hZ)
    (refine wpc_mixM [0, 1, 2, 3, 4, 5, 6, 7, 8, 9] [3, 5, 6] [] (.one 0 (.one 1 (.one 2 (.one 3 (.one 4 (.one 5 (.one 6 (.one 7 (.one 8 (.one 9 (.one 10 (.one 11 (.one 12 .nil))))))))))))) [b6, m1] S mixed (by kernel_rfl) ?_; clear S; intro w S)
    (revert S a; refine go 3 ?_; intro a S)
    (refine wlF S rfl (fun w' S => sv_loadF S rfl rfl hc1) ?_; clear S a; intro a S)
    (revert S a; refine go 2 ?_; intro a S)
    (refine wpm_lateO m1 S rfl rfl rfl (want_none _ rfl) rfl rfl (fun w' S => sv_lookupO (enc := kS) S rfl rfl rfl) ?_; clear S a; intro a S)
    (obtain ⟨yy, ya, yb, yc, yd, hgd, -, -, -, -⟩ := get_td hm1 x.nm; rw [if_pos rfl, hgd, hm1.mem x.nm] at S)
    (revert S a; refine go 4 ?_; intro a S)
    (refine wpl_alloc S rfl rfl rfl rfl ?_; clear S a; intro b7 a w S)
    (revert S a; refine go 2 ?_; intro a S)
    (refine wso S rfl rfl ?_; clear S; intro w S)
    (revert S a; revert hZ Z; refine go 6 ?_; intro a S)
    (refine wp_seq_k ?_; intro Z hZ)
    replace hZ : ∀ (a' : Act) (w' : World), (True ∧ St 133 [(0, ptr tb), (1, .slice (some ⟨bq, oq, none⟩) l.length cap), (6, ptr b6), (8, .bool (badT ((l.take i).map TD.nm) x)), (18, .slice (some ⟨bq, oq, none⟩) l.length cap), (19, .int .i64 l.length), (20, .int .i64 i)] w0 F [m1, m2] F [[(b7, .cells ⟨[.int .i64 yy.l, .int .i64 yy.c, .bool yy.pub, .string (bs yy.nm), .slice ya yy.ps.length yb, .slice yc yy.cs.length yd]⟩ 97 (0, 0))], [(b6, .cells ⟨[.int .i64 x.l, .int .i64 x.c, .bool x.pub, .string (bs x.nm), .slice ap x.ps.length cp, .slice ac x.cs.length cc]⟩ 97 (0, 0))], [(m1, mObj kS es1)], [(m2, mObj kS es2)]] a' w') → Z a' w' := (by
     (intro a w hM; refine hZ _ _ ?_; clear hZ Z; clear S; obtain ⟨-, S⟩ := hM)
     (refine wp_seq_k ?_; intro Z hZ)
     (refine wpc_mixM [0, 1, 2, 3, 4, 5, 6] [3, 5, 6] [] (.one 0 (.one 1 (.one 2 (.one 3 (.one 4 (.one 5 (.one 6 (.one 7 .nil)))))))) [b6] S mixed (by kernel_rfl) ?_; clear S; intro w S)
     (revert S a; refine go 3 ?_; intro a S)
     (refine wlF S rfl (fun w' S => sv_loadF S rfl rfl hc1) ?_; clear S a; intro a S)
     (revert S a; refine go 4 ?_; intro a S)
     (refine wpl_mapSet (enc := kS) S rfl rfl rfl rfl rfl rfl ?_; clear S; intro w S)
     (revert S a; revert hZ Z; refine go 4 ?_; intro Z hZ a S)
     (refine wp_seq_k ?_; intro Z hZ)
     (replace S : St _ _ _ _ _ F [_, _, [(m1, mObj kS (mSet es1 x.nm (.agg ⟨[.int .i64 x.l, .int .i64 x.c, .bool x.pub, .string (bs x.nm), .slice ap x.ps.length cp, .slice ac x.cs.length cc]⟩)))], _] _ _ := S; generalize hes1n : mSet es1 x.nm (.agg ⟨[.int .i64 x.l, .int .i64 x.c, .bool x.pub, .string (bs x.nm), .slice ap x.ps.length cp, .slice ac x.cs.length cc]⟩) = es1n at S hmm1)
     (revert S a; revert hZ Z; refine go 8 ?_; intro a S)
     refine wpc_loop (fun m a w' => ∃ (j : Nat) (b : Bool) (es2 : List (List UInt8 × Value)) (cl : List KC), m = x.cs.length - j ∧ j ≤ x.cs.length ∧ MapM F KcR KC.nm es2 cl ∧ (b = false → cl = consOf (l.take i) ++ consFrom x 0 (x.cs.take j)) ∧ (badT ((l.take i).map TD.nm) x || consBad (cnames (l.take i)) x.cs) = (b || consBad (cnames (l.take i) ++ (x.cs.take j).map CD.nm) (x.cs.drop j)) ∧ St 133 [(0, ptr tb), (1, .slice (some ⟨bq, oq, none⟩) l.length cap), (6, ptr b6), (8, .bool b), (18, .slice (some ⟨bq, oq, none⟩) l.length cap), (19, .int .i64 l.length), (20, .int .i64 i), (58, .slice ac x.cs.length cc), (59, .int .i64 x.cs.length), (60, .int .i64 j)] w0 F [m1, m2] F [[(b7, .cells ⟨[.int .i64 yy.l, .int .i64 yy.c, .bool yy.pub, .string (bs yy.nm), .slice ya yy.ps.length yb, .slice yc yy.cs.length yd]⟩ 97 (0, 0))], [(b6, .cells ⟨[.int .i64 x.l, .int .i64 x.c, .bool x.pub, .string (bs x.nm), .slice ap x.ps.length cp, .slice ac x.cs.length cc]⟩ 97 (0, 0))], [(m1, mObj kS es1n)], [(m2, mObj kS es2)]] a w') ?_ ?_
     · (refine ⟨x.cs.length, 0, badT ((l.take i).map TD.nm) x, es2, consOf (l.take i), by omega, Nat.zero_le _, hm2, fun _ => by simp [consFrom], by simp, ?_⟩; first | ((refine S.keep ?_; exact zk); done) | (have hbd : badT ((l.take i).map TD.nm) x = _ := hbadv; rw [hbd]; refine S.keep ?_; exact zk))
     (clear S; rintro m a w ⟨j, b, es2, cl, rfl, hjl, hm2, hcl, hcb, S⟩)
     (revert S a; refine go 5 ?_; intro Z hZ a S)
     refine wpc_sp S rfl ?_ ?_ <;> intro h
     · (revert S a; revert hZ Z; refine go 4 ?_; intro Z hZ a S)
       (refine wp_seq_k ?_; intro Z hZ)
       (obtain ⟨bp, op, hao2, y, cs2, hy, he1, ⟨w3, rfl, hfs⟩⟩ := LiM.pos hposc (k := j) (by omega); rw [hao2] at S; have hfsc := hfs; obtain ⟨af, cf, rfl, -, -⟩ := hfsc; have hysz := hxsz.2.2 y (List.mem_of_getElem? hy); have htj : x.cs.take (j + 1) = x.cs.take j ++ [y] := (by rw [List.take_add_one, hy]; rfl); obtain ⟨cl2, hmm2, hcl2⟩ := hm2.set (x := (⟨y.nm, x.nm, x.ps, (j : Int), y.fs⟩ : KC)) (cs := [.string (bs x.nm), .slice ap x.ps.length cp, .int .i64 (j : Int), .slice af y.fs.length cf]) ⟨_, _, rfl, hps, hfs⟩)
       (revert S a; refine go 4 ?_; intro a S)
       (refine wpl_alloc S rfl rfl rfl rfl ?_; clear S a; intro b10 a w S)
       (revert S a; refine go 1 ?_; intro a S)
       (refine wso S rfl rfl ?_; clear S; intro w S)
       (revert S a; revert hZ Z; refine go 2 ?_; intro a S)
       (refine wp_seq_k ?_; intro Z hZ)
       (refine wpc_mixM [0, 1, 2, 3, 4, 5, 6, 7, 8, 9] [3, 5, 6] [] (.one 0 (.one 1 (.one 2 (.one 3 (.one 4 (.one 5 (.one 6 (.one 7 (.one 8 (.one 9 (.one 10 (.one 11 (.one 12 .nil))))))))))))) [b10, m2] S mixed (by kernel_rfl) ?_; clear S; intro w S)
       (revert S a; refine go 3 ?_; intro a S)
       (refine wlF S rfl (fun w' S => sv_loadF S rfl rfl hc2) ?_; clear S a; intro a S)
       (revert S a; refine go 2 ?_; intro a S)
       (refine wpm_lateO m2 S rfl rfl rfl (want_none _ rfl) rfl rfl (fun w' S => sv_lookupO (enc := kS) S rfl rfl rfl) ?_; clear S a; intro a S)
       (obtain ⟨zz, za, zb, zc, zd, hgd2, -, -, -, -⟩ := get_kc hm2 y.nm; rw [if_pos rfl, hgd2, hm2.mem y.nm] at S)
       (revert S a; refine go 4 ?_; intro a S)
       (refine wpl_alloc S rfl rfl rfl rfl ?_; clear S a; intro b11 a w S)
       (revert S a; refine go 2 ?_; intro a S)
       (refine wso S rfl rfl ?_; clear S; intro w S)
       (revert S a; revert hZ Z; refine go 6 ?_; intro a S)
       (refine wp_seq_k ?_; intro Z hZ)
       replace hZ : ∀ (a' : Act) (w' : World), (True ∧ St 133 [(0, ptr tb), (1, .slice (some ⟨bq, oq, none⟩) l.length cap), (6, ptr b6), (8, .bool ((b || decide (y.nm ∈ cl.map KC.nm)) || twiceD y.fs)), (9, .int .i64 j), (10, ptr b10), (18, .slice (some ⟨bq, oq, none⟩) l.length cap), (19, .int .i64 l.length), (20, .int .i64 i), (58, .slice (some ⟨bp, op, none⟩) x.cs.length cc), (59, .int .i64 x.cs.length), (60, .int .i64 j)] w0 F [m1, m2] F [[(b11, .cells ⟨[.string (bs zz.ty), .slice za zz.ps.length zb, .int .i64 zz.pl, .slice zc zz.fs.length zd]⟩ 199 (0, 0))], [(b10, .cells ⟨[.string (bs y.nm), .slice af y.fs.length cf]⟩ 93 (0, 0))], [(b7, .cells ⟨[.int .i64 yy.l, .int .i64 yy.c, .bool yy.pub, .string (bs yy.nm), .slice ya yy.ps.length yb, .slice yc yy.cs.length yd]⟩ 97 (0, 0))], [(b6, .cells ⟨[.int .i64 x.l, .int .i64 x.c, .bool x.pub, .string (bs x.nm), .slice ap x.ps.length cp, .slice (some ⟨bp, op, none⟩) x.cs.length cc]⟩ 97 (0, 0))], [(m1, mObj kS es1n)], [(m2, mObj kS es2)]] a' w') → Z a' w' := (by
        (intro a w hM; refine hZ _ _ ?_; clear hZ Z; clear S; obtain ⟨-, S⟩ := hM)
        (refine wpc_mixM [0, 1, 2, 3, 4, 5, 6, 7, 8, 9, 10, 11, 12, 13] [3, 5, 7, 9, 12] [] (.one 0 (.one 1 (.one 2 (.one 3 (.one 4 (.one 5 (.one 6 (.one 7 (.one 8 (.one 9 (.one 10 (.one 11 (.one 12 (.one 13 (.one 14 .nil))))))))))))))) [b10, b6] S mixed (by kernel_rfl) ?_; clear S; intro w S)
        (revert S a; refine go 3 ?_; intro a S)
        (refine wlF S rfl (fun w' S => sv_loadF S rfl rfl hc2) ?_; clear S a; intro a S)
        (revert S a; refine go 11 ?_; intro a S)
        (refine wpl_mapSet (enc := kS) S rfl rfl rfl rfl rfl rfl ?_; clear S; intro w S)
        (revert S a; revert hZ Z; refine go 3 ?_; intro a S)
        (replace S : St _ _ _ _ _ F [_, _, _, _, _, [(m2, mObj kS (mSet es2 y.nm (.agg ⟨[.string (bs x.nm), .slice ap x.ps.length cp, .int .i64 (j : Int), .slice af y.fs.length cf]⟩)))]] _ _ := S)
        (revert S a; refine go 4 ?_; intro a S)
        change ∃ m', _ ∧ _
        (rw [← hao2] at S; replace S := S.drop1.drop1; refine ⟨x.cs.length - (j + 1), by omega, j + 1, ((b || decide (y.nm ∈ cl.map KC.nm)) || twiceD y.fs), mSet es2 y.nm (.agg ⟨[.string (bs x.nm), .slice ap x.ps.length cp, .int .i64 (j : Int), .slice af y.fs.length cf]⟩), cl2, rfl, by omega, hmm2, ?_, ?_, ?_⟩; rotate_left 2; (refine S.keep ?_; exact zk); (intro h9; simp only [Bool.or_eq_false_iff, decide_eq_false_iff_not] at h9; rw [hcl2 h9.1.2, hcl h9.1.1, htj, consFrom_app, List.length_take, Nat.min_eq_left hjl, Nat.zero_add, List.append_assoc]); (rw [hcb, drop_at hy, consBad_cons, htj, List.map_append]; rcases Bool.eq_false_or_eq_true b with hb0 | hb0; (rw [hb0]; simp); (have h9 := hcl hb0; rw [h9, List.map_append, consOf_nm, consFrom_nm, hb0]; simp [Bool.or_assoc]))))
       (revert S a; refine go 3 ?_; intro a S)
       refine wgd S ?_ ?_
       · (clear S; intro h S)
         (revert S a; refine go 3 ?_; intro a S)
         refine wgd S ?_ ?_
         · (clear S; intro h S)
           (revert S a; refine go 4 ?_; intro a S)
           (refine wc0 S (twiceCt F y.fs _ hfs hysz.2) ?_; clear S a; intro v9 a w hv S; subst hv)
           (revert S a; refine go 3 ?_; intro a S)
           (refine hZ _ _ ?_)
           exact zzDeO0
         (clear S a; intro h a S)
         (revert S a; refine go 5 ?_; intro a S)
         (refine hZ _ _ ?_)
         exact zzDeO0
       (clear S a; intro h a S)
       (revert S a; refine go 8 ?_; intro a S)
       (refine hZ _ _ ?_)
       exact zzDeO0
     (refine wp_exit ?_; conv => whnf)
     clear hZ Z
     (revert S a; revert hZ Z; refine go 5 ?_; intro a S)
     refine wpc_sp S rfl ?_ ?_ <;> intro h
     · (revert S a; refine go 8 ?_; intro a S)
       refine wp_ret ?_
       (first | (have h9 := hy; replace S := S.drop1) | skip)
       refine fin_ret S (results1 Tryz.results95 (RV.tmp S rfl)) ?_
       exact zzDeO1
     (revert S a; revert hZ Z; refine go 6 ?_; intro a S)
     change ∃ m', _ ∧ _
     (have hb9 : b = false := (by assumption); subst hb9; rw [← hao] at S; replace S := S.drop1.drop1; have hjj : j = x.cs.length := (by omega); rw [List.drop_eq_nil_of_le (by omega), show consBad (cnames (l.take i) ++ (x.cs.take j).map CD.nm) [] = false from rfl] at hcb; have hnb : badT ((l.take i).map TD.nm) x = false ∧ consBad (cnames (l.take i)) x.cs = false := (by simpa using hcb); have hxn : x.nm ∉ (l.take i).map TD.nm := (by have h9 := hnb.1; unfold badT at h9; simp only [Bool.or_eq_false_iff, decide_eq_false_iff_not] at h9; exact h9.1.1.1); have e1 := hl1 hxn; have e2 := hcl rfl; rw [List.take_of_length_le (l := x.cs) (i := j) (by omega)] at e2; refine ⟨l.length - (i + 1), by omega, i + 1, _, _, rfl, by omega, (by rw [htk, ← e1]; exact hmm1), (by rw [htk, consOf_app, ← e2]; exact hm2), (by rw [hdu, drop_at hx, dupE_cons, hnb.1, hnb.2, htk, List.map_append, cnames_app]; rfl), ?_⟩; refine S.keep ?_; exact zk))
    (revert S a; refine go 3 ?_; intro a S)
    refine wgd S ?_ ?_
    · (clear S; intro h S)
      (revert S a; refine go 4 ?_; intro a S)
      (refine wc0 S (plainCt F x.nm) ?_; clear S a; intro v a w hv S; subst hv)
      (revert S a; refine go 2 ?_; intro a S)
      refine wgd S ?_ ?_
      · (clear S; intro h S)
        (revert S a; refine go 7 ?_; intro a S)
        refine wgd S ?_ ?_
        · (clear S; intro h S)
          (revert S a; refine go 4 ?_; intro a S)
          (refine wc0 S (paramCt F x.nm) ?_; clear S a; intro v a w hv S; subst hv)
          (revert S a; refine go 3 ?_; intro a S)
          (refine hZ _ _ ?_)
          exact zzDeO2
        (clear S a; intro h a S)
        (revert S a; refine go 5 ?_; intro a S)
        (refine hZ _ _ ?_)
        exact zzDeO2
      (clear S a; intro h a S)
      (revert S a; refine go 10 ?_; intro a S)
      (refine hZ _ _ ?_)
      exact zzDeO2
    (clear S a; intro h a S)
    (revert S a; refine go 15 ?_; intro a S)
    (refine hZ _ _ ?_)
    exact zzDeO2
  (refine wp_exit ?_; conv => whnf)
  clear hZ Z
  (revert S a; revert hZ Z; refine go 2 ?_; intro Z hZ a S)
  (refine wp_seq_k ?_; intro Z hZ)
  (have hii : i = l.length := (by omega); rw [List.take_of_length_le (by omega)] at hm1 hm2; have hdf : dupE [] [] l = false := (by rw [hdu, List.drop_eq_nil_of_le (by omega)]; rfl); have hle1 := add_le (G1 := []) S; replace S := St.freeze (G1 := []) S; (try simp only [List.nil_append] at S hle1); have hM1 : (F.add [(m1, mObj kS es1)]) m1 = some (mObj kS es1) := Heap.add_new (p := (m1, _)) (List.mem_singleton.2 rfl) (by simp); generalize (F.add [(m1, mObj kS es1)]) = F1 at S hle1 hM1; have hle2 := add_le (G1 := []) S; replace S := St.freeze (G1 := []) S; (try simp only [List.nil_append] at S hle2); have hM2 : (F1.add [(m2, mObj kS es2)]) m2 = some (mObj kS es2) := Heap.add_new (p := (m2, _)) (List.mem_singleton.2 rfl) (by simp); generalize (F1.add [(m2, mObj kS es2)]) = F2 at S hle2 hM2; have hF2 : ∀ b o, F b = some o → F2 b = some o := (fun b o h => hle2 _ _ (hle1 _ _ h)); have hMS1 : MapS F2 TdR TD.nm m1 l := ⟨es1, hle2 _ _ hM1, hm1.mono hF2⟩; have hMS2 : MapS F2 KcR KC.nm m2 (consOf l) := ⟨es2, hM2, hm2.mono hF2⟩; have hTy : TyS F2 tb m1 l := ⟨hc1.mono hF2, hMS1⟩; skip)
  (revert S a; revert hZ Z; refine go 7 ?_; intro a S)
  refine wpc_loop (fun m a w' => ∃ (i : Nat) (F3 : Heap), m = l.length - i ∧ i ≤ l.length ∧ (∀ b o, F2 b = some o → F3 b = some o) ∧ typesFE l l = typesFE l (l.drop i) ∧ St 133 [(0, ptr tb), (1, .slice ao l.length cap), (105, .slice ao l.length cap), (106, .int .i64 l.length), (107, .int .i64 i)] w0 F [m1, m2] F3 [] a w') ?_ ?_
  · (refine ⟨l.length, 0, F2, by omega, Nat.zero_le _, fun _ _ h => h, rfl, ?_⟩; refine S.keep ?_; exact zk)
  (clear S; rintro m a w ⟨i, F3, rfl, hil, hF3, htf, S⟩)
  (revert S a; refine go 5 ?_; intro Z hZ a S)
  refine wpc_sp S rfl ?_ ?_ <;> intro h
  · (revert S a; revert hZ Z; refine go 4 ?_; intro Z hZ a S)
    (refine wp_seq_k ?_; intro Z hZ)
    (obtain ⟨bq, oq, hao, x, cs1, hx, hd1, ⟨w1, w2, rfl, hps, hcs⟩⟩ := LiM.pos hpos (k := i) (by omega); rw [hao] at S; have hF23 : ∀ b o, F b = some o → F3 b = some o := (fun b o h => hF3 _ _ (hF2 _ _ h)); replace hd1 := Cels.mono hF23 hd1; replace hps := hps.mono hF23; replace hcs := hcs.mono hF23; have hpsc := hps; have hcsc := hcs; obtain ⟨ap, cp, rfl, -, -⟩ := hpsc; obtain ⟨ac, cc, rfl, hcc9, hposc⟩ := hcsc; have hxsz := hsz x (List.mem_of_getElem? hx))
    (revert S a; refine go 3 ?_; intro a S)
    (refine wpl_alloc S rfl rfl rfl rfl ?_; clear S a; intro b14 a w S)
    (refine wso S rfl rfl ?_; clear S; intro w S)
    (revert S a; revert hZ Z; refine go 2 ?_; intro a S)
    (refine wp_seq_k ?_; intro Z hZ)
    (replace S : St _ _ _ _ _ F3 [[(b14, .cells ⟨[.int .i64 x.l, .int .i64 x.c, .bool x.pub, .string (bs x.nm), .slice ap x.ps.length cp, .slice ac x.cs.length cc]⟩ 97 (0, 0))]] _ _ := S; have hF4 := add_le (G1 := []) S; replace S := St.freeze (G1 := []) S; (try simp only [List.nil_append] at S hF4); have hb14 : Cels (F3.add [(b14, .cells ⟨[.int .i64 x.l, .int .i64 x.c, .bool x.pub, .string (bs x.nm), .slice ap x.ps.length cp, .slice ac x.cs.length cc]⟩ 97 (0, 0))]) b14 0 [.int .i64 x.l, .int .i64 x.c, .bool x.pub, .string (bs x.nm), .slice ap x.ps.length cp, .slice ac x.cs.length cc] := (fun j u hj => ⟨_, _, _, Heap.add_new (p := (b14, _)) (List.mem_singleton.2 rfl) (by simp), by simpa using hj⟩); generalize (F3.add [(b14, .cells ⟨[.int .i64 x.l, .int .i64 x.c, .bool x.pub, .string (bs x.nm), .slice ap x.ps.length cp, .slice ac x.cs.length cc]⟩ 97 (0, 0))]) = F4 at S hF4 hb14; have hmay := typed1Ct F4 b14 x ap cp (hb14 4 _ rfl) (hps.mono hF4); have hc5 : Cel F4 b14 5 (.slice ac x.cs.length cc) := hb14 5 _ rfl; have hp45 : Cels F4 b14 0 [.int .i64 x.l, .int .i64 x.c] := hb14.take 2)
    (revert S a; refine go 2 ?_; intro a S)
    (refine wv S (sv_loadF S rfl rfl hc5) ?_; clear S a; intro a S)
    (revert S a; revert hZ Z; refine go 5 ?_; intro a S)
    refine wpc_loop (fun m a w' => ∃ (j : Nat), m = x.cs.length - j ∧ j ≤ x.cs.length ∧ consFE l x.ps x.cs = consFE l x.ps (x.cs.drop j) ∧ St 133 [(0, ptr tb), (1, .slice (some ⟨bq, oq, none⟩) l.length cap), (14, ptr b14), (105, .slice (some ⟨bq, oq, none⟩) l.length cap), (106, .int .i64 l.length), (107, .int .i64 i), (112, .slice ac x.cs.length cc), (113, .int .i64 x.cs.length), (114, .int .i64 j)] w0 F [m1, m2] F4 [] a w') ?_ ?_
    · (refine ⟨x.cs.length, 0, by omega, Nat.zero_le _, rfl, ?_⟩; refine S.keep ?_; exact zk)
    (clear S; rintro m a w ⟨j, rfl, hjl, hce, S⟩)
    (revert S a; refine go 5 ?_; intro Z hZ a S)
    refine wpc_sp S rfl ?_ ?_ <;> intro h
    · (revert S a; revert hZ Z; refine go 4 ?_; intro Z hZ a S)
      (refine wp_seq_k ?_; intro Z hZ)
      (obtain ⟨bp, op, hao2, y, cs2, hy, he1, ⟨w3, rfl, hfs⟩⟩ := LiM.pos hposc (k := j) (by omega); rw [hao2] at S; replace he1 := Cels.mono hF4 he1; replace hfs := hfs.mono hF4; have hfsc := hfs; obtain ⟨af, cf, rfl, -, -⟩ := hfsc; have hysz := hxsz.2.2 y (List.mem_of_getElem? hy))
      (revert S a; refine go 3 ?_; intro a S)
      (refine wpl_alloc S rfl rfl rfl rfl ?_; clear S a; intro b16 a w S)
      (refine wso S rfl rfl ?_; clear S; intro w S)
      (revert S a; revert hZ Z; refine go 7 ?_; intro Z hZ a S)
      (refine wv S (sv_loadAF S rfl rfl hp45 (by rfl)) ?_; clear S a; intro a S)
      (revert S a; refine go 1 ?_; intro a S)
      (refine wc0 S (fieldsCt F4 tb m1 l (hTy.mono (fun b o h => hF4 _ _ (hF3 _ _ h))) y.fs _ hfs hysz.1 x.l x.c (fun s => decide (s ∈ x.ps)) 140 [] [.pointer (some ⟨b14, 0, none⟩)] hmay) ?_; clear S a; intro v9 a w hv S)
      (revert S a; revert hZ Z; refine go 5 ?_; intro Z hZ a S)
      (refine wv S (sv_neErr S rfl rfl hv) ?_; clear S a; intro a S)
      (revert S a; revert hZ Z; refine go 2 ?_; intro a S)
      refine wpc_sp S rfl ?_ ?_ <;> intro h
      · (revert S a; refine go 5 ?_; intro a S)
        refine wp_ret ?_
        (first | (have h9 := hy; replace S := S.drop1) | skip)
        refine fin_ret S (results1 Tryz.results95 (RV.tmp S rfl)) ?_
        exact zzDeO1
      (revert S a; revert hZ Z; refine go 6 ?_; intro a S)
      change ∃ m', _ ∧ _
      (have hz : fieldsE l (fun s => decide (s ∈ x.ps)) y.fs = 0 := (by first | assumption | omega | (simp_all; done)); rw [← hao2] at S; replace S := S.drop1; refine ⟨x.cs.length - (j + 1), by omega, j + 1, rfl, by omega, (by rw [hce, drop_at hy, consFE_cons, if_neg (fun h => h hz)]), ?_⟩; refine S.keep ?_; exact zk)
    (refine wp_exit ?_; conv => whnf)
    clear hZ Z
    (revert S a; revert hZ Z; refine go 5 ?_; intro a S)
    change ∃ m', _ ∧ _
    (have hz : consFE l x.ps x.cs = 0 := (by rw [hce, List.drop_eq_nil_of_le (by omega)]; rfl); rw [← hao] at S; refine ⟨l.length - (i + 1), by omega, i + 1, F4, rfl, by omega, fun b o h => hF4 _ _ (hF3 _ _ h), (by rw [htf, drop_at hx, typesFE_cons, if_neg (fun h => h hz)]), ?_⟩; refine S.keep ?_; exact zk)
  (refine wp_exit ?_; conv => whnf)
  clear hZ Z
  (revert S a; revert hZ Z; refine go 4 ?_; intro Z hZ a S)
  (refine wc0 S (fullCt F3 _ l _ ((hl0.mono hF2).mono hF3)) ?_; clear S a; intro v9 a w hv S)
  (revert S a; revert hZ Z; refine go 3 ?_; intro a S)
  refine wp_ret ?_
  (first | (have h9 := hy; replace S := S.drop1) | skip)
  refine fin_ret S (results1 Tryz.results95 (RV.tmp S rfl)) ?_
  exact zzDeO1
theorem rulesE_cons (css : List KC) (rs : List RD) (x : RU) (r : List RU) : rulesE css rs (x :: r) = if ruleE css rs x ≠ 0 then ruleE css rs x else rulesE css rs r := rfl
theorem neversE_cons (css : List KC) (rs : List RD) (x : NV) (r : List NV) : neversE css rs (x :: r) = if bodyE css rs x.body ≠ 0 then bodyE css rs x.body else neversE css rs r := rfl
def RSz (l : List RD) : Prop := ∀ x ∈ l, FSz x.fs ∧ x.fs.length ≤ 1000000
theorem zzDeQ0 {p : Prop} (h : p := by (first | (have h9 := hfe2; have hzr : rulesE (consOf M.ts) M.rs M.ru = 0 := (by rw [hfe, List.drop_eq_nil_of_le (by omega)]; rfl); first | (have hne : bodyE (consOf M.ts) M.rs x.body ≠ 0 := (by first | assumption | simpa using h); have e1 : neversE (consOf M.ts) M.rs M.nv = bodyE (consOf M.ts) M.rs x.body := (by rw [hfe2, drop_at hx, neversE_cons, if_pos hne]); have e9 : takeE M = bodyE (consOf M.ts) M.rs x.body := (by unfold takeE; rw [if_neg (fun h => h hz1), if_neg (fun h => h hz2), if_neg (fun h => h hzr), e1]); rw [e9]; exact ⟨hv9, fun h9 => absurd h9 hne⟩) | (have e1 : neversE (consOf M.ts) M.rs M.nv = 0 := (by rw [hfe2, List.drop_eq_nil_of_le (by omega)]; rfl); have e9 : takeE M = 0 := (by unfold takeE; rw [if_neg (fun h => h hz1), if_neg (fun h => h hz2), if_neg (fun h => h hzr), e1]); rw [e9]; exact ⟨errV_0, fun _ => hT⟩)) | (have h9 := hfe; have hne : ruleE (consOf M.ts) M.rs x ≠ 0 := (by first | assumption | simpa using h); have e1 : rulesE (consOf M.ts) M.rs M.ru = ruleE (consOf M.ts) M.rs x := (by rw [hfe, drop_at hx, rulesE_cons, if_pos hne]); have e9 : takeE M = ruleE (consOf M.ts) M.rs x := (by unfold takeE; rw [if_neg (fun h => h hz1), if_neg (fun h => h hz2), if_pos (by rw [e1]; exact hne), e1]); rw [e9]; exact ⟨hv9, fun h9 => absurd h9 hne⟩) | (have h9 := hTy; have hne : relatedE M.ts [] M.rs ≠ 0 := (by first | assumption | simpa using h); have e9 : takeE M = relatedE M.ts [] M.rs := (by unfold takeE; rw [if_neg (fun h => h hz1), if_pos hne]); rw [e9]; exact ⟨hv2.1, fun h9 => absurd h9 hne⟩) | (have hne : typedE M.ts ≠ 0 := (by first | assumption | simpa using h); have e9 : takeE M = typedE M.ts := (by unfold takeE; rw [if_pos hne]); rw [e9]; exact ⟨hv.1, fun h9 => absurd h9 hne⟩) | trace_state)) : p := h
theorem takeCt (F : Heap) (tb m1 m2 m3 : Nat) (hcc : Cels F tb 0 [.map (some m1), .map (some m2), .map (some m3)]) (M : MD) (cs : List Value) (h : MdR F M cs) (hts : TSz M.ts) (hrs : RSz M.rs) :
  Ct Tryz.prog 51 [.pointer (some ⟨tb, 0, none⟩), .agg ⟨cs⟩] F [[(m1, mObj kS [])], [(m2, mObj kS [])], [(m3, mObj kS [])]] (fun F' G' u => ErrV (takeE M) u ∧ (takeE M = 0 → TabS F' tb m1 m2 m3 M.ts (consOf M.ts) M.rs)) := by
 obtain ⟨i1, i2, i3, v1, v2, v3, v4, rfl, h1, h2, h3, h4⟩ := h
 have h1c := h1
 obtain ⟨ao1, cap1, rfl, -, -⟩ := h1c
 have h2c := h2
 obtain ⟨ao2, cap2, rfl, -, -⟩ := h2c
 obtain ⟨ao3, cap3, rfl, hcap3, hpos3⟩ := h3
 obtain ⟨ao4, cap4, rfl, hcap4, hpos4⟩ := h4
 have hc3 : Cel F tb 2 (.map (some m3)) := hcc 2 _ rfl
 refine Ct.enter Tryz.func51 rfl Tryz.ntmps51 rfl fun w0 a S => ?_
 refine wp_sr fun Z hZ => ?_
 (refine wbx S ?_; clear S a; intro b3 a w S)
 (revert S a; revert hZ Z; refine go 8 ?_; intro Z hZ Z hZ a S)
 (refine wpl_call (Gs := [[(m1, mObj kS [])], [(m2, mObj kS [])]]) (Gr := [[(m3, mObj kS [])], [(b3, _)]]) S rfl rfl rfl rfl rfl rfl (typedCt F tb m1 m2 m3 hcc M.ts _ h1 hts) rfl (by exact List.perm_append_comm (l₁ := [_]) (l₂ := [_, _, _])) ?_; clear S a; intro u9 F1 G1 a w hv hF1 S; replace S : St _ _ _ _ _ F1 ([(m3, mObj kS [])] :: [(b3, _)] :: G1) _ _ := St.rotG S)
 (revert S a; revert hZ Z; refine go 5 ?_; intro Z hZ a S)
 (refine wv S (sv_neErr S rfl rfl hv.1) ?_; clear S a; intro a S)
 (revert S a; revert hZ Z; refine go 2 ?_; intro a S)
 refine wpc_sp S rfl ?_ ?_ <;> intro h
 ·(revert S a; refine go 5 ?_; intro a S)
  refine wp_ret (fr1 S Tryz.results51 ?_)
  exact zzDeQ0
 (revert S a; revert hZ Z; refine go 3 ?_; intro Z hZ a S)
 (refine wp_seq_k ?_; intro Z hZ)
 (have hz1 : typedE M.ts = 0 := (by first | assumption | simpa using h); obtain ⟨rfl, hM1, hM2⟩ := hv.2 hz1; have hTy : TyS F1 tb m1 M.ts := ⟨(hcc 0 _ rfl : Cel F tb 0 _).mono hF1, hM1⟩)
 (revert S a; refine go 4 ?_; intro a S)
 (refine wpl_call (Gs := [[(m3, mObj kS [])]]) (Gr := [[(b3, _)]]) S rfl rfl rfl rfl rfl rfl (relatedCt F1 tb m1 m3 M.ts hTy (hc3.mono hF1) M.rs _ (h2.mono hF1) hrs) rfl (by exact List.Perm.refl _) ?_; clear S a; intro u8 F2 G2 a w hv2 hF2 S; replace S : St _ _ _ _ _ F2 ([(b3, _)] :: G2) _ _ := St.rotG S)
 (revert S a; revert hZ Z; refine go 5 ?_; intro Z hZ a S)
 (refine wv S (sv_neErr S rfl rfl hv2.1) ?_; clear S a; intro a S)
 (revert S a; revert hZ Z; refine go 2 ?_; intro a S)
 refine wpc_sp S rfl ?_ ?_ <;> intro h
 ·(revert S a; refine go 5 ?_; intro a S)
  refine wp_ret (fr1 S Tryz.results51 ?_)
  exact zzDeQ0
 (revert S a; revert hZ Z; refine go 3 ?_; intro Z hZ a S)
 (refine wp_seq_k ?_; intro Z hZ)
 (have hz2 : relatedE M.ts [] M.rs = 0 := (by first | assumption | simpa using h); obtain ⟨es3, rfl, hM3⟩ := hv2.2 hz2; replace S : St _ _ _ _ _ F2 [[(m3, mObj kS es3)], [(b3, .cells ⟨[.string (bs M.nm), .slice i1 i2 i3, .slice ao1 M.ts.length cap1, .slice ao2 M.rs.length cap2, .slice ao3 M.ru.length cap3, .slice ao4 M.nv.length cap4]⟩ 28 (0, 0))]] _ _ := St.permI S 2 rfl [1, 0] (by decide); have hle3 := add_le (G1 := []) S; replace S := St.freeze (G1 := []) S; (try simp only [List.nil_append] at S hle3); have hm3 : (F2.add [(m3, mObj kS es3)]) m3 = some (mObj kS es3) := Heap.add_new (p := (m3, _)) (List.mem_singleton.2 rfl) (by simp); generalize (F2.add [(m3, mObj kS es3)]) = F3 at S hle3 hm3; have hF13 : ∀ b o, F1 b = some o → F3 b = some o := (fun b o h => hle3 _ _ (hF2 _ _ h)); have hF03 : ∀ b o, F b = some o → F3 b = some o := (fun b o h => hF13 _ _ (hF1 _ _ h)); have hT : TabS F3 tb m1 m2 m3 M.ts (consOf M.ts) M.rs := ⟨Cels.mono hF03 hcc, hM1.mono hF13, hM2.mono hF13, ⟨es3, hm3, hM3.mono hF13⟩⟩)
 (revert S a; revert hZ Z; refine go 8 ?_; intro a S)
 refine wpc_loop (fun m a w' => ∃ (k : Nat), m = M.ru.length - k ∧ k ≤ M.ru.length ∧ rulesE (consOf M.ts) M.rs M.ru = rulesE (consOf M.ts) M.rs (M.ru.drop k) ∧ St 56 [(0, ptr tb), (3, ptr b3), (28, .slice ao3 M.ru.length cap3), (29, .int .i64 M.ru.length), (30, .int .i64 k)] w0 F [m1, m2, m3] F3 [[(b3, .cells ⟨[.string (bs M.nm), .slice i1 i2 i3, .slice ao1 M.ts.length cap1, .slice ao2 M.rs.length cap2, .slice ao3 M.ru.length cap3, .slice ao4 M.nv.length cap4]⟩ 28 (0, 0))]] a w') ?_ ?_
 ·(refine ⟨M.ru.length, 0, by omega, Nat.zero_le _, rfl, ?_⟩; refine S.keep ?_; exact zk)
 (clear S; rintro m a w ⟨k, rfl, hkl, hfe, S⟩)
 (revert S a; refine go 5 ?_; intro Z hZ a S)
 refine wpc_sp S rfl ?_ ?_ <;> intro h
 ·(revert S a; revert hZ Z; refine go 4 ?_; intro Z hZ a S)
  (refine wp_seq_k ?_; intro Z hZ)
  (obtain ⟨bq, oq, hao, x, cs1, hx, hd1, ⟨w1, w2, w3, rfl, hx1, hx2, hx3⟩⟩ := LiM.pos hpos3 (k := k) (by omega); rw [hao] at S; replace hd1 := Cels.mono hF03 hd1; replace hx1 := hx1.mono hF03; replace hx2 := hx2.mono hF03; replace hx3 := hx3.mono hF03; have y1 := hx1; have y2 := hx2; have y3 := hx3; obtain ⟨p1, q1, rfl, -, -⟩ := y1; obtain ⟨p2, q2, rfl, -, -⟩ := y2; obtain ⟨p3, q3, rfl, -, -⟩ := y3)
  (revert S a; refine go 3 ?_; intro a S)
  (refine wpl_alloc S rfl rfl rfl rfl ?_; clear S a; intro b8 a w S)
  (refine wso S rfl rfl ?_; clear S; intro w S)
  (revert S a; revert hZ Z; refine go 5 ?_; intro Z hZ a S)
  (refine wc0 S (ruleCt F3 tb m1 m2 m3 M.ts (consOf M.ts) M.rs hT x _ ⟨_, _, _, rfl, hx1, hx2, hx3⟩) ?_; clear S a; intro v9 a w hv9 S)
  (revert S a; revert hZ Z; refine go 5 ?_; intro Z hZ a S)
  (refine wv S (sv_neErr S rfl rfl hv9) ?_; clear S a; intro a S)
  (revert S a; revert hZ Z; refine go 2 ?_; intro a S)
  refine wpc_sp S rfl ?_ ?_ <;> intro h
  ·(revert S a; refine go 5 ?_; intro a S)
   refine wp_ret (fr1 S Tryz.results51 ?_)
   exact zzDeQ0
  (revert S a; revert hZ Z; refine go 6 ?_; intro a S)
  change ∃ m', _ ∧ _
  (have hz : ruleE (consOf M.ts) M.rs x = 0 := (by first | assumption | (simp_all; done)); rw [← hao] at S; replace S := S.drop1; refine ⟨M.ru.length - (k + 1), by omega, k + 1, rfl, by omega, (by rw [hfe, drop_at hx, rulesE_cons, if_neg (fun h => h hz)]), ?_⟩; refine S.keep ?_; exact zk)
 (refine wp_exit ?_; conv => whnf)
 clear hZ Z
 (revert S a; revert hZ Z; refine go 10 ?_; intro Z hZ a S)
 refine wpc_loop (fun m a w' => ∃ (k : Nat), m = M.nv.length - k ∧ k ≤ M.nv.length ∧ neversE (consOf M.ts) M.rs M.nv = neversE (consOf M.ts) M.rs (M.nv.drop k) ∧ St 56 [(0, ptr tb), (42, .slice ao4 M.nv.length cap4), (43, .int .i64 M.nv.length), (44, .int .i64 k)] w0 F [m1, m2, m3] F3 [] a w') ?_ ?_
 ·(have hzr : rulesE (consOf M.ts) M.rs M.ru = 0 := (by rw [hfe, List.drop_eq_nil_of_le (by omega)]; rfl); replace S := S.drop1; refine ⟨M.nv.length, 0, by omega, Nat.zero_le _, rfl, ?_⟩; refine S.keep ?_; exact zk)
 (clear S; rintro m a w ⟨k2, rfl, hkl2, hfe2, S⟩)
 (revert S a; refine go 5 ?_; intro Z hZ a S)
 refine wpc_sp S rfl ?_ ?_ <;> intro h
 ·(revert S a; revert hZ Z; refine go 4 ?_; intro Z hZ a S)
  (refine wp_seq_k ?_; intro Z hZ)
  (obtain ⟨bq, oq, hao, x, cs1, hx, hd1, ⟨w3, rfl, hx3⟩⟩ := LiM.pos hpos4 (k := k2) (by omega); rw [hao] at S; replace hd1 := Cels.mono hF03 hd1; replace hx3 := hx3.mono hF03; have y3 := hx3; obtain ⟨p3, q3, rfl, -, -⟩ := y3)
  (revert S a; refine go 3 ?_; intro a S)
  (refine wpl_alloc S rfl rfl rfl rfl ?_; clear S a; intro b11 a w S)
  (refine wso S rfl rfl ?_; clear S; intro w S)
  (revert S a; revert hZ Z; refine go 6 ?_; intro Z hZ a S)
  (refine wc0 S (bodyCt F3 tb m1 m2 m3 M.ts (consOf M.ts) M.rs hT x.body _ hx3) ?_; clear S a; intro v9 a w hv9 S)
  (revert S a; revert hZ Z; refine go 5 ?_; intro Z hZ a S)
  (refine wv S (sv_neErr S rfl rfl hv9) ?_; clear S a; intro a S)
  (revert S a; revert hZ Z; refine go 2 ?_; intro a S)
  refine wpc_sp S rfl ?_ ?_ <;> intro h
  ·(revert S a; refine go 5 ?_; intro a S)
   refine wp_ret (fr1 S Tryz.results51 ?_)
   exact zzDeQ0
  (revert S a; revert hZ Z; refine go 6 ?_; intro a S)
  change ∃ m', _ ∧ _
  (have hz : bodyE (consOf M.ts) M.rs x.body = 0 := (by first | assumption | (simp_all; done)); rw [← hao] at S; replace S := S.drop1; refine ⟨M.nv.length - (k2 + 1), by omega, k2 + 1, rfl, by omega, (by rw [hfe2, drop_at hx, neversE_cons, if_neg (fun h => h hz)]), ?_⟩; refine S.keep ?_; exact zk)
 (refine wp_exit ?_; conv => whnf)
 clear hZ Z
 (revert S a; revert hZ Z; refine go 5 ?_; intro a S)
 refine wp_ret (fr1 S Tryz.results51 ?_)
 exact zzDeQ0
end Go.Proofs.YtgefmjghdijbfaaGreatDoor
