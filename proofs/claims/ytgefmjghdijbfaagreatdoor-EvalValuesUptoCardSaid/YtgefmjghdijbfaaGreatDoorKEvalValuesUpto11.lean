/- Walks. -/
import Derived.Test.YtgefmjghdijbfaaGreatDoorKEvalValuesUpto10
import Derived.Test.YtgefmjghdijbfaaGreatDoorQ19
import Derived.Test.YtgefmjghdijbfaaGreatDoorQ03
import Derived.Test.YtgefmjghdijbfaaGreatDoorKEvalValuesUpto01
import Derived.Test.YtgefmjghdijbfaaGreatDoorKEvalValuesUpto06
set_option maxHeartbeats 64000000
set_option maxRecDepth 20000
namespace Go.Proofs.YtgefmjghdijbfaaGreatDoor
open Go Go.Wk Go.Un Go.De Go.Cv
set_option linter.unusedSimpArgs false
set_option linter.unusedVariables false
attribute [local irreducible] Go.wpList Go.Code.wp Go.wpStill Go.Wk.wpPre Go.bodyPost Go.Calls Go.Wk.Ct Go.Wk.OwnS Go.Wk.wpG Go.Wk.wpM
theorem rFullCt (F : Heap) (tp : Nat) (ts : List TD) (hT : RTab F tp ts) (htl : ts.length ≤ 2000000) :
  Ct Tryz.prog 105 [.pointer (some ⟨tp, 0, none⟩)] F [] (fun _ G' u => ∃ g, G' = [g] ∧ OwnS 9 1 u (fullR ts).length (strs (fullR ts)) g ∧ (fullR ts).length ≤ ts.length) := by
 obtain ⟨ao, cap, hc2, hL⟩ := id hT
 refine Ct.enter Tryz.func105 rfl Tryz.ntmps105 rfl fun w0 a S => ?_
 (revert S a; refine go 14 ?_; intro Z hZ a S)
 refine wpc_loop (fun m a w' => ∃ (i : Nat) (ks : List (List UInt8)) (v : Value) (g : Grp) (F5 : Heap), m = ts.length + 1 - i ∧ i ≤ ts.length + 1 ∧ (∀ b o, F b = some o → F5 b = some o) ∧ ks = roundR ts i [] ∧ ks.length ≤ ts.length ∧ OwnS 9 1 v ks.length (strs ks) g ∧ St 19 [(0, ptr tp), (3, v), (4, .int .i64 i)] w0 F [] F5 [g] a w') ?_ ?_
 ·(replace S := S.nilg; refine ⟨ts.length + 1, 0, [], .slice none 0 0, [], F, by omega, Nat.zero_le _, fun _ _ h => h, rfl, Nat.zero_le _, OwnS.nil _ _, ?_⟩; refine S.keep ?_; exact zk)
 (clear S; rintro m a w ⟨i, ks, v, g, F5, rfl, hil, hF5, hks, hkl, hown, S⟩; have hc25 := hc2.mono hF5)
 (revert S a; refine go 7 ?_; intro Z hZ Z hZ a S)
 first | (refine wv S (sv_loadO S rfl rfl (by rfl)) ?_; clear S a; intro a S) | (refine wv S (sv_loadF S rfl rfl (by assumption)) ?_; clear S a; intro a S) | (refine wv S (sv_loadF S rfl rfl hc25) ?_; clear S a; intro a S)
 (revert S a; revert hZ Z; refine go 4 ?_; intro a S)
 refine wpc_sp S rfl ?_ ?_ <;> intro h
 ·(revert S a; revert hZ Z; refine go 7 ?_; intro Z hZ a S)
  (have hle5 := add_le (G1 := []) S; replace S := St.freeze (G1 := []) S; (simp only [List.nil_append] at S hle5); refine wpl_callNew S rfl rfl rfl rfl rfl rfl (rstepCt (F5.add g) tp ts (hT.mono (fun b o h => hle5 _ _ (hF5 _ _ h))) htl ks v (hown.slC F5) (by omega)) rfl ?_; clear S a; intro v17 G9 a w hv S; obtain ⟨g9, rfl, hown9⟩ := hv; (simp only [List.singleton_append] at S))
  (revert S a; revert hZ Z; refine go 8 ?_; intro a S)
  change ∃ m', _ ∧ _
  (refine ⟨ts.length + 1 - (i + 1), by omega, i + 1, stepR ts ks, v17, g9, F5.add g, rfl, by omega, fun b o h => hle5 _ _ (hF5 _ _ h), by rw [roundR_succ, hks], stepR_len ts ks, hown9, ?_⟩; refine S.keep ?_; exact zk)
 (refine wp_exit ?_; conv => whnf)
 clear hZ Z
 (revert S a; revert hZ Z; refine go 6 ?_; intro a S)
 refine wp_ret (fr1 S Tryz.results105 ?_)
 (have e9 : i = ts.length + 1 := (by omega); subst e9; rw [show ks = fullR ts from hks] at hown hkl; exact ⟨_, rfl, hown, hkl⟩)
def TyRQ (e : Int) (u : Value) : Prop := ∃ l c : Int, u = .tuple ⟨[.agg ⟨[.int .i64 l, .int .i64 c]⟩, .int .i64 e]⟩
theorem swapG {n : Sz} {L : List (Nat × Value)} {w0 : World} {F0 : Heap} {K0 : List Nat} {F : Heap} {a : Act} {w : World} {A B : Grp} {R : List Grp} (S : St n L w0 F0 K0 F (A :: B :: R) a w) : St n L w0 F0 K0 F (B :: A :: R) a w :=
 ⟨S.fr, S.tr.perm (by simp only [List.flatten_cons]; exact List.perm_append_comm_assoc _ _ _)⟩
theorem permOne {A : Grp} {R : List Grp} : (A :: R).flatten.Perm ([A].flatten ++ R.flatten) := by simp
theorem permMid2 {A B : Grp} {R : List Grp} : (A :: B :: R).flatten.Perm ([B].flatten ++ (A :: R).flatten) := by
 simp only [List.flatten_cons, List.flatten_nil, List.append_nil]
 exact List.perm_append_comm_assoc _ _ _
theorem dup_at {tn cn : List (List UInt8)} {ts : List TD} {i : Nat} {x : TD} (hx : ts[i]? = some x) : dupE tn cn (ts.drop i) = ((badT tn x || consBad cn x.cs) || dupE (tn ++ [x.nm]) (cn ++ x.cs.map CD.nm) (ts.drop (i + 1))) := by
 obtain ⟨h1, h2⟩ := List.getElem?_eq_some_iff.1 hx
 rw [List.drop_eq_getElem_cons h1, h2]; rfl
theorem bad_at {cn : List (List UInt8)} {l : List CD} {k : Nat} {c : CD} (hx : l[k]? = some c) : consBad cn (l.drop k) = ((decide (c.nm ∈ cn) || twiceD c.fs) || consBad (cn ++ [c.nm]) (l.drop (k + 1))) := by
 obtain ⟨h1, h2⟩ := List.getElem?_eq_some_iff.1 hx
 rw [List.drop_eq_getElem_cons h1, h2]; rfl
theorem typesFE_at {ts l : List TD} {i : Nat} {x : TD} (hx : l[i]? = some x) : typesFE ts (l.drop i) = if consFE ts x.ps x.cs ≠ 0 then consFE ts x.ps x.cs else typesFE ts (l.drop (i + 1)) := by
 obtain ⟨h1, h2⟩ := List.getElem?_eq_some_iff.1 hx
 rw [List.drop_eq_getElem_cons h1, h2]; rfl
theorem consFE_at {ts : List TD} {ps : List (List UInt8)} {l : List CD} {i : Nat} {c : CD} (hx : l[i]? = some c) : consFE ts ps (l.drop i) = if fieldsE ts (fun s => decide (s ∈ ps)) c.fs ≠ 0 then fieldsE ts (fun s => decide (s ∈ ps)) c.fs else consFE ts ps (l.drop (i + 1)) := by
 obtain ⟨h1, h2⟩ := List.getElem?_eq_some_iff.1 hx
 rw [List.drop_eq_getElem_cons h1, h2]; rfl
theorem fieldsE_at {ts : List TD} {p : List UInt8 → Bool} {l : List FD} {i : Nat} {f : FD} (hx : l[i]? = some f) : fieldsE ts p (l.drop i) = if fieldE ts p f ≠ 0 then fieldE ts p f else fieldsE ts p (l.drop (i + 1)) := by
 obtain ⟨h1, h2⟩ := List.getElem?_eq_some_iff.1 hx
 rw [List.drop_eq_getElem_cons h1, h2]; rfl
theorem cnames_at {ts : List TD} {i : Nat} {x : TD} (hx : ts[i]? = some x) : cnames (ts.take (i + 1)) = cnames (ts.take i) ++ x.cs.map CD.nm := by
 rw [List.take_add_one, hx, Option.toList_some, cnames_app]
theorem nms_at {ts : List TD} {i : Nat} {x : TD} (hx : ts[i]? = some x) : (ts.take (i + 1)).map TD.nm = (ts.take i).map TD.nm ++ [x.nm] := by
 rw [List.take_add_one, hx, List.map_append]; rfl
theorem cns_at {l : List CD} {i : Nat} {x : CD} (hx : l[i]? = some x) : (l.take (i + 1)).map CD.nm = (l.take i).map CD.nm ++ [x.nm] := by
 rw [List.take_add_one, hx, List.map_append]; rfl
theorem cnames_len {ts : List TD} (h : ∀ x ∈ ts, x.cs.length ≤ 2000000) : (cnames ts).length ≤ ts.length * 2000000 := by
 induction ts with
 | nil => exact Nat.zero_le _
 | cons x r ih =>
  have h1 := ih fun y hy => h y (List.mem_cons_of_mem _ hy)
  have h2 := h x (List.mem_cons_self ..)
  unfold cnames at h1 ⊢
  rw [List.flatMap_cons, List.length_append, List.length_map, List.length_cons]
  omega
theorem fieldE_u {ts : List TD} {ps : List (List UInt8)} {f : FD} : fieldE ts (fun s => decide (s ∈ ps)) f = if wiT (frP ps) (f.tn, f.ta) = true ∧ useT ts (f.tn, f.ta) ≠ 65 then 63 else useT ts (f.tn, f.ta) := by
 unfold fieldE
 by_cases h1 : wiT (frP ps) (f.tn, f.ta) = true <;> by_cases h2 : useT ts (f.tn, f.ta) ≠ 65
 ·rw [if_pos ⟨h2, h1⟩, if_pos ⟨h1, h2⟩]
 ·rw [if_neg (fun h => h2 h.1), if_neg (fun h => h2 h.2)]
 ·rw [if_neg (fun h => h1 h.2), if_neg (fun h => h1 h.1)]
 ·rw [if_neg (fun h => h1 h.2), if_neg (fun h => h1 h.1)]
theorem rT_6 {ts : List TD} (h : dupE [] [] ts = true) : rTypesE ts = 6 := by unfold rTypesE; rw [if_pos h]
theorem rT_fe {ts : List TD} {e : Int} (h : dupE [] [] ts = false) (h1 : typesFE ts ts = e) (h2 : e ≠ 0) : rTypesE ts = e := by unfold rTypesE; rw [if_neg (by rw [h]; decide), h1, if_pos h2]
theorem rT_f {ts : List TD} (h : dupE [] [] ts = false) (h1 : typesFE ts ts = 0) : rTypesE ts = if (ts.all fun x => decide (x.nm ∈ fullR ts)) = true then 0 else 5 := by unfold rTypesE; rw [if_neg (by rw [h]; decide), if_neg (by rw [h1]; decide)]
theorem all_at {ts : List TD} {p : TD → Bool} {i : Nat} {x : TD} (hx : ts[i]? = some x) : (ts.drop i).all p = (p x && (ts.drop (i + 1)).all p) := by
 obtain ⟨h1, h2⟩ := List.getElem?_eq_some_iff.1 hx
 rw [List.drop_eq_getElem_cons h1, h2]; rfl
theorem td_pos {F : Heap} {b o : Nat} {x y z1 z2 z3 z4 : Value} (h : Cels F b o [x, y, z1, z2, z3, z4]) : Cels F b (o + 0) [x, y] := fun j u hj => by
 rw [Nat.add_zero]
 refine h j u ?_
 rcases j with - | j
 ·exact hj
 rcases j with - | j
 ·exact hj
 ·simp at hj
theorem strs_app (a b : List (List UInt8)) : strs (a ++ b) = strs a ++ strs b := by unfold strs; rw [List.map_append]
theorem own_app {e : TypeId} {v : Value} {l : List (List UInt8)} {s : List UInt8} {g : Grp} (h : OwnS e 1 v (l.length + 1) (strs l ++ [.string (bs s)]) g) : OwnS e 1 v (l ++ [s]).length (strs (l ++ [s])) g := by
 rw [List.length_append, strs_app]; exact h
theorem zzRtD0 {p : Prop} (h : p := by (first | (have hdt : dupE [] [] ts = true := (by rw [hdu, dup_at hx, ← hq, (by assumption : q = true)]; simp); rw [rT_6 hdt]; exact ⟨_, _, rfl⟩) | (have hne : fieldE ts (fun s => decide (s ∈ x.ps)) f ≠ 0 := (by omega); have e1 : fieldsE ts (fun s => decide (s ∈ x.ps)) c.fs = fieldE ts (fun s => decide (s ∈ x.ps)) f := (by rw [hfl, fieldsE_at hf, if_pos hne]); have e2 : consFE ts x.ps x.cs = fieldE ts (fun s => decide (s ∈ x.ps)) f := (by rw [hce, consFE_at hc, e1, if_pos hne]); have e3 : typesFE ts ts = fieldE ts (fun s => decide (s ∈ x.ps)) f := (by rw [hfe, typesFE_at hx, e2, if_pos hne]); rw [rT_fe hdf e3 hne]; exact ⟨_, _, rfl⟩) | (rw [rT_f hdf hfe, if_neg (by rw [hal, all_at hx, decide_eq_false (by assumption)]; simp)]; exact ⟨_, _, rfl⟩) | (rw [rT_f hdf hfe, if_pos (by rw [hal, List.drop_of_length_le (by omega)]; rfl)]; exact ⟨_, _, rfl⟩) | trace_state)) : p := h
theorem zzRtD1 {p : Prop} (h : p := by (rw [← haf] at S; have hfu := fieldE_u (ts := ts) (ps := x.ps) (f := f); refine ⟨f, hf, ?_⟩; rw [hfu]; first | (rw [if_pos ⟨by assumption, by omega⟩]; (refine S.keep ?_; exact zk); done) | (rw [if_neg (by rintro ⟨h8, h9⟩; first | omega | (rw [h8] at *; simp_all; done) | simp_all)]; (refine S.keep ?_; exact zk); done) | trace_state)) : p := h
theorem zzRtD2 {p : Prop} (h : p := by (refine ⟨c, ?_⟩; apply Exists.intro; refine ⟨hc, ?_, ?_⟩; rotate_left 1; (refine S.keep ?_; exact zk); (first | (rw [(by assumption : q = true)]; simp; done) | (rw [(by assumption : q = false), decide_eq_true (by assumption)]; simp; done) | (rw [(by assumption : q = false), decide_eq_false (by assumption)]; simp; done) | trace_state))) : p := h
theorem zzRtD3 {p : Prop} (h : p := by (rw [← hao] at S; refine ⟨x, ?_⟩; apply Exists.intro; refine ⟨hx, ?_, ?_⟩; rotate_left 1; (refine S.keep ?_; exact zk); (unfold badT sTuple; first | (rw [decide_eq_true (by assumption : x.nm ∈ (ts.take i).map TD.nm)]; simp; done) | (rw [decide_eq_false (by assumption : ¬ x.nm ∈ (ts.take i).map TD.nm)]; simp [*]; done) | trace_state))) : p := h
theorem rtypesCt (F : Heap) (tp : Nat) (ts : List TD) (hT : RTab F tp ts) (hz : TzR ts) :
    Ct Tryz.prog 52 [.pointer (some ⟨tp, 0, none⟩)] F [] (fun _ _ u => TyRQ (rTypesE ts) u) := by
  obtain ⟨ao, cap, hc2, hL⟩ := id hT
  have htl := hz.l
  refine Ct.enter Tryz.func52 rfl Tryz.ntmps52 rfl fun w0 a S => ?_
  refine wp_sr fun Z hZ => ?_
  (refine wpl_alloc S rfl rfl rfl rfl ?_; clear S a; intro b2 a w S)
  (revert S a; revert hZ Z; refine go 8 ?_; intro Z hZ a S)
  (refine wv S (sv_loadF S rfl rfl hc2) ?_; clear S a; intro a S)
  (revert S a; revert hZ Z; refine go 8 ?_; intro a S)
  (refine wp_seq_k ?_; intro Z hZ)
  replace hZ : ∀ (a' : Act) (w' : World), (dupE [] [] ts = false ∧ St 204 [(0, ptr tp), (2, ptr b2), (4, .slice ao ts.length cap)] w0 F [] F [[(b2, .cells ⟨[.int .i64 0, .int .i64 0]⟩ 30 (0, 0))]] a' w') → Z a' w' := (by
   (intro a w hM; refine hZ _ _ ?_; clear hZ Z; clear S; obtain ⟨hdf, S⟩ := hM)
   (refine wp_seq_k ?_; intro Z hZ)
   replace hZ : ∀ (a' : Act) (w' : World), (typesFE ts ts = 0 ∧ St 204 [(0, ptr tp), (2, ptr b2), (4, .slice ao ts.length cap)] w0 F [] F [[(b2, .cells ⟨[.int .i64 0, .int .i64 0]⟩ 30 (0, 0))]] a' w') → Z a' w' := (by
    (intro a w hM; refine hZ _ _ ?_; clear hZ Z; clear S; obtain ⟨hfe, S⟩ := hM)
    (revert S a; refine go 2 ?_; intro Z hZ a S)
    (refine wpl_callNew S rfl rfl rfl rfl rfl rfl (rFullCt F tp ts hT (by omega)) rfl ?_; clear S a; intro v183 G9 a w hv S; obtain ⟨g183, rfl, hown183, hfl183⟩ := hv; (simp only [List.singleton_append] at S))
    (revert S a; revert hZ Z; refine go 9 ?_; intro Z hZ a S)
    refine wpc_loop (fun m a w' => ∃ (i : Nat), m = ts.length - i ∧ i ≤ ts.length ∧ (ts.all fun x => decide (x.nm ∈ fullR ts)) = ((ts.drop i).all fun x => decide (x.nm ∈ fullR ts)) ∧ St 204 [(2, ptr b2), (4, .slice ao ts.length cap), (15, v183), (16, .int .i64 i)] w0 F [] F [g183, [(b2, .cells ⟨[.int .i64 0, .int .i64 0]⟩ 30 (0, 0))]] a w') ?_ ?_
    · (refine ⟨ts.length, 0, by omega, Nat.zero_le _, rfl, ?_⟩; refine S.keep ?_; exact zk)
    (clear S; rintro m a w ⟨i, rfl, hil, hal, S⟩)
    (revert S a; refine go 8 ?_; intro Z hZ a S)
    refine wpc_sp S rfl ?_ ?_ <;> intro h
    · (revert S a; revert hZ Z; refine go 4 ?_; intro Z hZ a S)
      (refine wp_seq_k ?_; intro Z hZ)
      (obtain ⟨x, hx⟩ := at_ex (l := ts) (k := i) (by omega); obtain ⟨b8, o8, ap8, cp8, ac8, cc8, hao, hcx, hps, hcs⟩ := td_at hL hx; have hcx3 : Cel F b8 (o8 + i * 6 + 3) _ := hcx 3 _ rfl; have hcx0 := td_pos hcx; rw [hao] at S)
      (revert S a; refine go 6 ?_; intro a S)
      (refine wv S (sv_loadF S rfl rfl hcx3) ?_; clear S a; intro a S)
      (refine wpl_callOwn (Gs := [g183]) S rfl rfl rfl rfl rfl rfl (Ct.lend (rinCt (F.add g183) _ x.nm v183 (hown183.slC F) (by omega))) rfl permOne ?_; clear S a; intro v196 G9 a w hv9 S; obtain ⟨rfl, rfl⟩ := hv9; (simp only [List.singleton_append] at S))
      (revert S a; revert hZ Z; refine go 3 ?_; intro a S)
      refine wpc_sp S rfl ?_ ?_ <;> intro h
      · (revert S a; refine go 5 ?_; intro Z hZ a S)
        (refine wv S (sv_loadAF S rfl rfl hcx0 rfl) ?_; clear S a; intro a S)
        (refine wso S rfl rfl ?_; clear S; intro w S)
        (revert S a; revert hZ Z; refine go 3 ?_; intro a S)
        refine wp_ret (fin_ret S (results2 Tryz.results52 (RV.cellO S rfl (by rfl)) (RV.tmp S rfl)) ?_)
        exact zzRtD0
      (revert S a; revert hZ Z; refine go 7 ?_; intro a S)
      change ∃ m', _ ∧ _
      (rw [← hao] at S; refine ⟨ts.length - (i + 1), by omega, i + 1, rfl, by omega, ?_, ?_⟩; rotate_left 1; (refine S.keep ?_; exact zk); (rw [hal, all_at hx, decide_eq_true (by assumption), Bool.true_and]))
    (refine wp_exit ?_; conv => whnf)
    clear hZ Z
    (revert S a; revert hZ Z; refine go 3 ?_; intro Z hZ a S)
    (refine wso S rfl rfl ?_; clear S; intro w S)
    (revert S a; revert hZ Z; refine go 3 ?_; intro a S)
    refine wp_ret (fin_ret S (results2 Tryz.results52 (RV.cellO S rfl (by rfl)) (RV.tmp S rfl)) ?_)
    (first | (have hdt : dupE [] [] ts = true := (by rw [hdu, dup_at hx, ← hq, (by assumption : q = true)]; simp); rw [rT_6 hdt]; exact ⟨_, _, rfl⟩) | (have hne : fieldE ts (fun s => decide (s ∈ x.ps)) f ≠ 0 := (by omega); have e1 : fieldsE ts (fun s => decide (s ∈ x.ps)) c.fs = fieldE ts (fun s => decide (s ∈ x.ps)) f := (by rw [hfl, fieldsE_at hf, if_pos hne]); have e2 : consFE ts x.ps x.cs = fieldE ts (fun s => decide (s ∈ x.ps)) f := (by rw [hce, consFE_at hc, e1, if_pos hne]); have e3 : typesFE ts ts = fieldE ts (fun s => decide (s ∈ x.ps)) f := (by rw [hfe, typesFE_at hx, e2, if_pos hne]); rw [rT_fe hdf e3 hne]; exact ⟨_, _, rfl⟩) | (rw [rT_f hdf hfe, if_neg (by rw [hal, all_at hx, decide_eq_false (by assumption)]; simp)]; exact ⟨_, _, rfl⟩) | (rw [rT_f hdf hfe, if_pos (by rw [hal, List.drop_of_length_le (by omega)]; rfl)]; exact ⟨_, _, rfl⟩) | trace_state))
   (revert S a; refine go 5 ?_; intro a S)
   refine wpc_loop (fun m a w' => ∃ (i : Nat), m = ts.length - i ∧ i ≤ ts.length ∧ typesFE ts ts = typesFE ts (ts.drop i) ∧ St 204 [(0, ptr tp), (2, ptr b2), (4, .slice ao ts.length cap), (10, .int .i64 i)] w0 F [] F [[(b2, .cells ⟨[.int .i64 0, .int .i64 0]⟩ 30 (0, 0))]] a w') ?_ ?_
   · (refine ⟨ts.length, 0, by omega, Nat.zero_le _, rfl, ?_⟩; refine S.keep ?_; exact zk)
   (clear S; rintro m a w ⟨i, rfl, hil, hfe, S⟩)
   (revert S a; refine go 8 ?_; intro Z hZ a S)
   refine wpc_sp S rfl ?_ ?_ <;> intro h
   · (revert S a; revert hZ Z; refine go 4 ?_; intro Z hZ a S)
     (refine wp_seq_k ?_; intro Z hZ)
     (obtain ⟨x, hx⟩ := at_ex (l := ts) (k := i) (by omega); obtain ⟨b8, o8, ap8, cp8, ac8, cc8, hao, hcx, hps, hcs⟩ := td_at hL hx; have hcx5 : Cel F b8 (o8 + i * 6 + 5) _ := hcx 5 _ rfl; have hcx4 : Cel F b8 (o8 + i * 6 + 4) _ := hcx 4 _ rfl; have hcx0 := td_pos hcx; obtain ⟨_, _, _, hcb, -⟩ := id hcs; have hsz := hz.c x (List.mem_of_getElem? hx); rw [hao] at S)
     (revert S a; revert hZ Z; refine go 5 ?_; intro a S)
     refine wpc_loop (fun m a w' => ∃ (k : Nat), m = x.cs.length - k ∧ k ≤ x.cs.length ∧ consFE ts x.ps x.cs = consFE ts x.ps (x.cs.drop k) ∧ St 204 [(0, ptr tp), (2, ptr b2), (4, .slice (some ⟨b8, o8, none⟩) ts.length cap), (10, .int .i64 i), (11, .int .i64 k)] w0 F [] F [[(b2, .cells ⟨[.int .i64 0, .int .i64 0]⟩ 30 (0, 0))]] a w') ?_ ?_
     · (refine ⟨x.cs.length, 0, by omega, Nat.zero_le _, rfl, ?_⟩; refine S.keep ?_; exact zk)
     (clear S; rintro m a w ⟨k, rfl, hkl, hce, S⟩)
     (revert S a; refine go 7 ?_; intro Z hZ Z hZ a S)
     (refine wv S (sv_loadF S rfl rfl hcx5) ?_; clear S a; intro a S)
     (revert S a; revert hZ Z; refine go 4 ?_; intro a S)
     refine wpc_sp S rfl ?_ ?_ <;> intro h
     · (revert S a; revert hZ Z; refine go 4 ?_; intro Z hZ a S)
       (refine wp_seq_k ?_; intro Z hZ)
       (obtain ⟨c, hc⟩ := at_ex (l := x.cs) (k := k) (by omega); obtain ⟨b9, o9, af9, cf9, hac, hcc, hfs⟩ := cd_at hcs hc; rw [hac] at hcx5; have hcc1 : Cel F b9 (o9 + k * 2 + 1) _ := hcc 1 _ rfl; obtain ⟨_, _, _, hfb, -⟩ := id hfs; have hdz := hsz.2.2 c (List.mem_of_getElem? hc))
       (revert S a; refine go 5 ?_; intro a S)
       (refine wv S (sv_loadF S rfl rfl hcx5) ?_; clear S a; intro a S)
       (revert S a; refine go 3 ?_; intro a S)
       (refine wv S (sv_loadF S rfl rfl hcc1) ?_; clear S a; intro a S)
       (revert S a; revert hZ Z; refine go 8 ?_; intro a S)
       refine wpc_loop (fun m a w' => ∃ (j : Nat), m = c.fs.length - j ∧ j ≤ c.fs.length ∧ fieldsE ts (fun s => decide (s ∈ x.ps)) c.fs = fieldsE ts (fun s => decide (s ∈ x.ps)) (c.fs.drop j) ∧ St 204 [(0, ptr tp), (2, ptr b2), (4, .slice (some ⟨b8, o8, none⟩) ts.length cap), (10, .int .i64 i), (11, .int .i64 k), (12, .slice af9 c.fs.length cf9), (13, .int .i64 j)] w0 F [] F [[(b2, .cells ⟨[.int .i64 0, .int .i64 0]⟩ 30 (0, 0))]] a w') ?_ ?_
       · (refine ⟨c.fs.length, 0, by omega, Nat.zero_le _, rfl, ?_⟩; refine S.keep ?_; exact zk)
       (clear S; rintro m a w ⟨j, rfl, hjl, hfl, S⟩)
       (revert S a; refine go 8 ?_; intro Z hZ a S)
       refine wpc_sp S rfl ?_ ?_ <;> intro h
       · (revert S a; revert hZ Z; refine go 4 ?_; intro Z hZ a S)
         (refine wp_seq_k ?_; intro Z hZ)
         (obtain ⟨f, hf⟩ := at_ex (l := c.fs) (k := j) (by omega); obtain ⟨b7, o7, aa7, ca7, haf, hcf, hfa⟩ := fd_at hfs hf; rw [haf] at S; have hcf1 := fd_ty hcf; have hdf9 := hdz f (List.mem_of_getElem? hf))
         (revert S a; refine go 6 ?_; intro a S)
         (refine wv S (sv_loadAF S rfl rfl hcf1 rfl) ?_; clear S a; intro a S)
         (refine wc0 S (ruseCt tp ts F hT f.tn f.ta _ ⟨_, rfl, hfa⟩ (by omega)) ?_; clear S a; intro v158 a w hv9 S; subst hv9)
         (revert S a; revert hZ Z; refine go 3 ?_; intro a S)
         (refine wp_seq_k ?_; intro Z hZ)
         replace hZ : ∀ (a' : Act) (w' : World), (∃ (f : FD), c.fs[j]? = some f ∧ St 204 [(0, ptr tp), (2, ptr b2), (4, .slice (some ⟨b8, o8, none⟩) ts.length cap), (10, .int .i64 i), (11, .int .i64 k), (12, .slice af9 c.fs.length cf9), (13, .int .i64 j), (14, .int .i64 (fieldE ts (fun s => decide (s ∈ x.ps)) f))] w0 F [] F [[(b2, .cells ⟨[.int .i64 0, .int .i64 0]⟩ 30 (0, 0))]] a' w') → Z a' w' := (by
          (intro a w hM; refine hZ _ _ ?_; clear hZ Z; clear S; obtain ⟨f, hf, S⟩ := hM)
          (revert S a; refine go 5 ?_; intro a S)
          refine wpc_sp S rfl ?_ ?_ <;> intro h
          · (revert S a; refine go 5 ?_; intro Z hZ a S)
            (refine wv S (sv_loadAF S rfl rfl hcx0 rfl) ?_; clear S a; intro a S)
            (revert S a; refine go 1 ?_; intro a S)
            (refine wso S rfl rfl ?_; clear S; intro w S)
            (revert S a; revert hZ Z; refine go 3 ?_; intro a S)
            refine wp_ret (fin_ret S (results2 Tryz.results52 (RV.cellO S rfl (by rfl)) (RV.tmp S rfl)) ?_)
            exact zzRtD0
          (revert S a; revert hZ Z; refine go 7 ?_; intro a S)
          change ∃ m', _ ∧ _
          (have e9 : fieldE ts (fun s => decide (s ∈ x.ps)) f = 0 := (by omega); refine ⟨c.fs.length - (j + 1), by omega, j + 1, rfl, by omega, ?_, ?_⟩; rotate_left 1; (refine S.keep ?_; exact zk); (rw [hfl, fieldsE_at hf, e9, if_neg (by decide)])))
         (refine wp_seq_k ?_; intro Z hZ)
         (refine wpc_mixM [0, 1, 2, 3, 4, 5, 6, 7, 8, 9, 11, 12, 13, 14] [4, 9] [] (.one 0 (.one 1 (.one 2 (.one 3 (.one 4 (.one 5 (.one 6 (.one 7 (.one 8 (.one 9 (.one 10 (.one 11 (.one 12 (.one 13 (.one 14 .nil))))))))))))))) [] S mixed (by kernel_rfl) ?_; clear S; intro w S)
         (revert S a; refine go 4 ?_; intro a S)
         (refine wlF S rfl (fun w' S => sv_loadAF S rfl rfl hcf1 rfl) ?_; clear S a; intro a S)
         (revert S a; refine go 4 ?_; intro a S)
         (refine wlF S rfl (fun w' S => sv_loadF S rfl rfl hcx4) ?_; clear S a; intro a S)
         refine wpm_eff rfl rfl (kwa S) ?_
         (refine wc0 S (rfreeCt F x.ps _ (lim_sl hps) (by omega) f.ta.size f.tn f.ta _ (Nat.le_refl _) ⟨_, rfl, hfa⟩) ?_; clear S a; intro v169 a w hv9 S; subst hv9)
         (revert S a; refine go 2 ?_; intro a S)
         refine St.pt 170 true S rfl ?_ ?_ <;> clear S <;> intro h S
         · (revert S a; revert hZ Z; refine go 5 ?_; intro a S)
           refine wpc_sp S rfl ?_ ?_ <;> intro h
           · (revert S a; refine go 3 ?_; intro a S)
             (refine hZ _ _ ?_)
             exact zzRtD1
           refine wp_skip ?_
           (refine hZ _ _ ?_)
           exact zzRtD1
         (revert S a; revert hZ Z; refine go 5 ?_; intro a S)
         refine wpc_false S rfl ?_
         refine wp_skip ?_
         (refine hZ _ _ ?_)
         exact zzRtD1
       (refine wp_exit ?_; conv => whnf)
       clear hZ Z
       (revert S a; revert hZ Z; refine go 6 ?_; intro a S)
       change ∃ m', _ ∧ _
       (have e9 : fieldsE ts (fun s => decide (s ∈ x.ps)) c.fs = 0 := (by rw [hfl, List.drop_of_length_le (by omega)]; rfl); refine ⟨x.cs.length - (k + 1), by omega, k + 1, rfl, by omega, ?_, ?_⟩; rotate_left 1; (refine S.keep ?_; exact zk); (rw [hce, consFE_at hc, e9, if_neg (by decide)]))
     (refine wp_exit ?_; conv => whnf)
     clear hZ Z
     (revert S a; revert hZ Z; refine go 6 ?_; intro a S)
     change ∃ m', _ ∧ _
     (rw [← hao] at S; have e9 : consFE ts x.ps x.cs = 0 := (by rw [hce, List.drop_of_length_le (by omega)]; rfl); refine ⟨ts.length - (i + 1), by omega, i + 1, rfl, by omega, ?_, ?_⟩; rotate_left 1; (refine S.keep ?_; exact zk); (rw [hfe, typesFE_at hx, e9, if_neg (by decide)]))
   (refine wp_exit ?_; conv => whnf)
   (clear hZ Z; (refine hZ _ _ ?_))
   (have e9 : typesFE ts ts = 0 := (by rw [hfe, List.drop_of_length_le (by omega)]; rfl); refine ⟨e9, ?_⟩; refine S.keep ?_; exact zk))
  (revert S a; refine go 5 ?_; intro a S)
  refine wpc_loop (fun m a w' => ∃ (i : Nat) (v5 v6 : Value) (g5 g6 : Grp), m = ts.length - i ∧ i ≤ ts.length ∧ dupE [] [] ts = dupE ((ts.take i).map TD.nm) (cnames (ts.take i)) (ts.drop i) ∧ OwnS 9 1 v5 ((ts.take i).map TD.nm).length (strs ((ts.take i).map TD.nm)) g5 ∧ OwnS 9 1 v6 (cnames (ts.take i)).length (strs (cnames (ts.take i))) g6 ∧ St 204 [(0, ptr tp), (2, ptr b2), (4, .slice ao ts.length cap), (5, v5), (6, v6), (7, .int .i64 i)] w0 F [] F [g5, g6, [(b2, .cells ⟨[.int .i64 0, .int .i64 0]⟩ 30 (0, 0))]] a w') ?_ ?_
  · (replace S := S.nilg; replace S := S.nilg; refine ⟨ts.length, 0, .slice none 0 0, .slice none 0 0, [], [], by omega, Nat.zero_le _, rfl, OwnS.nil _ _, OwnS.nil _ _, ?_⟩; refine S.keep ?_; exact zk)
  (clear S; rintro m a w ⟨i, v5, v6, g5, g6, rfl, hil, hdu, hown5, hown6, S⟩)
  (revert S a; refine go 8 ?_; intro Z hZ a S)
  refine wpc_sp S rfl ?_ ?_ <;> intro h
  · (revert S a; revert hZ Z; refine go 4 ?_; intro Z hZ a S)
    (refine wp_seq_k ?_; intro Z hZ)
    replace hZ : ∀ (a' : Act) (w' : World), (∃ (x : TD) (q : Bool), ts[i]? = some x ∧ q = badT ((ts.take i).map TD.nm) x ∧ St 204 [(0, ptr tp), (2, ptr b2), (4, .slice ao ts.length cap), (5, v5), (6, v6), (7, .int .i64 i), (8, .bool q)] w0 F [] F [g5, g6, [(b2, .cells ⟨[.int .i64 0, .int .i64 0]⟩ 30 (0, 0))]] a' w') → Z a' w' := (by
     (intro a w hM; refine hZ _ _ ?_; clear hZ Z; clear S; obtain ⟨x, q, hx, hq, S⟩ := hM)
     (refine wp_seq_k ?_; intro Z hZ)
     (obtain ⟨b8, o8, ap8, cp8, ac8, cc8, hao, hcx, -, hcs⟩ := td_at hL hx; have hcx3 : Cel F b8 (o8 + i * 6 + 3) _ := hcx 3 _ rfl; have hcx5 : Cel F b8 (o8 + i * 6 + 5) _ := hcx 5 _ rfl; have hcx0 := td_pos hcx; obtain ⟨_, _, _, hcb, -⟩ := id hcs; rw [hao] at S; obtain ⟨aoK, capK, rfl, -⟩ := hown5.at; have hsl5 : ((ts.take i).map TD.nm).length ≤ 2000000 := (by rw [List.length_map, List.length_take]; omega); have hsz := (hz.c x (List.mem_of_getElem? hx)).1; have hsl6 := cnames_len (ts := ts.take i) (fun y hy => (hz.c y (List.mem_of_mem_take hy)).1); rw [List.length_take] at hsl6)
     (revert S a; refine go 6 ?_; intro a S)
     (refine wv S (sv_loadF S rfl rfl hcx3) ?_; clear S a; intro a S)
     (refine wpl_append S rfl rfl rfl rfl rfl rfl rfl rfl rfl rfl rfl (fun _ => rfl) hown5 (by rfl) (by simp [Value.cells, splice, splice]) (by simp [Value.cells, Value.oneCell', splice, splice]) rfl (by rfl) (by rfl) rfl (by omega) (by omega) ?_; clear hown5 S a; intro v u g a w hown5 S)
     (revert S a; revert hZ Z; refine go 9 ?_; intro Z hZ a S)
     refine wpc_loop (fun m a w' => ∃ (k : Nat) (q : Bool) (v6 : Value) (g6 : Grp), m = x.cs.length - k ∧ k ≤ x.cs.length ∧ (q || consBad (cnames (ts.take i) ++ (x.cs.take k).map CD.nm) (x.cs.drop k)) = (badT ((ts.take i).map TD.nm) x || consBad (cnames (ts.take i)) x.cs) ∧ OwnS 9 1 v6 (cnames (ts.take i) ++ (x.cs.take k).map CD.nm).length (strs (cnames (ts.take i) ++ (x.cs.take k).map CD.nm)) g6 ∧ St 204 [(0, ptr tp), (2, ptr b2), (4, .slice (some ⟨b8, o8, none⟩) ts.length cap), (5, v), (6, v6), (7, .int .i64 i), (8, .bool q), (9, .int .i64 k)] w0 F [] F [g, g6, [(b2, .cells ⟨[.int .i64 0, .int .i64 0]⟩ 30 (0, 0))]] a w') ?_ ?_
     · (replace hown5 := own_app hown5; refine ⟨x.cs.length, 0, q, v6, g6, by omega, Nat.zero_le _, by rw [hq]; simp, by simpa using hown6, ?_⟩; refine S.keep ?_; exact zk)
     (clear S hown6 hq; rintro m a w ⟨k, q, v6, g6, rfl, hkl, hq, hown6, S⟩)
     (revert S a; refine go 7 ?_; intro Z hZ Z hZ a S)
     (refine wv S (sv_loadF S rfl rfl hcx5) ?_; clear S a; intro a S)
     (revert S a; revert hZ Z; refine go 4 ?_; intro a S)
     refine wpc_sp S rfl ?_ ?_ <;> intro h
     · (revert S a; revert hZ Z; refine go 4 ?_; intro Z hZ a S)
       (refine wp_seq_k ?_; intro Z hZ)
       replace hZ : ∀ (a' : Act) (w' : World), (∃ (c : CD) (q2 : Bool), x.cs[k]? = some c ∧ q2 = (q || (decide (c.nm ∈ cnames (ts.take i) ++ (x.cs.take k).map CD.nm) || twiceD c.fs)) ∧ St 204 [(0, ptr tp), (2, ptr b2), (4, .slice (some ⟨b8, o8, none⟩) ts.length cap), (5, v), (6, v6), (7, .int .i64 i), (8, .bool q2), (9, .int .i64 k)] w0 F [] F [g, g6, [(b2, .cells ⟨[.int .i64 0, .int .i64 0]⟩ 30 (0, 0))]] a' w') → Z a' w' := (by
        (intro a w hM; refine hZ _ _ ?_; clear hZ Z; clear S; obtain ⟨c, q2, hc, hq2, S⟩ := hM)
        (obtain ⟨b9, o9, af9, cf9, hac, hcc, hfs⟩ := cd_at hcs hc; rw [hac] at hcx5; have hcc0 : Cel F b9 (o9 + k * 2 + 0) _ := hcc 0 _ rfl; have hcl : (cnames (ts.take i) ++ (x.cs.take k).map CD.nm).length ≤ 100000000000 := (by rw [List.length_append, List.length_map, List.length_take]; omega); obtain ⟨aoK, capK, rfl, -⟩ := hown6.at)
        (revert S a; refine go 6 ?_; intro a S)
        (refine wv S (sv_loadF S rfl rfl hcx5) ?_; clear S a; intro a S)
        (revert S a; refine go 3 ?_; intro a S)
        (refine wv S (sv_loadF S rfl rfl hcc0) ?_; clear S a; intro a S)
        (refine wpl_append S rfl rfl rfl rfl rfl rfl rfl rfl rfl rfl rfl (fun _ => rfl) hown6 (by rfl) (by simp [Value.cells, splice, splice]) (by simp [Value.cells, Value.oneCell', splice, splice]) rfl (by rfl) (by rfl) rfl (by omega) (by omega) ?_; clear hown6 S a; intro v u g a w hown6 S)
        (revert S a; revert hZ Z; refine go 8 ?_; intro a S)
        change ∃ m', _ ∧ _
        (refine ⟨x.cs.length - (k + 1), by omega, k + 1, q2, v, g, rfl, by omega, ?_, ?_, ?_⟩; rotate_left 2; (refine S.keep ?_; exact zk); (rw [← hq, bad_at hc, hq2, cns_at hc, ← List.append_assoc, Bool.or_assoc]); (rw [cns_at hc, ← List.append_assoc]; exact own_app hown6)))
       (obtain ⟨c, hc⟩ := at_ex (l := x.cs) (k := k) (by omega); obtain ⟨b9, o9, af9, cf9, hac, hcc, hfs⟩ := cd_at hcs hc; rw [hac] at hcx5; have hcc0 : Cel F b9 (o9 + k * 2 + 0) _ := hcc 0 _ rfl; have hcc1 : Cel F b9 (o9 + k * 2 + 1) _ := hcc 1 _ rfl; have hcl : (cnames (ts.take i) ++ (x.cs.take k).map CD.nm).length ≤ 100000000000 := (by rw [List.length_append, List.length_map, List.length_take]; omega))
       (revert S a; refine go 3 ?_; intro a S)
       refine wgd S ?_ ?_
       · (clear S; intro h S)
         (revert S a; refine go 10 ?_; intro a S)
         (refine wv S (sv_loadF S rfl rfl hcx5) ?_; clear S a; intro a S)
         (revert S a; refine go 7 ?_; intro a S)
         (refine wv S (sv_loadF S rfl rfl hcc0) ?_; clear S a; intro a S)
         refine wpl_take S rfl rfl rfl ?_
         (refine wpl_callOwn (Gs := [g6]) S rfl rfl rfl rfl rfl rfl (Ct.lend (rinCt (F.add g6) _ c.nm v6 (hown6.slC F) (by omega))) rfl permMid2 ?_; clear S a; intro v89 G9 a w hv9 S; obtain ⟨rfl, rfl⟩ := hv9; (simp only [List.singleton_append] at S); replace S := swapG S)
         (revert S a; refine go 2 ?_; intro a S)
         refine wgd S ?_ ?_
         · (clear S; intro h S)
           (revert S a; refine go 8 ?_; intro a S)
           (refine wv S (sv_loadF S rfl rfl hcx5) ?_; clear S a; intro a S)
           (revert S a; refine go 7 ?_; intro a S)
           (refine wv S (sv_loadF S rfl rfl hcc1) ?_; clear S a; intro a S)
           refine wpl_take S rfl rfl rfl ?_
           (refine wc0 S (rtwiceCt F c.fs _ hfs) ?_; clear S a; intro v101 a w hv9 S; subst hv9)
           (revert S a; refine go 3 ?_; intro a S)
           (refine hZ _ _ ?_)
           exact zzRtD2
         (clear S a; intro h a S)
         (revert S a; refine go 12 ?_; intro a S)
         (refine hZ _ _ ?_)
         exact zzRtD2
       (clear S a; intro h a S)
       (revert S a; refine go 25 ?_; intro a S)
       (refine hZ _ _ ?_)
       exact zzRtD2
     (refine wp_exit ?_; conv => whnf)
     clear hZ Z
     (revert S a; revert hZ Z; refine go 5 ?_; intro a S)
     refine wpc_sp S rfl ?_ ?_ <;> intro h
     · (revert S a; refine go 5 ?_; intro Z hZ a S)
       (refine wv S (sv_loadAF S rfl rfl hcx0 rfl) ?_; clear S a; intro a S)
       (refine wso S rfl rfl ?_; clear S; intro w S)
       (revert S a; revert hZ Z; refine go 3 ?_; intro a S)
       refine wp_ret (fin_ret S (results2 Tryz.results52 (RV.cellO S rfl (by rfl)) (RV.tmp S rfl)) ?_)
       exact zzRtD0
     (revert S a; revert hZ Z; refine go 7 ?_; intro a S)
     change ∃ m', _ ∧ _
     (rw [← hao] at S; have hqf : q = false := (by assumption); have hbk : (badT ((ts.take i).map TD.nm) x || consBad (cnames (ts.take i)) x.cs) = false := (by rw [← hq, hqf, List.drop_of_length_le (by omega)]; rfl); refine ⟨ts.length - (i + 1), by omega, i + 1, v, v6, g, g6, rfl, by omega, ?_, ?_, ?_, ?_⟩; rotate_left 3; (refine S.keep ?_; exact zk); (rw [hdu, dup_at hx, hbk, Bool.false_or, nms_at hx, cnames_at hx]); (rw [nms_at hx]; exact own_app hown5); (rw [cnames_at hx]; rw [List.take_of_length_le (l := x.cs) (by omega)] at hown6; exact hown6)))
    (obtain ⟨x, hx⟩ := at_ex (l := ts) (k := i) (by omega); obtain ⟨b8, o8, ap8, cp8, ac8, cc8, hao, hcx, -, hcs⟩ := td_at hL hx; have hcx3 : Cel F b8 (o8 + i * 6 + 3) _ := hcx 3 _ rfl; rw [hao] at S)
    (revert S a; refine go 6 ?_; intro a S)
    (refine wv S (sv_loadF S rfl rfl hcx3) ?_; clear S a; intro a S)
    (refine wpl_callOwn (Gs := [g5]) S rfl rfl rfl rfl rfl rfl (Ct.lend (rinCt (F.add g5) _ x.nm v5 (hown5.slC F) (by rw [List.length_map, List.length_take]; omega))) rfl permOne ?_; clear S a; intro v34 G9 a w hv9 S; obtain ⟨rfl, rfl⟩ := hv9; (simp only [List.singleton_append] at S))
    (revert S a; refine go 1 ?_; intro a S)
    refine wgd S ?_ ?_
    · (clear S; intro h S)
      (revert S a; refine go 8 ?_; intro a S)
      (refine wv S (sv_loadF S rfl rfl hcx3) ?_; clear S a; intro a S)
      refine wpl_take S rfl rfl rfl ?_
      (refine wc0 S (rplainCt F x.nm) ?_; clear S a; intro v a w hv S; subst hv)
      (revert S a; refine go 2 ?_; intro a S)
      refine wgd S ?_ ?_
      · (clear S; intro h S)
        (revert S a; refine go 8 ?_; intro a S)
        (refine wv S (sv_loadF S rfl rfl hcx3) ?_; clear S a; intro a S)
        (revert S a; refine go 4 ?_; intro a S)
        refine wgd S ?_ ?_
        · (clear S; intro h S)
          (revert S a; refine go 8 ?_; intro a S)
          (refine wv S (sv_loadF S rfl rfl hcx3) ?_; clear S a; intro a S)
          refine wpl_take S rfl rfl rfl ?_
          (refine wc0 S (refParamCt F x.nm) ?_; clear S a; intro v a w hv S; subst hv)
          (revert S a; refine go 3 ?_; intro a S)
          (refine hZ _ _ ?_)
          exact zzRtD3
        (clear S a; intro h a S)
        (revert S a; refine go 8 ?_; intro a S)
        (refine hZ _ _ ?_)
        exact zzRtD3
      (clear S a; intro h a S)
      (revert S a; refine go 16 ?_; intro a S)
      (refine hZ _ _ ?_)
      exact zzRtD3
    (clear S a; intro h a S)
    (revert S a; refine go 24 ?_; intro a S)
    (refine hZ _ _ ?_)
    exact zzRtD3
  (refine wp_exit ?_; conv => whnf)
  (clear hZ Z; (refine hZ _ _ ?_))
  (have e9 : dupE [] [] ts = false := (by rw [hdu, List.drop_of_length_le (by omega)]; rfl); replace S := S.drop1.drop1; refine ⟨e9, ?_⟩; refine S.keep ?_; exact zk)
end Go.Proofs.YtgefmjghdijbfaaGreatDoor
