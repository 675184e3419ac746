/- Walks. -/
import Derived.Test.YthnafdbebniapaaGreatDoorQ20
import Derived.Test.YthnafdbebniapaaGreatDoorQ13
import Derived.Test.YthnafdbebniapaaGreatDoorQ10
set_option maxHeartbeats 2000000
namespace Go.Cv
open Go Go.Wk Go.Un Go.De
set_option linter.unusedSimpArgs false
set_option linter.unusedVariables false
def rCount (ts : List TD) (a : Ty) : Bool := if plainS a.1 = true ∨ parS a.1 = true then decide (a.2.len = 0) else if a.1 = sTuple then decide (a.2.len ≠ 1) && decide (a.2.len ≤ 16) else declS ts a.1 && decide (a.2.len = parN ts a.1)
def rUse (ts : List TD) (a : Ty) : Int := if 64 < depthT a then 65 else if wiT (nameT ts) a = true then 63 else if wiT (fun y => !rCount ts y) a = true then 70 else if wiT (growT ts) a = true then 72 else 0
theorem rCount_eq {ts : List TD} {y : Ty} (h : nameT ts y = false) : rCount ts y = countsT ts y := by
 unfold rCount countsT
 split
 ·rfl
 ·rename_i h1
  split
  ·rfl
  ·rename_i h2
   unfold nameT at h
   have hp : plainS y.1 = false := by cases e : plainS y.1 with | false => rfl | true => exact absurd (.inl e) h1
   have hq : parS y.1 = false := by cases e : parS y.1 with | false => rfl | true => exact absurd (.inr e) h1
   rw [hp, hq, decide_eq_false h2] at h
   have : declS ts y.1 = true := by simpa using h
   rw [this, Bool.true_and]
theorem wiL_count {ts : List TD} : ∀ l : Fo, wiL (nameT ts) l = false → wiL (fun y => !rCount ts y) l = wiL (fun y => !countsT ts y) l
 | .nil, _ => rfl
 | .cons nm ar r, h => by
  rw [wi_cons, Bool.or_eq_false_iff] at h
  have h1 := h.1
  unfold wiT at h1
  rw [Bool.or_eq_false_iff] at h1
  rw [wi_cons, wi_cons, wiL_count r h.2]
  unfold wiT
  have e : rCount ts (nm, ar) = countsT ts (nm, ar) := rCount_eq h1.1
  show (!rCount ts (nm, ar) || wiL (fun y => !rCount ts y) ar || _) = _
  rw [wiL_count ar h1.2, e]
theorem rUse_eq (ts : List TD) (a : Ty) : rUse ts a = useT ts a := by
 unfold rUse useT
 split
 ·rfl
 ·split
  ·rfl
  ·rename_i h
   have h1 : wiT (nameT ts) a = false := by simpa using h
   have h2 := h1
   unfold wiT at h2
   rw [Bool.or_eq_false_iff] at h2
   have e : wiT (fun y => !rCount ts y) a = wiT (fun y => !countsT ts y) a := by
    unfold wiT
    show (!rCount ts a || wiL (fun y => !rCount ts y) a.2) = (!countsT ts a || _)
    rw [wiL_count a.2 h2.2, rCount_eq h2.1]
   rw [e]
def stepR (ts : List TD) (k : List By) : List By := (ts.filter fun x => tyOK (full0 ++ k) x).map TD.nm
def roundR (ts : List TD) : Nat → List By → List By
 | 0, k => k
 | n + 1, k => roundR ts n (stepR ts k)
def fullR (ts : List TD) : List By := roundR ts (ts.length + 1) []
theorem roundR_succ (ts : List TD) : ∀ (n : Nat) (k : List By), roundR ts (n + 1) k = stepR ts (roundR ts n k)
 | 0, k => rfl
 | n + 1, k => by show roundR ts (n + 1) (stepR ts k) = _; rw [roundR_succ ts n]; rfl
def rTypesE (ts : List TD) : Int := if dupE [] [] ts = true then 6 else if typesFE ts ts ≠ 0 then typesFE ts ts else if (ts.all fun x => decide (x.nm ∈ fullR ts)) = true then 0 else 5
end Go.Cv
namespace Go.Proofs.YthnafdbebniapaaGreatDoor
open Go Go.Wk Go.Un Go.De
set_option linter.unusedSimpArgs false
set_option linter.unusedVariables false
attribute [local irreducible] Go.wpList Go.Code.wp Go.wpStill Go.Wk.wpPre Go.bodyPost Go.Calls Go.Wk.Ct Go.Wk.OwnS Go.Wk.wpG Go.Wk.wpM
theorem strs_at {l : List (List UInt8)} {k : Nat} {s : List UInt8} (h : l[k]? = some s) : (strs l)[k]? = some (.string (bs s)) := by unfold strs; rw [List.getElem?_map, h]; rfl
theorem mem_drop {l : List (List UInt8)} {k : Nat} {x s : List UInt8} (hx : l[k]? = some x) : decide (s ∈ l.drop k) = (decide (x = s) || decide (s ∈ l.drop (k + 1))) := by
 obtain ⟨h1, h2⟩ := List.getElem?_eq_some_iff.1 hx
 rw [List.drop_eq_getElem_cons h1, h2, Bool.eq_iff_iff]
 rw [Bool.or_eq_true, decide_eq_true_eq, decide_eq_true_eq, decide_eq_true_eq, List.mem_cons]
 exact ⟨fun h => h.imp Eq.symm id, fun h => h.imp Eq.symm id⟩
theorem zzRtA0 {p : Prop} (h : p := by (congr 1; rw [hfp]; first | (rw [mem_drop hx, decide_eq_true (by assumption), Bool.true_or]; done) | (rw [List.drop_of_length_le (by omega)]; simp; done) | trace_state)) : p := h
theorem rinCt (F : Heap) (l : List (List UInt8)) (s : List UInt8) (v : Value) (h : SlC F v l.length (strs l)) (hl : l.length ≤ 9223372036854775807) : Ct Tryz.prog 116 [v, .string (bs s)] F [] (fun _ _ u => u = .bool (decide (s ∈ l))) := by
 obtain ⟨ao, cap, rfl, hcap, hpos⟩ := h
 refine Ct.enter Tryz.func116 rfl Tryz.ntmps116 rfl fun w0 a S => ?_
 (revert S a; refine go 10 ?_; intro Z hZ a S)
 refine wpc_loop (fun m a w' => ∃ (k : Nat), m = l.length - k ∧ k ≤ l.length ∧ decide (s ∈ l) = decide (s ∈ l.drop k) ∧ St 18 [(0, .slice ao l.length cap), (1, .string (bs s)), (5, .int .i64 k)] w0 F [] F [] a w') ?_ ?_
 ·(refine ⟨l.length, 0, by omega, Nat.zero_le _, rfl, ?_⟩; refine S.keep ?_; exact zk)
 (clear S; rintro m a w ⟨k, rfl, hkl, hfp, S⟩)
 (revert S a; refine go 8 ?_; intro Z hZ a S)
 refine wpc_sp S rfl ?_ ?_ <;> intro h
 ·(revert S a; revert hZ Z; refine go 4 ?_; intro Z hZ a S)
  (refine wp_seq_k ?_; intro Z hZ)
  (obtain ⟨b8, o8, hao, hcs⟩ := hpos (by omega); rw [hao] at S; have hx : l[k]? = some l[k] := List.getElem?_eq_getElem (by omega); generalize l[k] = x at hx; have hc1 : Cel F b8 (o8 + k * 1) (.string (bs x)) := (by rw [Nat.mul_one]; exact hcs k _ (strs_at hx)))
  (revert S a; refine go 4 ?_; intro a S)
  (refine wv S (sv_loadF S rfl rfl hc1) ?_; clear S a; intro a S)
  (revert S a; revert hZ Z; refine go 4 ?_; intro a S)
  refine wpc_sp S rfl ?_ ?_ <;> intro h
  ·(revert S a; refine go 4 ?_; intro a S)
   refine wp_ret (fr1 S Tryz.results116 ?_)
   exact zzRtA0
  (revert S a; revert hZ Z; refine go 7 ?_; intro a S)
  change ∃ m', _ ∧ _
  (rw [← hao] at S; refine ⟨l.length - (k + 1), by omega, k + 1, rfl, by omega, ?_, ?_⟩; rotate_left 1; (refine S.keep ?_; exact zk); (rw [hfp, mem_drop hx, decide_eq_false (by assumption), Bool.false_or]))
 (refine wp_exit ?_; conv => whnf)
 clear hZ Z
 (revert S a; revert hZ Z; refine go 5 ?_; intro a S)
 refine wp_ret (fr1 S Tryz.results116 ?_)
 exact zzRtA0
theorem rplainCt (F : Heap) (s : List UInt8) : Ct Tryz.prog 117 [.string (bs s)] F [] (fun _ _ u => u = .bool (plainS s)) := by
 refine Ct.enter Tryz.func117 rfl Tryz.ntmps117 rfl fun w0 a S => ?_
 (revert S a; refine go 8 ?_; intro Z hZ a S)
 refine wgd S ?_ ?_
 ·(clear S; intro h S)
  (revert S a; refine go 5 ?_; intro a S)
  refine wgd S ?_ ?_
  ·(clear S; intro h S)
   (revert S a; refine go 5 ?_; intro a S)
   refine wgd S ?_ ?_
   ·(clear S; intro h S)
    (revert S a; revert hZ Z; refine go 7 ?_; intro a S)
    refine wp_ret (fr1 S Tryz.results117 ?_)
    (congr 1; unfold plainS sBool sInt sBig sText; rw [Bool.eq_iff_iff]; simp [*]; done)
   (clear S a; intro h a S)
   (revert S a; revert hZ Z; refine go 5 ?_; intro a S)
   refine wp_ret (fr1 S Tryz.results117 ?_)
   (congr 1; unfold plainS sBool sInt sBig sText; rw [Bool.eq_iff_iff]; simp [*]; done)
  (clear S a; intro h a S)
  (revert S a; revert hZ Z; refine go 9 ?_; intro a S)
  refine wp_ret (fr1 S Tryz.results117 ?_)
  (congr 1; unfold plainS sBool sInt sBig sText; rw [Bool.eq_iff_iff]; simp [*]; done)
 (clear S a; intro h a S)
 (revert S a; revert hZ Z; refine go 13 ?_; intro a S)
 refine wp_ret (fr1 S Tryz.results117 ?_)
 (congr 1; unfold plainS sBool sInt sBig sText; rw [Bool.eq_iff_iff]; simp [*]; done)
def RTab (F : Heap) (tp : Nat) (ts : List TD) : Prop := ∃ (ao : Option Addr) (cap : Nat), Cel F tp 2 (.slice ao ts.length cap) ∧ LiM F 6 TdR (.slice ao ts.length cap) ts ∧ Cel F tp 3 (.slice none 0 0) ∧ Cel F tp 4 (.slice none 0 0) ∧ Cel F tp 5 (.slice none 0 0)
theorem RTab.mono {F F' : Heap} {tp : Nat} {ts : List TD} (h : RTab F tp ts) (hF : ∀ b o, F b = some o → F' b = some o) : RTab F' tp ts := by
 obtain ⟨ao, cap, h1, h2, h3, h4, h5⟩ := h
 exact ⟨ao, cap, h1.mono hF, h2.mono hF, h3.mono hF, h4.mono hF, h5.mono hF⟩
theorem find_drop {ts : List TD} {k : Nat} {x : TD} {s : List UInt8} (hx : ts[k]? = some x) : findT (ts.drop k) s = if s = x.nm then some x else findT (ts.drop (k + 1)) s := by
 obtain ⟨h1, h2⟩ := List.getElem?_eq_some_iff.1 hx
 rw [List.drop_eq_getElem_cons h1, h2]
 unfold findT
 rw [List.find?_cons]
 by_cases e : s = x.nm
 ·rw [if_pos e, decide_eq_true e]
 ·rw [if_neg e, decide_eq_false e]
def RtQ (F' : Heap) (u : Value) (ts : List TD) (s : List UInt8) : Prop := ∃ (y : TD) (ap : Option Addr) (cp : Nat) (ac : Option Addr) (cc : Nat), u = .tuple ⟨[.agg ⟨[.int .i64 y.l, .int .i64 y.c, .bool y.pub, .string (bs y.nm), .slice ap y.ps.length cp, .slice ac y.cs.length cc]⟩, .bool (declS ts s)]⟩ ∧ (findT ts s = some y ∨ findT ts s = none ∧ y = zTD) ∧ LiM F' 1 StR (.slice ap y.ps.length cp) y.ps ∧ LiM F' 2 CdR (.slice ac y.cs.length cc) y.cs
theorem rq_none {F : Heap} {ts : List TD} {s : List UInt8} (h : findT ts s = none) : RtQ F (.tuple ⟨[.agg ⟨[.int .i64 0, .int .i64 0, .bool false, .string (bs []), .slice none 0 0, .slice none 0 0]⟩, .bool false]⟩) ts s :=
 ⟨zTD, none, 0, none, 0, by unfold declS; rw [h]; rfl, .inr ⟨h, rfl⟩, LiM.nil _ _ _, LiM.nil _ _ _⟩
theorem rq_some {F : Heap} {ts : List TD} {s : List UInt8} {y : TD} {ap : Option Addr} {cp : Nat} {ac : Option Addr} {cc : Nat} (h : findT ts s = some y) (h1 : LiM F 1 StR (.slice ap y.ps.length cp) y.ps) (h2 : LiM F 2 CdR (.slice ac y.cs.length cc) y.cs) : RtQ F (.tuple ⟨[.agg ⟨[.int .i64 y.l, .int .i64 y.c, .bool y.pub, .string (bs y.nm), .slice ap y.ps.length cp, .slice ac y.cs.length cc]⟩, .bool true]⟩) ts s :=
 ⟨y, ap, cp, ac, cc, by unfold declS; rw [h]; rfl, .inl h, h1, h2⟩
theorem zzRtA1 {p : Prop} (h : p := by (first | exact rq_some (by rw [hfp, find_drop hx, if_pos (by first | assumption | exact Eq.symm (by assumption))]) hps hcs | exact rq_none (by rw [hfp, List.drop_of_length_le (by omega)]; rfl) | trace_state)) : p := h
theorem rtypeCt (F : Heap) (tp : Nat) (ts : List TD) (hT : RTab F tp ts) (s : List UInt8) : Ct Tryz.prog 221 [.pointer (some ⟨tp, 0, none⟩), .string (bs s)] F [] (fun F' _ u => RtQ F' u ts s) := by
 obtain ⟨ao, cap, hc2, hL, -, -, -⟩ := hT
 obtain ⟨_, _, e9, hcap, hpos⟩ := id hL
 cases e9
 refine Ct.enter Tryz.func221 rfl Tryz.ntmps221 rfl fun w0 a S => ?_
 refine wp_sr fun Z hZ => ?_
 (refine wpl_alloc S rfl rfl rfl rfl ?_; clear S a; intro b4 a w S)
 (revert S a; revert hZ Z; refine go 9 ?_; intro Z hZ a S)
 refine wpc_loop (fun m a w' => ∃ (k : Nat), m = ts.length - k ∧ k ≤ ts.length ∧ findT ts s = findT (ts.drop k) s ∧ St 37 [(0, ptr tp), (1, .string (bs s)), (4, ptr b4), (6, .int .i64 k)] w0 F [] F [[(b4, .cells ⟨[.int .i64 0, .int .i64 0, .bool false, .string (bs []), .slice none 0 0, .slice none 0 0]⟩ 69 (0, 0))]] a w') ?_ ?_
 ·(refine ⟨ts.length, 0, by omega, Nat.zero_le _, rfl, ?_⟩; refine S.keep ?_; exact zk)
 (clear S; rintro m a w ⟨k, rfl, hkl, hfp, S⟩)
 (revert S a; refine go 7 ?_; intro Z hZ Z hZ a S)
 first | (refine wv S (sv_loadO S rfl rfl (by rfl)) ?_; clear S a; intro a S) | (refine wv S (sv_loadF S rfl rfl (by assumption)) ?_; clear S a; intro a S) | (refine wv S (sv_loadF S rfl rfl hc2) ?_; clear S a; intro a S)
 (revert S a; revert hZ Z; refine go 4 ?_; intro a S)
 refine wpc_sp S rfl ?_ ?_ <;> intro h
 ·(revert S a; revert hZ Z; refine go 4 ?_; intro Z hZ a S)
  (refine wp_seq_k ?_; intro Z hZ)
  (obtain ⟨b8, o8, hao, x, cs1, hx, hc1, ⟨v6, u6, rfl, hps, hcs⟩⟩ := LiM.pos hpos (k := k) (by omega); rw [hao] at S hc2; obtain ⟨a61, c61, rfl, -, -⟩ := id hps; obtain ⟨a62, c62, rfl, -, -⟩ := id hcs; have hc13 : Cel F b8 (o8 + k * 6 + 3) _ := hc1 3 _ rfl)
  (revert S a; refine go 5 ?_; intro a S)
  first | (refine wv S (sv_loadO S rfl rfl (by rfl)) ?_; clear S a; intro a S) | (refine wv S (sv_loadF S rfl rfl (by assumption)) ?_; clear S a; intro a S) | (refine wv S (sv_loadF S rfl rfl hc2) ?_; clear S a; intro a S)
  (revert S a; refine go 3 ?_; intro a S)
  (refine wv S (sv_loadF S rfl rfl hc13) ?_; clear S a; intro a S)
  (revert S a; revert hZ Z; refine go 4 ?_; intro a S)
  refine wpc_sp S rfl ?_ ?_ <;> intro h
  ·(revert S a; refine go 5 ?_; intro Z hZ a S)
   first | (refine wv S (sv_loadO S rfl rfl (by rfl)) ?_; clear S a; intro a S) | (refine wv S (sv_loadF S rfl rfl (by assumption)) ?_; clear S a; intro a S) | (refine wv S (sv_loadF S rfl rfl hc2) ?_; clear S a; intro a S)
   (revert S a; refine go 2 ?_; intro a S)
   (refine wv S (sv_loadAF S rfl rfl hc1 rfl) ?_; clear S a; intro a S)
   (refine wso S rfl rfl ?_; clear S; intro w S)
   (revert S a; revert hZ Z; refine go 3 ?_; intro a S)
   refine wp_ret (fin_ret S (results2 Tryz.results221 (RV.cellO S rfl (by rfl)) (RV.tmp S rfl)) ?_)
   exact zzRtA1
  (revert S a; revert hZ Z; refine go 7 ?_; intro a S)
  change ∃ m', _ ∧ _
  (rw [← hao] at S; refine ⟨ts.length - (k + 1), by omega, k + 1, rfl, by omega, ?_, ?_⟩; rotate_left 1; (refine S.keep ?_; exact zk); (rw [hfp, find_drop hx, if_neg (by intro e; first | exact absurd e.symm (by assumption) | exact absurd e (by assumption))]))
 (refine wp_exit ?_; conv => whnf)
 clear hZ Z
 (revert S a; revert hZ Z; refine go 3 ?_; intro Z hZ a S)
 (refine wso S rfl rfl ?_; clear S; intro w S)
 (revert S a; revert hZ Z; refine go 3 ?_; intro a S)
 refine wp_ret (fin_ret S (results2 Tryz.results221 (RV.cellO S rfl (by rfl)) (RV.tmp S rfl)) ?_)
 exact zzRtA1
theorem rq_0 {F : Heap} {u : Value} {ts : List TD} {s : List UInt8} (h : RtQ F u ts s) : ∃ (y : TD) (ap : Option Addr) (cp : Nat) (ac : Option Addr) (cc : Nat), u = .tuple ⟨[.agg ⟨[.int .i64 y.l, .int .i64 y.c, .bool y.pub, .string (bs y.nm), .slice ap y.ps.length cp, .slice ac y.cs.length cc]⟩, .bool (declS ts s)]⟩ ∧ (findT ts s = some y ∨ findT ts s = none ∧ y = zTD) := by
 obtain ⟨y, ap, cp, ac, cc, h1, h2, -⟩ := h
 exact ⟨y, ap, cp, ac, cc, h1, h2⟩
theorem openT_any (nm : List UInt8) (ar : Fo) : openT (nm, ar) = (parS nm || anyF openT ar) := by
 show (parS nm || wiL _ ar) = _
 rw [← anyF_wi]; rfl
theorem any_drop {p : Ty → Bool} {l : Fo} {k : Nat} {x : Ty} (hx : l.get? k = some x) : anyF p (l.drop k) = (p x || anyF p (l.drop (k + 1))) := by rw [Fo.drop_get hx]; rfl
theorem any_end {p : Ty → Bool} {l : Fo} {k : Nat} (h : l.len ≤ k) : anyF p (l.drop k) = false := by rw [Fo.drop_len h]; rfl
theorem zzRtA2 {p : Prop} (h : p := by (congr 1; rw [openT_any]; first | (rw [(by assumption : parS nm = true)]; rfl) | (rw [(by assumption : parS nm = false), Bool.false_or, hfp]; first | (rw [any_end (by omega)]; rfl) | (rw [any_drop hx, (by assumption : openT (x.1, x.2) = true)]; rfl)) | trace_state)) : p := h
theorem rclosedCt (F : Heap) : ∀ (n : Nat) (nm : List UInt8) (ar : Fo) (cs : List Value), ar.size ≤ n → TyC F cs nm ar → Ct Tryz.prog 130 [.agg ⟨cs⟩] F [] (fun _ _ u => u = .bool (!openT (nm, ar))) := by
 intro n
 induction n using Nat.strongRecOn with
 | _ n ih =>
 intro nm ar cs hn h
 obtain ⟨v, rfl, ao, cap, rfl, hcap, hpos⟩ := h
 refine Ct.enter Tryz.func130 rfl Tryz.ntmps130 rfl fun w0 a S => ?_
 refine wp_sr fun Z hZ => ?_
 (refine wbx S ?_; clear S a; intro b1 a w S)
 (revert S a; revert hZ Z; refine go 7 ?_; intro Z hZ Z hZ a S)
 (refine wc0 S (refParamCt F nm) ?_; clear S a; intro v a w hv S; subst hv)
 (revert S a; revert hZ Z; refine go 2 ?_; intro a S)
 refine wpc_sp S rfl ?_ ?_ <;> intro h
 ·(revert S a; refine go 4 ?_; intro a S)
  refine wp_ret (fr1 S Tryz.results130 ?_)
  exact zzRtA2
 (revert S a; revert hZ Z; refine go 8 ?_; intro Z hZ a S)
 refine wpc_loop (fun m a w' => ∃ (k : Nat), m = ar.len - k ∧ k ≤ ar.len ∧ anyF openT ar = anyF openT (ar.drop k) ∧ St 21 [(1, ptr b1), (3, .int .i64 k)] w0 F [] F [[(b1, .cells ⟨[.string (bs nm), .slice ao ar.len cap]⟩ 49 (0, 0))]] a w') ?_ ?_
 ·(refine ⟨ar.len, 0, by omega, Nat.zero_le _, rfl, ?_⟩; refine S.keep ?_; exact zk)
 (clear S; rintro m a w ⟨k, rfl, hkl, hfp, S⟩)
 (revert S a; refine go 9 ?_; intro Z hZ a S)
 refine wpc_sp S rfl ?_ ?_ <;> intro h
 ·(revert S a; revert hZ Z; refine go 4 ?_; intro Z hZ a S)
  (refine wp_seq_k ?_; intro Z hZ)
  (obtain ⟨b8, o8, hao, x, v1, hx, hc1, hT1⟩ := FoM.pos hpos (k := k) (by omega); rw [hao] at S; have hxs := Fo.size_get hx; obtain ⟨a91, c91, rfl, -⟩ := id hT1)
  (revert S a; refine go 6 ?_; intro a S)
  (refine wc0 S (ih x.2.size (by omega) x.1 x.2 _ (Nat.le_refl _) ⟨_, rfl, hT1⟩) ?_; clear S a; intro v a w hv S; subst hv)
  (revert S a; revert hZ Z; refine go 3 ?_; intro a S)
  refine wpc_sp S rfl ?_ ?_ <;> intro h
  ·(revert S a; refine go 4 ?_; intro a S)
   refine wp_ret (fr1 S Tryz.results130 ?_)
   exact zzRtA2
  (revert S a; revert hZ Z; refine go 7 ?_; intro a S)
  change ∃ m', _ ∧ _
  (rw [← hao] at S; refine ⟨ar.len - (k + 1), by omega, k + 1, rfl, by omega, ?_, ?_⟩; rotate_left 1; (refine S.keep ?_; exact zk); (rw [hfp, any_drop hx, (by assumption : openT (x.1, x.2) = false), Bool.false_or]))
 (refine wp_exit ?_; conv => whnf)
 clear hZ Z
 (revert S a; revert hZ Z; refine go 5 ?_; intro a S)
 refine wp_ret (fr1 S Tryz.results130 ?_)
 exact zzRtA2
theorem rdepthCt (F : Heap) : ∀ (n : Nat) (nm : List UInt8) (ar : Fo) (cs : List Value), ar.size ≤ n → depthL ar ≤ 1000000000 → TyC F cs nm ar → Ct Tryz.prog 169 [.agg ⟨cs⟩] F [] (fun _ _ u => u = .int .i64 (depthT (nm, ar) : Nat)) := by
 intro n
 induction n using Nat.strongRecOn with
 | _ n ih =>
 intro nm ar cs hn hb h
 obtain ⟨v, rfl, ao, cap, rfl, hcap, hpos⟩ := h
 refine Ct.enter Tryz.func169 rfl Tryz.ntmps169 rfl fun w0 a S => ?_
 refine wp_sr fun Z hZ => ?_
 (refine wbx S ?_; clear S a; intro b1 a w S)
 (revert S a; revert hZ Z; refine go 13 ?_; intro Z hZ a S)
 refine wpc_loop (fun m a w' => ∃ (k p : Nat), m = ar.len - k ∧ k ≤ ar.len ∧ max p (depthL (ar.drop k)) = depthL ar ∧ p ≤ depthL ar ∧ St 22 [(1, ptr b1), (3, .int .i64 (p : Int)), (4, .int .i64 k)] w0 F [] F [[(b1, .cells ⟨[.string (bs nm), .slice ao ar.len cap]⟩ 49 (0, 0))]] a w') ?_ ?_
 ·(refine ⟨ar.len, 0, 0, by omega, Nat.zero_le _, by rw [Nat.zero_max]; rfl, Nat.zero_le _, ?_⟩; refine S.keep ?_; exact zk)
 (clear S; rintro m a w ⟨k, p, rfl, hkl, hs, hp, S⟩)
 (revert S a; refine go 9 ?_; intro Z hZ a S)
 refine wpc_sp S rfl ?_ ?_ <;> intro h
 ·(revert S a; revert hZ Z; refine go 4 ?_; intro Z hZ a S)
  (obtain ⟨b8, o8, hao, x, v1, hx, hc1, hT1⟩ := FoM.pos hpos (k := k) (by omega); rw [hao] at S; have hxs := Fo.size_get hx; have hdd := depthL_get hx; have hdr := Fo.drop_get hx; obtain ⟨a91, c91, rfl, -⟩ := id hT1)
  (revert S a; refine go 7 ?_; intro a S)
  (refine wc0 S (ih x.2.size (by omega) x.1 x.2 _ (Nat.le_refl _) (by omega) ⟨_, rfl, hT1⟩) ?_; clear S a; intro v a w hv S; subst hv)
  first | (refine wv S (sv_maxN S rfl rfl rfl) ?_; clear S a; intro a S) | (refine wv S (sv_max0 S rfl rfl rfl) ?_; clear S a; intro a S)
  (revert S a; revert hZ Z; refine go 8 ?_; intro a S)
  change ∃ m', _ ∧ _
  (rw [← hao] at S; refine ⟨ar.len - (k + 1), by omega, k + 1, max p (depthT x), rfl, by omega, ?_, ?_, ?_⟩; rotate_left 2; (refine S.keep ?_; exact zk); (rw [← hs, hdr]; unfold depthT; simp only [depthL]; omega); (unfold depthT; omega))
 (refine wp_exit ?_; conv => whnf)
 clear hZ Z
 (revert S a; revert hZ Z; refine go 7 ?_; intro a S)
 refine wp_ret (fr1 S Tryz.results169 ?_)
 (have hz : depthL (ar.drop k) = 0 := (by rw [Fo.drop_len (by omega)]; rfl); congr 1; unfold depthT; show (p : Int) + 1 = ((depthL ar + 1 : Nat) : Int); omega)
end Go.Proofs.YthnafdbebniapaaGreatDoor
