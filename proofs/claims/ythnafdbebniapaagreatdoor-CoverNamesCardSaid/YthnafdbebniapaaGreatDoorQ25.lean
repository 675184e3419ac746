/- Walks. -/
import Derived.Test.YthnafdbebniapaaGreatDoorQ24
import Derived.Test.YthnafdbebniapaaGreatDoorQ18
import Derived.Test.YthnafdbebniapaaGreatDoorQ08
set_option maxHeartbeats 8000000
set_option maxRecDepth 20000
namespace Go.Proofs.YthnafdbebniapaaGreatDoor
open Go Go.Wk Go.Un Go.De Go.Cv
set_option linter.unusedSimpArgs false
set_option linter.unusedVariables false
attribute [local irreducible] Go.wpList Go.Code.wp Go.wpStill Go.Wk.wpPre Go.bodyPost Go.Calls Go.Wk.Ct Go.Wk.OwnS Go.Wk.wpG Go.Wk.wpM
def eqE (p : EH → Ef → Ty → Bool) : Ef → List Ty → Bool
 | .nil, [] => true
 | .cons h L r, t :: ts => p h L t && eqE p r ts
 | _, _ => false
theorem eqE_len (p : EH → Ef → Ty → Bool) : ∀ (l : Ef) (m : List Ty), l.len ≠ m.length → eqE p l m = false
 | .nil, [], h => absurd rfl h
 | .nil, _ :: _, _ => rfl
 | .cons _ _ _, [], _ => rfl
 | .cons h L r, t :: ts, hl => by
  show (p h L t && eqE p r ts) = false
  rw [eqE_len p r ts (by intro e; apply hl; simp only [Rose.len, List.length_cons]; omega), Bool.and_false]
theorem eqE_drop {p : EH → Ef → Ty → Bool} {l : Ef} {m : List Ty} {k : Nat} {x : EH × Ef} {y : Ty} (hx : l.get? k = some x) (hy : m[k]? = some y) : eqE p (l.drop k) (m.drop k) = (p x.1 x.2 y && eqE p (l.drop (k + 1)) (m.drop (k + 1))) := by
 obtain ⟨h1, h2⟩ := List.getElem?_eq_some_iff.1 hy
 rw [Rose.drop_get hx, List.drop_eq_getElem_cons h1, h2]
 rfl
theorem eqE_end {p : EH → Ef → Ty → Bool} {l : Ef} {m : List Ty} {k : Nat} (h1 : l.len ≤ k) (h2 : m.length ≤ k) : eqE p (l.drop k) (m.drop k) = true := by
 rw [Rose.drop_len h1, List.drop_eq_nil_of_le h2]; rfl
theorem eqE_fit (ts : List TD) (css : List KC) : ∀ (l : Ef) (m : List Ty), eqE (fun h L x => kidOK ts css h L.len x && fitL ts css L (kidF css h L.len x)) l m = fitL ts css l m
 | .nil, [] => rfl
 | .nil, _ :: _ => rfl
 | .cons _ _ _, [] => rfl
 | .cons h L r, t :: m => by show (_ && eqE _ r m) = _; rw [eqE_fit ts css r m]; rfl
theorem zzCl0 {p : Prop} (h : p := by (congr 1; first | (rw [← hfp, eqE_end (by omega) (by rw [tysOf_len]; omega)]; done) | (rw [← hfp, eqE_drop hx hyt, (by assumption : p x.1 x.2 y = false), Bool.false_and]; done) | (rw [eqE_len]; rw [tysOf_len]; omega) | trace_state)) : p := h
theorem eqETCt (F : Heap) (l : Ef) (v : Value) (h : TrS F 9 EhR v l) (ar : Fo) (v2 : Value) (h2 : SlF F v2 ar) (fid : FuncId) (fi ca : List Value) [hfn : HasFn Tryz.prog fid] (p : EH → Ef → Ty → Bool)
  (hcl : ∀ k x y cs cs2, l.get? k = some x → ar.get? k = some y → PxC F cs x.1 x.2 → TyC F cs2 y.1 y.2 → Ct Tryz.prog fid (fi ++ [.agg ⟨cs⟩, .agg ⟨cs2⟩] ++ ca) F [] (fun _ _ u => u = .bool (p x.1 x.2 y))) :
  Ct Tryz.prog 74 [v, v2, .func (.func fid) ⟨fi⟩ ⟨ca⟩] F [] (fun _ _ u => u = .bool (eqE p l (tysOf ar))) := by
 obtain ⟨ao, cap, rfl, hcap, hpos⟩ := h
 obtain ⟨ao2, cap2, rfl, hcap2, hpos2⟩ := h2
 refine Ct.enter Tryz.func74 rfl Tryz.ntmps74 rfl fun w0 a S => ?_
 (revert S a; refine go 13 ?_; intro Z hZ a S)
 refine wpc_sp S rfl ?_ ?_ <;> intro h
 ·(revert S a; refine go 4 ?_; intro a S)
  refine wp_ret (fr1 S Tryz.results74 ?_)
  exact zzCl0
 (revert S a; revert hZ Z; refine go 10 ?_; intro Z hZ a S)
 refine wpc_loop (fun m a w' => ∃ (k : Nat), m = l.len - k ∧ k ≤ l.len ∧ eqE p (l.drop k) ((tysOf ar).drop k) = eqE p l (tysOf ar) ∧ St 32 [(0, .slice ao l.len cap), (1, .slice ao2 ar.len cap2), (2, .func (.func fid) ⟨fi⟩ ⟨ca⟩), (15, .slice ao l.len cap), (16, .int .i64 l.len), (17, .int .i64 k)] w0 F [] F [] a w') ?_ ?_
 ·(have hll : l.len = ar.len := (by omega); refine ⟨l.len, 0, by omega, Nat.zero_le _, rfl, ?_⟩; refine S.keep ?_; exact zk)
 (clear S; rintro m a w ⟨k, rfl, hkl, hfp, S⟩)
 (revert S a; refine go 5 ?_; intro Z hZ a S)
 refine wpc_sp S rfl ?_ ?_ <;> intro h
 ·(revert S a; revert hZ Z; refine go 4 ?_; intro Z hZ a S)
  (refine wp_seq_k ?_; intro Z hZ)
  (obtain ⟨b8, o8, hao, x, cs1, v1, hx, hc1, hR1, hT1⟩ := TrM.pos hpos (k := k) (by omega); rw [hao] at S; obtain ⟨w1, rfl, h2w⟩ := hR1; have h2x := h2w; have hTx := hT1; obtain ⟨a1, c1, rfl, -⟩ := h2w; obtain ⟨a91, c91, rfl, -⟩ := hT1; (simp only [List.cons_append, List.nil_append] at hc1); obtain ⟨b9, o9, hao2, y, v2, hy, hc2, hT2⟩ := FoM.pos hpos2 (k := k) (by omega); rw [hao2] at S; have hyt : (tysOf ar)[k]? = some y := (by rw [tysOf_get]; exact hy); have hT2c := hT2; obtain ⟨a92, c92, rfl, -⟩ := hT2c)
  (revert S a; refine go 4 ?_; intro a S)
  (refine wpl_alloc S rfl rfl rfl rfl ?_; clear S a; intro b8 a w S)
  (revert S a; refine go 1 ?_; intro a S)
  (refine wso S rfl rfl ?_; clear S; intro w S)
  (revert S a; revert hZ Z; refine go 7 ?_; intro Z hZ a S)
  (refine wpl_alloc S rfl rfl rfl rfl ?_; clear S a; intro b9 a w S)
  (refine wso S rfl rfl ?_; clear S; intro w S)
  (revert S a; revert hZ Z; refine go 6 ?_; intro Z hZ a S)
  (refine wc0 S (hcl k x y _ _ hx hy ⟨_, _, _, _, _, rfl, h2x, hTx⟩ ⟨_, rfl, hT2⟩) ?_; clear S a; intro v a w hv S; subst hv)
  (revert S a; revert hZ Z; refine go 3 ?_; intro a S)
  refine wpc_sp S rfl ?_ ?_ <;> intro h
  ·(revert S a; refine go 4 ?_; intro a S)
   refine wp_ret (fr1 S Tryz.results74 ?_)
   exact zzCl0
  (revert S a; revert hZ Z; refine go 6 ?_; intro a S)
  change ∃ m', _ ∧ _
  (rw [← hao, ← hao2] at S; replace S := S.drop1.drop1; refine ⟨l.len - (k + 1), by omega, k + 1, rfl, by omega, ?_, ?_⟩; rotate_left 1; (refine S.keep ?_; exact zk); rw [← hfp, eqE_drop hx hyt, (by assumption : p x.1 x.2 y = true), Bool.true_and])
 (refine wp_exit ?_; conv => whnf)
 clear hZ Z
 (revert S a; revert hZ Z; refine go 5 ?_; intro a S)
 refine wp_ret (fr1 S Tryz.results74 ?_)
 exact zzCl0
def CTab (F : Heap) (tb : Nat) (ts : List TD) : Prop := ∃ m1 m2 m3 rs, TabS F tb m1 m2 m3 ts (consOf ts) rs ∧ KThin (consOf ts) ∧ KSz (consOf ts) ∧ ∀ c ∈ consOf ts, ∀ f ∈ c.fs, depthL f.ta ≤ 1000
theorem CTab.mono {F F' : Heap} {tb : Nat} {ts : List TD} (h : CTab F tb ts) (hF : ∀ b o, F b = some o → F' b = some o) : CTab F' tb ts := by
 obtain ⟨m1, m2, m3, rs, h1, h2⟩ := h
 exact ⟨m1, m2, m3, rs, h1.mono hF, h2⟩
theorem kidF_x {css : List KC} {h : EH} {n : Nat} {x : Ty} (h4 : ¬ h.k = 4) (h5 : ¬ h.k = 5) : kidF css h n x = [] := by unfold kidF; rw [if_neg h4, if_neg h5]
theorem kidF_4 {css : List KC} {h : EH} {n : Nat} {x : Ty} (h4 : h.k = 4) : kidF css h n x = tysOf x.2 := by unfold kidF; rw [if_pos h4]
theorem kidF_n {css : List KC} {h : EH} {n : Nat} {x : Ty} (h5 : h.k = 5) (hc : findC css h.nm = none) : kidF css h n x = [] := by unfold kidF; rw [if_neg (by omega), if_pos h5, hc]
theorem kidF_no {css : List KC} {h : EH} {n : Nat} {x : Ty} {c : KC} (h5 : h.k = 5) (hc : findC css h.nm = some c) (h6 : ¬ (c.ty = x.1 ∧ c.fs.length = n)) : kidF css h n x = [] := by unfold kidF; rw [if_neg (by omega), if_pos h5, hc]; dsimp only; rw [if_neg h6]
theorem kidF_s {css : List KC} {h : EH} {n : Nat} {x : Ty} {c : KC} (h5 : h.k = 5) (hc : findC css h.nm = some c) (h6 : c.ty = x.1 ∧ c.fs.length = n) : kidF css h n x = c.fs.map fun f => putT c.ps x.2 (f.tn, f.ta) := by unfold kidF; rw [if_neg (by omega), if_pos h5, hc]; dsimp only; rw [if_pos h6]
theorem kidOK_1 {ts : List TD} {css : List KC} {h : EH} {n : Nat} {x : Ty} (h1 : h.k = 1) : kidOK ts css h n x = isF ts css h.v h.vl x := by unfold kidOK; rw [if_pos h1]
theorem kidOK_4 {ts : List TD} {css : List KC} {h : EH} {n : Nat} {x : Ty} (h4 : h.k = 4) : kidOK ts css h n x = (decide (x.1 = sTuple) && decide (x.2.len = n)) := by unfold kidOK; rw [if_neg (by omega), if_pos h4]
theorem kidOK_n {ts : List TD} {css : List KC} {h : EH} {n : Nat} {x : Ty} (h5 : h.k = 5) (hc : findC css h.nm = none) : kidOK ts css h n x = false := by unfold kidOK; rw [if_neg (by omega), if_neg (by omega), if_pos h5, hc]
theorem kidOK_s {ts : List TD} {css : List KC} {h : EH} {n : Nat} {x : Ty} {c : KC} (h5 : h.k = 5) (hc : findC css h.nm = some c) : kidOK ts css h n x = (decide (c.ty = x.1) && decide (c.fs.length = n)) := by unfold kidOK; rw [if_neg (by omega), if_neg (by omega), if_pos h5, hc]
theorem kidOK_x {ts : List TD} {css : List KC} {h : EH} {n : Nat} {x : Ty} (h1 : ¬ h.k = 1) (h4 : ¬ h.k = 4) (h5 : ¬ h.k = 5) : kidOK ts css h n x = true := by unfold kidOK; rw [if_neg h1, if_neg h4, if_neg h5]
def KidQ (F' : Heap) (u : Value) (l : List Ty) (b : Bool) : Prop := ∃ (ao : Option Addr) (q c : Nat), u = .tuple ⟨[.slice ao q c, .bool b]⟩ ∧ SlF F' (.slice ao q c) (foOf l)
theorem kidq_nil (F' : Heap) (b : Bool) : KidQ F' (.tuple ⟨[.slice none 0 0, .bool b]⟩) [] b := ⟨none, 0, 0, rfl, SlF.nil F'⟩
theorem zzCl1 {p : Prop} (h : p := by (first | (rw [kidF_x (by omega) (by omega), kidOK_1 (by omega)]; exact kidq_nil _ _) | (rw [kidF_4 (by omega), kidOK_4 (by omega)]; refine ⟨_, _, _, ?_, by rw [fo_tys]; exact hva0⟩; congr 5; first | (rw [decide_eq_true (by assumption), Bool.true_and]; exact (Bool.eq_iff_iff.2 (by rw [beq_iff_eq, decide_eq_true_eq]; omega))) | (rw [decide_eq_false (by assumption), Bool.false_and])) | (have hxn : findC (consOf ts) eh.nm = none := none_of (by assumption); rw [kidF_n (by omega) hxn, kidOK_n (by omega) hxn]; exact kidq_nil _ _) | (have hxs : findC (consOf ts) eh.nm = some x := some_of hfx (by assumption); first | (rw [kidF_no (by omega) hxs (by rintro ⟨e1, e2⟩; first | omega | exact absurd e1 (by assumption)), kidOK_s (by omega) hxs]; have e0 : (decide (x.ty = t.1) && decide (x.fs.length = L.len)) = false := (by rw [Bool.and_eq_false_iff]; first | exact .inl (decide_eq_false (by assumption)) | exact .inr (decide_eq_false (by omega))); rw [e0]; exact kidq_nil _ _) | (have e1 : x.ty = t.1 := (by first | assumption | (apply Classical.byContradiction; assumption)); rw [kidF_s (by omega) hxs ⟨e1, by omega⟩, kidOK_s (by omega) hxs, decide_eq_true e1, decide_eq_true (by omega)]; exact ⟨_, _, _, rfl, hv8⟩)) | (rw [kidF_x (by omega) (by omega), kidOK_x (by omega) (by omega) (by omega)]; exact kidq_nil _ _) | trace_state)) : p := h
theorem kidsCt (F : Heap) (tb : Nat) (ts : List TD) (hT : CTab F tb ts) (eh : EH) (L : Ef) (cs : List Value) (hX : PxC F cs eh L) (hb : BndH eh) (t : Ty) (cs2 : List Value) (hty : TyC F cs2 t.1 t.2) (hth : ThinT t) (hd : depthL t.2 ≤ 100000000) :
  Ct Tryz.prog 73 [.pointer (some ⟨tb, 0, none⟩), .agg ⟨cs⟩, .agg ⟨cs2⟩] F [] (fun F' _ u => KidQ F' u (kidF (consOf ts) eh L.len t) (kidOK ts (consOf ts) eh L.len t)) := by
 obtain ⟨m1, m2, m3, rs, hTS, hKT, hKS, hKD⟩ := hT
 obtain ⟨a1, n1, c1, ao, cap, rfl, hv, hL⟩ := hX
 have hty0 := hty
 obtain ⟨va, rfl, hva⟩ := hty
 have hva0 := hva
 obtain ⟨aa, ca, rfl, -, -⟩ := hva
 refine Ct.enter Tryz.func73 rfl Tryz.ntmps73 rfl fun w0 a S => ?_
 refine wp_sr fun Z hZ => ?_
 (refine wbx S ?_; clear S a; intro b4 a w S)
 (refine wbx S ?_; clear S a; intro b5 a w S)
 (revert S a; revert hZ Z; refine go 16 ?_; intro Z hZ a S)
 refine wpc_sp S rfl ?_ ?_ <;> intro h
 ·(revert S a; refine go 5 ?_; intro Z hZ a S)
  (refine wc0 S (isUCt F tb m1 m2 m3 ts (consOf ts) rs hTS hKT eh.v eh.vl _ ⟨_, rfl, hv, hb.2⟩ t _ hd hth hty0) ?_; clear S a; intro v a w hv9 S; subst hv9)
  (revert S a; revert hZ Z; refine go 4 ?_; intro a S)
  refine wp_ret (fr2 S Tryz.results73 ?_)
  exact zzCl1
 (revert S a; refine go 5 ?_; intro a S)
 refine wpc_sp S rfl ?_ ?_ <;> intro h
 ·(refine wp_seq_k ?_; intro Z hZ)
  (refine wpc_mixM [0, 1, 2, 3, 4, 5, 6, 7, 8, 9, 10, 11, 12, 13] [1, 3, 7, 10] [] (.one 0 (.one 1 (.one 2 (.one 3 (.one 4 (.one 5 (.one 6 (.one 7 (.one 8 (.one 9 (.one 10 (.one 11 (.one 12 (.one 13 (.one 14 (.one 15 .nil)))))))))))))))) [b5, b4] S mixed (by kernel_rfl) ?_; clear S; intro w S)
  (revert S a; refine go 6 ?_; intro a S)
  refine St.pt 26 true S rfl ?_ ?_ <;> clear S <;> intro h S
  ·(revert S a; revert hZ Z; refine go 16 ?_; intro a S)
   refine wp_ret (fr2 S Tryz.results73 ?_)
   exact zzCl1
  (revert S a; revert hZ Z; refine go 16 ?_; intro a S)
  refine wp_ret (fr2 S Tryz.results73 ?_)
  exact zzCl1
 (revert S a; refine go 5 ?_; intro a S)
 refine wpc_sp S rfl ?_ ?_ <;> intro h
 ·(revert S a; refine go 4 ?_; intro Z hZ a S)
  (refine wcF S (consMCt F tb m1 m2 m3 ts (consOf ts) rs hTS hKS eh.nm) ?_; clear S a; intro u9 F9 a w hv9 hF9 S; obtain ⟨x, a7, n7, c7, a4, c4, rfl, hfx, hps, hfs⟩ := hv9)
  (revert S a; refine go 3 ?_; intro a S)
  (refine wpl_alloc S rfl rfl rfl rfl ?_; clear S a; intro b8 a w S)
  (refine wso S rfl rfl ?_; clear S; intro w S)
  (revert S a; revert hZ Z; refine go 8 ?_; intro Z hZ Z hZ a S)
  refine wgd S ?_ ?_
  ·(clear S; intro h S)
   (revert S a; refine go 11 ?_; intro a S)
   refine wgd S ?_ ?_
   ·(clear S; intro h S)
    (revert S a; revert hZ Z; refine go 16 ?_; intro a S)
    refine wpc_sp S rfl ?_ ?_ <;> intro h
    ·(revert S a; refine go 5 ?_; intro a S)
     refine wp_ret (fr2 S Tryz.results73 ?_)
     exact zzCl1
    (revert S a; revert hZ Z; refine go 5 ?_; intro Z hZ a S)
    (have hxs : findC (consOf ts) eh.nm = some x := some_of hfx (by assumption); have hxm := findC_mem hxs; have hsz := hKS x hxm; refine wcF S (cputCt F9 x t _ _ a4 c4 hps hfs (hva0.mono hF9) hsz.1 hsz.2.1 hsz.2.2 hth.2) ?_; clear S a; intro u8 F8 a w hv8 hF8 S; have hv8c := hv8; obtain ⟨a8, c8, rfl, -, -⟩ := hv8c)
    (revert S a; revert hZ Z; refine go 4 ?_; intro a S)
    refine wp_ret (fr2 S Tryz.results73 ?_)
    exact zzCl1
   (clear S a; intro h a S)
   (revert S a; revert hZ Z; refine go 9 ?_; intro a S)
   refine wpc_true S rfl ?_
   (revert S a; refine go 5 ?_; intro a S)
   refine wp_ret (fr2 S Tryz.results73 ?_)
   exact zzCl1
  (clear S a; intro h a S)
  (revert S a; revert hZ Z; refine go 16 ?_; intro a S)
  refine wpc_true S rfl ?_
  (revert S a; refine go 5 ?_; intro a S)
  refine wp_ret (fr2 S Tryz.results73 ?_)
  exact zzCl1
 (revert S a; revert hZ Z; refine go 7 ?_; intro a S)
 refine wp_ret (fr2 S Tryz.results73 ?_)
 exact zzCl1
def fitE (ts : List TD) (css : List KC) (h : EH) (L : Ef) (x : Ty) : Bool := kidOK ts css h L.len x && fitL ts css L (kidF css h L.len x)
theorem depth_put {ps : List (List UInt8)} {L : Fo} : ∀ l : Fo, depthL (putL ps L l) ≤ depthL l + depthL L
 | .nil => Nat.zero_le _
 | .cons nm ar r => by
  have h1 := depth_put (ps := ps) (L := L) ar
  have h2 := depth_put (ps := ps) (L := L) r
  rw [putL_cons]
  have h3 : depthL (putT ps L (nm, ar)).2 + 1 ≤ depthL ar + depthL L + 1 := by
   unfold putT
   cases hp : putA ps L nm with
   | none => show depthL (putL ps L ar) + 1 ≤ _; omega
   | some t => obtain ⟨k, hk⟩ := putA_get hp; have := depthL_get hk; show depthL t.2 + 1 ≤ _; omega
  simp only [depthL]
  omega
theorem depth_putT {ps : List (List UInt8)} {L : Fo} (a : Ty) : depthL (putT ps L a).2 ≤ depthL a.2 + depthL L := by
 unfold putT
 cases hp : putA ps L a.1 with
 | none => exact depth_put a.2
 | some t => obtain ⟨k, hk⟩ := putA_get hp; have := depthL_get hk; show depthL t.2 ≤ _; omega
theorem kid_types {css : List KC} (hKT : KThin css) (hKD : ∀ c ∈ css, ∀ f ∈ c.fs, depthL f.ta ≤ 1000) {h : EH} {n : Nat} {t : Ty} (hth : ThinT t) : ∀ y ∈ kidF css h n t, ThinT y ∧ depthL y.2 ≤ depthL t.2 + 1000 := by
 intro y hy
 unfold kidF at hy
 split at hy
 ·obtain ⟨k, hk⟩ := mem_tys hy
  have := depthL_get hk
  exact ⟨hth.2.get hk, by omega⟩
 ·split at hy
  ·cases hc : findC css h.nm with
   | none => rw [hc] at hy; cases hy
   | some c =>
    rw [hc] at hy
    dsimp only at hy
    split at hy
    ·obtain ⟨f, hf, rfl⟩ := List.mem_map.1 hy
     have h1 := hKT c (findC_mem hc) f hf
     have h2 := hKD c (findC_mem hc) f hf
     have h3 := depth_putT (ps := c.ps) (L := t.2) (f.tn, f.ta)
     exact ⟨ThinT.put hth.2 h1, by show depthL (putT c.ps t.2 (f.tn, f.ta)).2 ≤ _; have h4 : depthL (f.tn, f.ta).2 ≤ 1000 := h2; omega⟩
    ·cases hy
  ·cases hy
def FitD (tb : Nat) (ts : List TD) (n : Nat) : Prop := ∀ (F : Heap) (h : EH) (L : Ef) (cs : List Value) (t : Ty) (cs2 : List Value), L.size < n → CTab F tb ts → PxC F cs h L → BndH h → BndL L → TyC F cs2 t.1 t.2 → ThinT t → depthL t.2 + 2000 * L.size ≤ 100000000 →
 Ct Tryz.prog 43 [.pointer (some ⟨tb, 0, none⟩), .agg ⟨cs⟩, .agg ⟨cs2⟩] F [] (fun _ _ u => u = .bool (fitE ts (consOf ts) h L t))
theorem fits1Ct {tb : Nat} {ts : List TD} {n : Nat} (hF : FitD tb ts n) (F : Heap) (hT : CTab F tb ts) (bt : Nat) (hbt : Cel F bt 0 (ptr tb)) (eh : EH) (L : Ef) (cs : List Value) (t : Ty) (cs2 : List Value) (hn : L.size < n) (hX : PxC F cs eh L) (hb : BndH eh) (hbl : BndL L) (hty : TyC F cs2 t.1 t.2) (hth : ThinT t) (hd : depthL t.2 + 2000 * L.size ≤ 100000000) :
  Ct Tryz.prog 75 ([] ++ [.agg ⟨cs⟩, .agg ⟨cs2⟩] ++ [.pointer (some ⟨bt, 0, none⟩)]) F [] (fun _ _ u => u = .bool (fitE ts (consOf ts) eh L t)) := by
 have hf := hF F eh L cs t cs2 hn hT hX hb hbl hty hth hd
 obtain ⟨a1, n1, c1, ao, cap, rfl, -, -⟩ := hX
 obtain ⟨va, rfl, hva⟩ := hty
 obtain ⟨aa, ca, rfl, -, -⟩ := hva
 refine Ct.enter Tryz.func75 rfl Tryz.ntmps75 rfl fun w0 a S => ?_
 refine wp_sr fun Z hZ => ?_
 (refine wbx S ?_; clear S a; intro b3 a w S)
 (refine wbx S ?_; clear S a; intro b4 a w S)
 (revert S a; revert hZ Z; refine go 4 ?_; intro Z hZ a S)
 (refine wv S (sv_loadF S rfl rfl hbt) ?_; clear S a; intro a S)
 (revert S a; refine go 2 ?_; intro a S)
 (refine wc0 S (hf) ?_; clear S a; intro v a w hv S; subst hv)
 (revert S a; revert hZ Z; refine go 3 ?_; intro a S)
 refine wp_ret (fr1 S Tryz.results75 ?_)
 rfl
theorem zzCn0 {p : Prop} (h : p := by (congr 1; unfold fitE; first | (rw [(by assumption : kidOK ts (consOf ts) eh L.len t = true), Bool.true_and]; done) | (rw [(by assumption : kidOK ts (consOf ts) eh L.len t = false), Bool.false_and]; done) | trace_state)) : p := h
theorem fitsCt (tb : Nat) (ts : List TD) : ∀ n, FitD tb ts n := by
 intro n
 induction n with
 | zero => intro F h L cs t cs2 hn; omega
 | succ n ih =>
 intro F eh L cs t cs2 hn hT hX hb hbl hty hth hd
 have hk := kidsCt F tb ts hT eh L cs hX hb t cs2 hty hth (by omega)
 have hTc := hT
 obtain ⟨m1, m2, m3, rs, hTS, hKT, hKS, hKD⟩ := hTc
 have hkt := kid_types hKT hKD (h := eh) (n := L.len) hth
 obtain ⟨a1, n1, c1, ao, cap, rfl, hv, hL⟩ := hX
 obtain ⟨va, rfl, hva⟩ := hty
 obtain ⟨aa, ca, rfl, -, -⟩ := hva
 refine Ct.enter Tryz.func43 rfl Tryz.ntmps43 rfl fun w0 a S => ?_
 refine wp_sr fun Z hZ => ?_
 (refine wbx S ?_; clear S a; intro b3 a w S)
 (refine wbx S ?_; clear S a; intro b4 a w S)
 (refine wbx S ?_; clear S a; intro b5 a w S)
 (revert S a; revert hZ Z; refine go 7 ?_; intro Z hZ a S)
 (refine wcF S hk ?_; clear S a; intro u9 F9 a w hv9 hF9 S; obtain ⟨aK, qK, cK, rfl, hK9⟩ := hv9)
 (revert S a; revert hZ Z; refine go 10 ?_; intro Z hZ a S)
 refine wgd S ?_ ?_
 ·(clear S; intro h S)
  (revert S a; refine go 8 ?_; intro a S)
  (replace S := St.pullB b3 S; have S' := frz1 S; clear S; obtain ⟨F5, hle5, hb3, S⟩ := S'; have hle : ∀ b o, F b = some o → F5 b = some o := (fun b o h => hle5 _ _ (hF9 _ _ h)); have hc := eqETCt F5 L _ (hL.mono hle) (foOf (kidF (consOf ts) eh L.len t)) _ (hK9.mono hle5) 75 [] [.pointer (some ⟨b3, 0, none⟩)] (fun h L x => fitE ts (consOf ts) h L x) (fun k x y cs cs2 hx hy hX2 hT2 => by have hsz := Rose.size_get hx; have hg := hbl.get hx; have hym : y ∈ kidF (consOf ts) eh L.len t := (by rw [← tys_fo (kidF (consOf ts) eh L.len t)]; exact List.mem_of_getElem? ((tysOf_get _ k).trans hy)); obtain ⟨h8, h9⟩ := hkt y hym; exact fits1Ct ih F5 (hT.mono hle) b3 ⟨_, _, _, hb3, rfl⟩ x.1 x.2 cs y cs2 (by omega) hX2 hg.1 hg.2 hT2 h8 (by omega)); rw [tys_fo] at hc; have e9 := eqE_fit ts (consOf ts) L (kidF (consOf ts) eh L.len t); rw [show (fun h L x => fitE ts (consOf ts) h L x) = (fun (h : EH) (L : Ef) (x : Ty) => kidOK ts (consOf ts) h L.len x && fitL ts (consOf ts) L (kidF (consOf ts) h L.len x)) from rfl, e9] at hc; refine wc0 S hc ?_; clear S a hc e9; intro v a w hv9 S; subst hv9)
  (revert S a; revert hZ Z; refine go 4 ?_; intro a S)
  refine wp_ret (fr1 S Tryz.results43 ?_)
  exact zzCn0
 (clear S a; intro h a S)
 (revert S a; revert hZ Z; refine go 8 ?_; intro a S)
 refine wp_ret (fr1 S Tryz.results43 ?_)
 exact zzCn0
theorem cwellCt (F : Heap) (tb : Nat) (ts : List TD) (hT : CTab F tb ts) (t : Ty) (cs2 : List Value) (hty : TyC F cs2 t.1 t.2) (hd : depthL t.2 ≤ 100000000) : Ct Tryz.prog 42 [.pointer (some ⟨tb, 0, none⟩), .agg ⟨cs2⟩] F [] (fun _ _ u => u = .bool (wellT ts t)) := by
 obtain ⟨m1, m2, m3, rs, hTS, -⟩ := hT
 have hw := wellUCt F tb m1 m2 m3 ts (consOf ts) rs hTS t _ hd hty
 obtain ⟨va, rfl, hva⟩ := hty
 obtain ⟨aa, ca, rfl, -, -⟩ := hva
 refine Ct.enter Tryz.func42 rfl Tryz.ntmps42 rfl fun w0 a S => ?_
 refine wp_sr fun Z hZ => ?_
 (refine wbx S ?_; clear S a; intro b3 a w S)
 (revert S a; revert hZ Z; refine go 6 ?_; intro Z hZ a S)
 (refine wc0 S (hw) ?_; clear S a; intro v a w hv S; subst hv)
 (revert S a; revert hZ Z; refine go 3 ?_; intro a S)
 refine wp_ret (fr1 S Tryz.results42 ?_)
 rfl
def FitsF (ts : List TD) (h : EH) (L : Ef) (t : Ty) : Bool := patZ h L && (wellT ts t && fitE ts (consOf ts) h L t)
theorem zzCn1 {p : Prop} (h : p := by (congr 1; unfold FitsF; first | (rw [(by assumption : patZ eh L = false), Bool.false_and]; done) | (rw [(by assumption : patZ eh L = true), Bool.true_and]; first | (rw [(by assumption : wellT ts t = false), Bool.false_and]; done) | (rw [(by assumption : wellT ts t = true), Bool.true_and]; done)) | trace_state)) : p := h
theorem FitsCt (F : Heap) (hM : MaxF F) (tb : Nat) (ts : List TD) (hT : CTab F tb ts) (eh : EH) (L : Ef) (cs : List Value) (t : Ty) (cs2 : List Value) (hX : PxC F cs eh L) (hb : BndH eh) (hbl : BndL L) (hty : TyC F cs2 t.1 t.2) (hth : ThinT t) (hd : depthL t.2 + 2000 * L.size ≤ 100000000) :
  Ct Tryz.prog 20 [.pointer (some ⟨tb, 0, none⟩), .agg ⟨cs⟩, .agg ⟨cs2⟩] F [] (fun _ _ u => u = .bool (FitsF ts eh L t)) := by
 have h1 := PatternCt F eh L cs hM hb hbl hX
 have h2 := cwellCt F tb ts hT t cs2 hty (by omega)
 have h3 := fitsCt tb ts (L.size + 1) F eh L cs t cs2 (Nat.lt_succ_self _) hT hX hb hbl hty hth hd
 obtain ⟨a1, n1, c1, ao, cap, rfl, -, -⟩ := hX
 obtain ⟨va, rfl, hva⟩ := hty
 obtain ⟨aa, ca, rfl, -, -⟩ := hva
 refine Ct.enter Tryz.func20 rfl Tryz.ntmps20 rfl fun w0 a S => ?_
 refine wp_sr fun Z hZ => ?_
 (refine wbx S ?_; clear S a; intro b4 a w S)
 (refine wbx S ?_; clear S a; intro b5 a w S)
 (revert S a; revert hZ Z; refine go 5 ?_; intro Z hZ a S)
 (refine wv S (sv_lit (c := true) (sv_nePtr S rfl rfl rfl) (by rfl)) ?_; clear S a; intro a S)
 (revert S a; refine go 4 ?_; intro a S)
 (refine wc0 S (h1) ?_; clear S a; intro v a w hv S; subst hv)
 (revert S a; refine go 2 ?_; intro a S)
 refine wgd S ?_ ?_
 ·(clear S; intro h S)
  (revert S a; refine go 4 ?_; intro a S)
  (refine wc0 S (h2) ?_; clear S a; intro v a w hv S; subst hv)
  (revert S a; refine go 2 ?_; intro a S)
  refine wgd S ?_ ?_
  ·(clear S; intro h S)
   (revert S a; refine go 6 ?_; intro a S)
   (refine wc0 S (h3) ?_; clear S a; intro v a w hv S; subst hv)
   (revert S a; revert hZ Z; refine go 4 ?_; intro a S)
   refine wp_ret (fr1 S Tryz.results20 ?_)
   exact zzCn1
  (clear S a; intro h a S)
  (revert S a; revert hZ Z; refine go 7 ?_; intro a S)
  refine wp_ret (fr1 S Tryz.results20 ?_)
  exact zzCn1
 (clear S a; intro h a S)
 (revert S a; revert hZ Z; refine go 12 ?_; intro a S)
 refine wp_ret (fr1 S Tryz.results20 ?_)
 exact zzCn1
def ThV : Vf → Prop
 | .nil => True
 | .cons _ L r => L.len * 56 ≤ 140737488355328 ∧ ThV L ∧ ThV r
theorem ThV.get : ∀ {l : Vf} {k : Nat} {x : VH × Vf}, ThV l → l.get? k = some x → x.2.len * 56 ≤ 140737488355328 ∧ ThV x.2
 | .cons h L r, 0, x, hl, e => by cases e; exact ⟨hl.1, hl.2.1⟩
 | .cons h L r, k + 1, x, hl, e => ThV.get (l := r) (k := k) hl.2.2 e
theorem kids_lim {α : Type} {sz : Nat} {R : Heap → α → List Value → Prop} {F : Heap} {v : Value} {l : Rose α} (h : TrS F sz R v l) : LiM F sz (RoR sz R) v (kids l) := by
 obtain ⟨ao, cap, rfl, hc, hpos⟩ := h.sq
 refine ⟨ao, cap, by rw [kids_len], by rw [kids_len]; exact hc, fun hp => ?_⟩
 rw [kids_len] at hp
 obtain ⟨b, o, e, h1⟩ := hpos hp
 refine ⟨b, o, e, fun k x hx => ?_⟩
 have hk : k < l.len := by rw [← kids_len]; exact (List.getElem?_eq_some_iff.1 hx).1
 rw [kids_get] at hx
 obtain ⟨cs, h2, h3, y, c1, u, h4, h5, h6, h7⟩ := h1 k hk
 rw [hx] at h4
 cases h4
 exact ⟨cs, h2, h3, c1, u, h5, by rw [h5] at h3; simpa using h3, h6, h7⟩
instance : OneC (RoR 4 VhR) := ⟨fun ⟨c, v, h1, _, ⟨h3, _⟩, ⟨_, _, h4, _⟩⟩ => by
 subst h1; subst h3; subst h4
 intro u hu
 simp at hu
 rcases hu with rfl | rfl | rfl | rfl <;> rfl⟩
theorem cut_mid {xa cs cs' xb ex : List Value} {n : Nat} (h : xa.length = n) : (xa ++ cs ++ xb ++ ex).take (0 + n) ++ cs' ++ (xa ++ cs ++ xb ++ ex).drop (0 + n + cs.length) = xa ++ cs' ++ xb ++ ex := by
 subst h
 rw [Nat.zero_add, List.append_assoc xa cs xb, List.append_assoc xa _ ex, List.take_left' rfl, ← List.drop_drop, List.drop_left' rfl, List.append_assoc cs xb ex, List.drop_left' rfl]
 simp [List.append_assoc]
section
variable {P : Program} {n : Sz} {L : List (Nat × Value)} {w0 : World} {F0 : Heap} {K0 : List Nat} {F : Heap} {G : List Grp} {a : Act} {w : World} {o : Oper}
theorem sv_loadMid {x : Operand} {t : TypeId} {z : Value} {sz by_ b m : Nat} {xa vs xb ex : List Value} {e f R} [ht : Ag P t] [hi : Inf P t z sz by_] [hh : Has G b (.cells ⟨xa ++ vs ++ xb ++ ex⟩ e f) R] (S : St n L w0 F0 K0 F G a w) (ho : o.op = .load t x) (hx : ev L x = some (.pointer (some ⟨b, 0 + m, none⟩)))
  (hm : xa.length = m) (hl : vs.length = sz) : SV P o a w (.agg ⟨vs⟩) :=
 sv_loadA S ho hx hl fun j v hj => cell_of_heap (S.has hh) (by simpa using get_mid (xb := xb) (ex := ex) hm hj)
end
theorem zzCo0 {p : Prop} (h : p := by (first | (have h9 := hown; rw [List.flatMap_nil, List.nil_append, Nat.zero_add] at hown; exact ⟨_, _, rfl, hown, hxc⟩) | (have hz : l = [] := (by cases l with | nil => rfl | cons x r => (exfalso; obtain ⟨b, o, e, -⟩ := hxp (by simp); have hno : ao.isNone = true := (by assumption); rw [e] at hno; cases hno)); subst hz; exact ⟨[], [], rfl, OwnS.nil _ _, rfl⟩) | trace_state)) : p := h
theorem cloneVCt (F : Heap) (v : Value) (l : List (VH × Vf)) (h : LiM F 4 (RoR 4 VhR) v l) (hl : l.length * 56 ≤ 140737488355328) : Ct Tryz.prog 107 [v] F [] (fun _ G' u => ∃ g xs, G' = [g] ∧ OwnS 26 4 u l.length xs g ∧ LiC F 4 (RoR 4 VhR) xs l) := by
 obtain ⟨ao, cap, xs, rfl, hxc, hxp⟩ := h.flat
 have hxl := hxc.len
 have hx1 := hxc.one'
 refine Ct.enter Tryz.func107 rfl Tryz.ntmps107 rfl fun w0 a S => ?_
 (revert S a; refine go 10 ?_; intro Z hZ a S)
 refine wpc_sp S rfl ?_ ?_ <;> intro h
 ·(revert S a; refine go 4 ?_; intro a S)
  refine wp_ret ?_
  (first | (have h9 := hown; skip) | (replace S := S.nilg))
  refine fin_ret S (results1 Tryz.results107 (RV.tmp S rfl)) ?_
  exact zzCo0
 (revert S a; revert hZ Z; refine go 3 ?_; intro Z hZ a S)
 (refine wpl_buildSlice S rfl rfl rfl rfl rfl rfl (by rfl) (by simp [Value.cells, splice, splice]) rfl (by rfl) (by rfl) ?_; clear S a; intro b5 a w hown S)
 (revert S a; refine go 1 ?_; intro a S)
 (refine wpl_appendSl S rfl rfl rfl rfl rfl rfl hown (by rfl) hxl hxp hx1 (by omega) (by omega) ?_; clear hown S a; intro v g a w hown S)
 (revert S a; revert hZ Z; refine go 3 ?_; intro a S)
 refine wp_ret ?_
 (first | (have h9 := hown; skip) | (replace S := S.nilg))
 refine fin_ret S (results1 Tryz.results107 (RV.tmp S rfl)) ?_
 exact zzCo0
theorem cownCt : ∀ (n : Nat) (F : Heap) (h : VH) (L : Vf) (cs : List Value), L.size ≤ n → L.len * 56 ≤ 140737488355328 → ThV L → VaC F cs h L → Ct Tryz.prog 61 [.agg ⟨cs⟩] F [] (fun F' _ u => ∃ cs', u = .agg ⟨cs'⟩ ∧ VaC F' cs' h L) := by
 intro n
 induction n using Nat.strongRecOn with
 | _ n ih =>
 intro F h L cs hn hb hth hV
 obtain ⟨v0, rfl, hT0, hsb⟩ := hV
 have hK0 := kids_lim hT0
 obtain ⟨ao, cap, rfl, hcap, -⟩ := hT0
 have hkl : (kids L).length = L.len := kids_len L
 refine Ct.enter Tryz.func61 rfl Tryz.ntmps61 rfl fun w0 a S => ?_
 refine wp_sr fun Z hZ => ?_
 (refine wbx S ?_; clear S a; intro b1 a w S)
 (refine wpl_alloc S rfl rfl rfl rfl ?_; clear S a; intro b2 a w S)
 (revert S a; revert hZ Z; refine go 5 ?_; intro Z hZ a S)
 (refine wpl_call (Gs := []) (Gr := [[(b2, _)], [(b1, _)]]) S rfl rfl rfl rfl rfl rfl (cloneVCt F _ _ hK0 (by rw [hkl]; exact hb)) rfl (by exact List.Perm.refl _) ?_; clear S a; intro vT F4 G9 a w hv hF4 S; obtain ⟨gT, xT, rfl, hown, hxT⟩ := hv; rw [hkl] at hown; (simp only [List.singleton_append] at S))
 (revert S a; refine go 1 ?_; intro a S)
 (refine wpl_store1 S rfl rfl rfl rfl rfl hown.oneCell (by first | (simp; done) | (simp [Value.cells]; done) | exact Nat.le_of_ble_eq_true rfl) ?_; clear S; intro w S)
 (revert S a; revert hZ Z; refine go 3 ?_; intro Z hZ a S)
 (refine wp_seq_k ?_; intro Z hZ)
 (have vTat := hown.at; obtain ⟨aT0, cT0, rfl, -, -, -⟩ := vTat)
 (revert S a; revert hZ Z; refine go 8 ?_; intro a S)
 refine wpc_loop (fun m a w' => ∃ (i : Nat) (v : Value) (g : Grp) (xs : List Value) (F3 : Heap), m = L.len - i ∧ i ≤ L.len ∧ (∀ b o, F b = some o → F3 b = some o) ∧ OwnS 26 4 v L.len xs g ∧ LiC F3 4 (RoR 4 VhR) xs (kids L) ∧ St 26 [(1, ptr b1), (2, ptr b2), (10, .int .i64 L.len), (11, .int .i64 i)] w0 F [] F3 (g :: [(b2, .cells ⟨[.int .u8 0, .int .i64 0, .string (bs []), .slice none 0 0]⟩ 26 (0, 0))] :: [(b1, .cells ⟨[.int .u8 (h.k : Int), .int .i64 h.n, .string (bs h.s), v]⟩ 26 (0, 0))] :: []) a w') ?_ ?_
 ·(refine ⟨L.len, 0, _, gT, xT, F4, by omega, Nat.zero_le _, hF4, hown, hxT.mono hF4, ?_⟩; first | (refine S.keep ?_; exact zk) | (replace S : St _ _ _ _ _ F4 [gT, _, _] _ _ := St.permI S 3 rfl [1, 2, 0] (by decide); refine S.keep ?_; exact zk) | (replace S : St _ _ _ _ _ F4 [gT, _, _] _ _ := St.permI S 3 rfl [1, 0, 2] (by decide); refine S.keep ?_; exact zk))
 (clear S hown hxT; rintro m a w ⟨i, v, g, xs, F3, rfl, hil, hF3, hown, hfc, S⟩)
 (revert S a; refine go 5 ?_; intro Z hZ a S)
 refine wpc_sp S rfl ?_ ?_ <;> intro h
 ·(revert S a; revert hZ Z; refine go 4 ?_; intro Z hZ a S)
  (refine wp_seq_k ?_; intro Z hZ)
  (obtain ⟨bT, capT, exT, rfl, rfl, hcq, hcm, hxl, hxe⟩ := ownS_blkN hown (by omega); obtain ⟨x, hx⟩ : ∃ x, (kids L)[i]? = some x := ⟨_, List.getElem?_eq_getElem (by omega)⟩; obtain ⟨xa, cs1, xb, rfl, hxal, hl1, hR1, hla, hlb⟩ := hfc.split hx; have hVx := ror_vac hR1; have hxg := hx; rw [kids_get] at hxg; have hxs := Rose.size_get hxg; obtain ⟨hx56, hxth⟩ := hth.get hxg)
  (revert S a; revert hZ Z; refine go 5 ?_; intro a S)
  (refine wpc_mixM [0, 1, 2, 3, 4, 5, 6, 9] [1, 4] [] (.one 0 (.one 1 (.one 2 (.one 3 (.one 4 (.one 5 (.one 6 (.one 7 (.one 8 (.one 9 (.one 10 .nil))))))))))) [b1] S mixed (by kernel_rfl) ?_; clear S; intro w S)
  (revert S a; refine go 8 ?_; intro a S)
  (refine wv S (sv_loadMid S rfl rfl hxal hl1) ?_; clear S a; intro a S)
  (revert S a; refine go 2 ?_; intro a S)
  (refine wcF S (ih x.2.size (by omega) F3 x.1 x.2 _ (Nat.le_refl _) hx56 hxth hVx) ?_; clear S a; intro u9 F5 a w hv hF5 S; obtain ⟨cs4, rfl, hV4⟩ := hv; have hl4 : cs4.length = 4 := (by obtain ⟨v4, rfl, -⟩ := hV4; rfl); have ho4 := OneC.h (vac_ror hV4); have e9 := cut_mid (cs := cs1) (cs' := cs4) (xb := xb) (ex := exT) hxal; rw [hl1] at e9)
  (revert S a; refine go 3 ?_; intro a S)
  (refine wpl_storeO S rfl rfl rfl rfl rfl (by exact hl4) (by exact ho4) (by rw [Nat.ble_eq]; simp only [List.length_append] at hxl hxe ⊢; omega) ?_; clear S; intro w S; rw [show (Value.agg ⟨cs4⟩).cells.toList = cs4 from rfl, e9] at S)
  (revert S a; revert hZ Z; refine go 7 ?_; intro a S)
  change ∃ m', _ ∧ _
  (refine ⟨L.len - (i + 1), by omega, i + 1, .slice (some ⟨bT, 0, none⟩) L.len capT, _, _, F5, rfl, by omega, fun b o h => hF5 _ _ (hF3 _ _ h), ownS_mkN (b := bT) (cap := capT) (xs := xa ++ cs4 ++ xb) (ex := exT) (by simp only [List.length_append] at hxl ⊢; omega) hcq hcm (by simp only [List.length_append] at hxe ⊢; omega), LiC.join hx (hla.mono hF5) hl4 (vac_ror hV4) (hlb.mono hF5), ?_⟩; refine S.keep ?_; exact zk)
 (refine wp_exit ?_; conv => whnf)
 clear hZ Z
 (revert S a; revert hZ Z; refine go 3 ?_; intro Z hZ a S)
 (refine wpl_storeO S rfl rfl rfl rfl rfl (by rfl) (by simp [Value.cells, Value.oneCell', splice]; exact hown.oneCell) (by rfl) ?_; clear S; intro w S)
 (revert S a; revert hZ Z; refine go 2 ?_; intro a S)
 refine wp_ret ?_
 (have hle := add_le (G1 := []) S; replace S := St.freeze (G1 := []) S; (simp only [List.nil_append] at S hle))
 refine fin_ret S (results1 Tryz.results61 (RV.cellO S rfl (by rfl))) ?_
 exact ⟨_, rfl, _, rfl, trs_kids (LiC.lim hown hfc hkl.symm hle (by omega)), hsb⟩
end Go.Proofs.YthnafdbebniapaaGreatDoor
