/- Walks. -/
import Derived.Test.YtgefmjghdijbfaaGreatDoorQ16
set_option maxHeartbeats 32000000
set_option maxRecDepth 20000
namespace Go.Proofs.YtgefmjghdijbfaaGreatDoor
open Go Go.Wk Go.Un Go.De Go.Num
set_option linter.unusedSimpArgs false
set_option linter.unusedVariables false
attribute [local irreducible] Go.wpList Go.Code.wp Go.wpStill Go.Wk.wpPre Go.bodyPost Go.Calls Go.Wk.Ct Go.Wk.OwnS Go.Wk.wpG Go.Wk.wpM
theorem evE_tup {cs : List KC} {vs : List Bd} {h : EH} {L : Ef} (hk : h.k = 4) : evE cs vs h L = partsO ⟨5, 0, []⟩ (evL cs vs L) := by
 unfold evE evK
 rw [if_neg (by omega), if_neg (by omega), if_pos hk]
theorem evE_mk0 {cs : List KC} {vs : List Bd} {h : EH} {L : Ef} (hk : h.k = 5) (hc : findC cs h.nm = none) : evE cs vs h L = noA 63 := by
 unfold evE evK
 rw [if_neg (by omega), if_neg (by omega), if_neg (by omega), if_pos hk, hc]
theorem evE_mk1 {cs : List KC} {vs : List Bd} {h : EH} {L : Ef} {c : KC} (hk : h.k = 5) (hc : findC cs h.nm = some c) (hl : c.fs.length ≠ L.len) : evE cs vs h L = noA 70 := by
 unfold evE evK
 rw [if_neg (by omega), if_neg (by omega), if_neg (by omega), if_pos hk, hc]
 dsimp only
 rw [if_pos (by rw [evL_len]; exact hl)]
theorem evE_mk {cs : List KC} {vs : List Bd} {h : EH} {L : Ef} {c : KC} (hk : h.k = 5) (hc : findC cs h.nm = some c) (hl : c.fs.length = L.len) : evE cs vs h L = partsO ⟨6, 0, h.nm⟩ (evL cs vs L) := by
 unfold evE evK
 rw [if_neg (by omega), if_neg (by omega), if_neg (by omega), if_pos hk, hc]
 dsimp only
 rw [if_neg (by rw [evL_len]; exact fun h9 => h9 hl)]
theorem evL_at {cs : List KC} {vs : List Bd} : ∀ {L : Ef} {k : Nat} {x : EH × Ef}, L.get? k = some x → nthA (evL cs vs L) k = evE cs vs x.1 x.2
 | .cons h L r, 0, x, e => by cases e; rfl
 | .cons h L r, k + 1, x, e => evL_at (L := r) e
theorem evE_fld {cs : List KC} {vs : List Bd} {h : EH} {L : Ef} {x : EH × Ef} (hk : h.k = 7) (hx : L.get? 0 = some x) : evE cs vs h L = if (evE cs vs x.1 x.2).1 ≠ 0 then noA (evE cs vs x.1 x.2).1 else fieldO cs h.nm (evE cs vs x.1 x.2).2 := by
 rw [← evL_at (cs := cs) (vs := vs) hx]
 conv => lhs; unfold evE evK
 rw [if_neg (by omega), if_neg (by omega), if_neg (by omega), if_neg (by omega), if_pos hk]
def atN {α : Type} (l : List α) (q : α → Bool) (k : Nat) : Bool := match l[k]? with | some x => q x | none => false
theorem atN_some {α : Type} {l : List α} {q : α → Bool} {k : Nat} {x : α} (h : l[k]? = some x) : atN l q k = q x := by unfold atN; rw [h]
theorem o_some {α : Type} {o : Option α} (h : o.isSome = true) : ∃ y, o = some y := by cases o with | none => cases h | some y => exact ⟨y, rfl⟩
theorem o_none {α : Type} {o : Option α} (h : o.isSome = false) : o = none := by cases o with | none => rfl | some y => cases h
theorem idx_find {α : Type} (l : List α) (q : α → Bool) : (∃ j, l.findIdx? q = some j ∧ idxN (atN l q) l.length = (j : Int) ∧ j < l.length) ∨ (l.findIdx? q = none ∧ idxN (atN l q) l.length = -1) := by
 rcases idxN_spec (atN l q) l.length with ⟨j, h1, h2, h3, h4⟩ | ⟨h1, h2⟩
 ·refine .inl ⟨j, ?_, h4, h1⟩
  rw [List.findIdx?_eq_some_iff_getElem]
  refine ⟨h1, ?_, fun i hi => ?_⟩
  ·have := h2
   rw [atN_some (List.getElem?_eq_getElem h1)] at this
   exact this
  ·have := h3 i hi
   rw [atN_some (List.getElem?_eq_getElem (show i < l.length by omega))] at this
   simpa using this
 ·refine .inr ⟨?_, h2⟩
  rw [List.findIdx?_eq_none_iff]
  intro x hx
  obtain ⟨i, hi, rfl⟩ := List.mem_iff_getElem.1 hx
  have := h1 i hi
  rw [atN_some (List.getElem?_eq_getElem hi)] at this
  exact this
theorem field_no1 {cs : List KC} {nm : List UInt8} {v : Vv} (h : v.1.k ≠ 6) : fieldO cs nm v = noA 70 := by unfold fieldO; rw [if_pos h]
theorem field_no2 {cs : List KC} {nm : List UInt8} {v : Vv} (h : findC cs v.1.s = none) : fieldO cs nm v = noA 70 := by
 unfold fieldO
 rw [h]
 split <;> rfl
theorem field_no3 {cs : List KC} {nm : List UInt8} {v : Vv} {c : KC} (h : findC cs v.1.s = some c) (h2 : c.fs.length ≠ v.2.len ∨ nm = []) : fieldO cs nm v = noA 70 := by
 unfold fieldO
 rw [h]
 dsimp only
 rw [if_pos h2]
 split <;> rfl
theorem field_no4 {cs : List KC} {nm : List UInt8} {v : Vv} {c : KC} (h : findC cs v.1.s = some c) (h2 : (c.fs.findIdx? fun f => decide (f.nm = nm)) = none) : fieldO cs nm v = noA 70 := by
 unfold fieldO
 rw [h]
 dsimp only
 rw [h2]
 split
 ·rfl
 ·split <;> rfl
theorem field_yes {cs : List KC} {nm : List UInt8} {v : Vv} {c : KC} {j : Nat} {x : Vv} (hk : v.1.k = 6) (h : findC cs v.1.s = some c) (hl : c.fs.length = v.2.len) (hn : nm ≠ []) (h2 : (c.fs.findIdx? fun f => decide (f.nm = nm)) = some j) (hx : v.2.get? j = some x) : fieldO cs nm v = yesA x := by
 unfold fieldO
 rw [if_neg (fun h9 => h9 hk), h]
 dsimp only
 rw [if_neg (by rintro (h9 | h9); exact h9 hl; exact hn h9), h2]
 dsimp only
 rw [hx]
theorem listO_len : ∀ l : List Ans, (listO l).2.length ≤ l.length
 | [] => Nat.le_refl _
 | x :: r => by
  have := listO_len r
  unfold listO
  split
  ·exact Nat.zero_le _
  ·split
   ·exact Nat.zero_le _
   ·simp only [List.length_cons]; omega
theorem roseOf_size : ∀ {l : List Vv}, (∀ x ∈ l, GV x) → (roseOf l).size ≤ l.length * 5001
 | [], _ => Nat.zero_le _
 | x :: r, h => by
  have h1 := roseOf_size (l := r) fun y hy => h y (List.mem_cons_of_mem _ hy)
  have h2 := (h x (List.mem_cons_self ..)).2.2
  show x.2.size + (roseOf r).size + 1 ≤ (r.length + 1) * 5001
  omega
theorem insideCt : ∀ (n : Nat) (F : Heap) (h : VH) (L : Vf) (cs : List Value), L.size ≤ n → L.size ≤ 1000000000 → VaC F cs h L → Ct Tryz.prog 128 [.agg ⟨cs⟩] F [] (fun _ _ u => u = .int .i64 ((L.size : Int) + 1)) := by
 intro n
 induction n using Nat.strongRecOn with
 | _ n ih =>
 intro F h L cs hn hb hV
 obtain ⟨v, rfl, ⟨ao, cap, rfl, hcap, hpos⟩, hsb⟩ := hV
 refine Ct.enter Tryz.func128 rfl Tryz.ntmps128 rfl fun w0 a S => ?_
 refine wp_sr fun Z hZ => ?_
 (refine wbx S ?_; clear S a; intro b1 a w S)
 (revert S a; revert hZ Z; refine go 16 ?_; intro Z hZ a S)
 refine wpc_loop (fun m a w' => ∃ (i : Nat) (q : Nat), m = L.len - i ∧ i ≤ L.len ∧ q + (L.drop i).size = L.size ∧ St 19 [(3, .int .i64 ((q : Int) + 1)), (7, .slice ao L.len cap), (8, .int .i64 L.len), (9, .int .i64 i)] w0 F [] F [] a w') ?_ ?_
 ·(replace S := S.drops; refine ⟨L.len, 0, 0, by omega, Nat.zero_le _, Nat.zero_add _, ?_⟩; refine S.keep ?_; exact zk)
 (clear S; rintro m a w ⟨i, q, rfl, hil, hq, S⟩)
 (revert S a; refine go 5 ?_; intro Z hZ a S)
 refine wpc_sp S rfl ?_ ?_ <;> intro h
 ·(revert S a; revert hZ Z; refine go 4 ?_; intro Z hZ a S)
  (refine wp_seq_k ?_; intro Z hZ)
  (obtain ⟨b8, o8, hao, x, cs1, v1, hx, hc1, hw9, hT1⟩ := TrM.pos hpos (k := i) (by omega); rw [hao] at S; have hxs := Rose.size_get hx; have hdr := Rose.drop_get hx; have hT1c := hT1; obtain ⟨a91, c91, rfl, -⟩ := hT1c; have hw9c := hw9.1; subst hw9c; (simp only [List.cons_append, List.nil_append] at hc1); have hq2 : q + (x.2.size + (L.drop (i + 1)).size + 1) = L.size := (by rw [hdr] at hq; exact hq))
  (revert S a; refine go 3 ?_; intro a S)
  (refine wpl_alloc S rfl rfl rfl rfl ?_; clear S a; intro b5 a w S)
  (refine wso S rfl rfl ?_; clear S; intro w S)
  (revert S a; revert hZ Z; refine go 5 ?_; intro a S)
  (refine wc0 S (ih x.2.size (by omega) F x.1 x.2 _ (Nat.le_refl _) (by omega) ⟨_, rfl, hT1, hw9.2⟩) ?_; clear S a; intro v a w hv S; subst hv)
  (revert S a; revert hZ Z; refine go 8 ?_; intro a S)
  change ∃ m', _ ∧ _
  (rw [← hao] at S; replace S := S.drop1; rw [show ((q : Int) + 1) + ((x.2.size : Int) + 1) = ((q + x.2.size + 1 : Nat) : Int) + 1 by omega] at S; refine ⟨L.len - (i + 1), by omega, i + 1, q + x.2.size + 1, rfl, by omega, ?_, ?_⟩; rotate_left 1; (refine S.keep ?_; exact zk); rw [hdr] at hq; simp only [Rose.size] at hq; omega)
 (refine wp_exit ?_; conv => whnf)
 clear hZ Z
 (revert S a; revert hZ Z; refine go 6 ?_; intro a S)
 refine wp_ret (fr1 S Tryz.results128 ?_)
 (congr 1; rw [Rose.drop_len (by omega)] at hq; have h9 : q + 0 = L.size := hq; omega)
theorem beqL (a b : List UInt8) : (a == b) = decide (a = b) := by rw [Bool.eq_iff_iff, beq_iff_eq, decide_eq_true_eq]
theorem fld1Ct (F : Heap) (nm : List UInt8) (b3 : Nat) (hb : Cel F b3 (0 + 3) (.string (bs nm))) (f : FD) (cs : List Value) (hf : FdR F f cs) : Ct Tryz.prog 130 ([] ++ [.agg ⟨cs⟩] ++ [ptr b3]) F [] (fun _ _ u => u = .bool (decide (f.nm = nm))) := by
 obtain ⟨v, rfl, hs⟩ := hf
 obtain ⟨ao, cap, rfl, -⟩ := hs
 refine Ct.enter Tryz.func130 rfl Tryz.ntmps130 rfl fun w0 a S => ?_
 refine wp_sr fun Z hZ => ?_
 (refine wbx S ?_; clear S a; intro b2 a w S)
 (revert S a; revert hZ Z; refine go 7 ?_; intro Z hZ a S)
 (refine wv S (sv_loadF S rfl rfl hb) ?_; clear S a; intro a S)
 (revert S a; revert hZ Z; refine go 4 ?_; intro a S)
 refine wp_ret (fr1 S Tryz.results130 ?_)
 (congr 1; exact beqL _ _)
theorem ev1Ct (F : Heap) (nm : List UInt8) (b3 : Nat) (hb : Cel F b3 (0 + 3) (.string (bs nm))) (x : Bd) (cs : List Value) (hf : BdR F x cs) : Ct Tryz.prog 82 ([] ++ [.agg ⟨cs⟩] ++ [ptr b3]) F [] (fun _ _ u => u = .bool (decide (x.1 = nm))) := by
 obtain ⟨c, rfl, hV⟩ := hf
 obtain ⟨a4, c4, rfl, hT4, hs4⟩ := vac_slc hV
 refine Ct.enter Tryz.func82 rfl Tryz.ntmps82 rfl fun w0 a S => ?_
 refine wp_sr fun Z hZ => ?_
 (refine wbx S ?_; clear S a; intro b2 a w S)
 (revert S a; revert hZ Z; refine go 7 ?_; intro Z hZ a S)
 (refine wv S (sv_loadF S rfl rfl hb) ?_; clear S a; intro a S)
 (revert S a; revert hZ Z; refine go 4 ?_; intro a S)
 refine wp_ret (fr1 S Tryz.results82 ?_)
 (congr 1; exact beqL _ _)
theorem zzEvH0 {p : Prop} (h : p := by (first | (rw [if_pos (by assumption)]; exact ans_no _ _) | (rw [if_neg (by omega)]; first | (rw [field_no1 (by omega)]; exact ans_no _ _) | (rw [field_no2 (o_none (by assumption))]; exact ans_no _ _) | (rw [field_yes hk6 hy hlen (by assumption) hj1 hz]; exact ⟨_, rfl, _, rfl, hT7.mono (fun b o h => hle6 _ _ (hF5 _ _ h)), hR7.2⟩) | (rw [field_no3 hy (.inr (by assumption))]; exact ans_no _ _) | (have hnx : y.fs.findIdx? (fun x => decide (x.nm = eh.nm)) = none := (by rcases hix with ⟨j, -, h9, -⟩ | ⟨h9, -⟩; omega; exact h9); rw [field_no4 hy hnx]; exact ans_no _ _) | (have hex : ∃ y, findC cs A.2.1.s = some y := o_some (by assumption); obtain ⟨y, hy⟩ := hex; have hfc := hfs y hy; obtain ⟨af, capf, e8, -⟩ := hfc; cases e8; rw [field_no3 hy (.inl (by omega))]; exact ans_no _ _)) | trace_state)) : p := h
theorem fieldCt {n : Nat} (hE : EvC n) (F : Heap) (bm : Nat) (cs : List KC) (vs : List Bd) (eh : EH) (L : Ef) (xs : List Value) (hn : L.size ≤ n) (hM : Mac F bm cs vs) (hX : ExC F xs eh L) (hg : GE eh L) (hf : formEL L = true) (hk : eh.k = 7) (hl : L.len = 1) :
  Ct Tryz.prog 84 [ptr bm, .agg ⟨xs⟩] F [] (fun F' _ u => AnsR F' u (evE cs vs eh L)) := by
 obtain ⟨a1, n1, c1, ao, cap, rfl, -, hL⟩ := exc_slc hX
 obtain ⟨_, _, e9, hcap, hpos⟩ := hL
 cases e9
 obtain ⟨b80, o80, rfl, x, cs1, v1, hx, hc1, hR1, hT1⟩ := TrM.pos hpos (k := 0) (by omega)
 have hxs := Rose.size_get hx
 have hX1 := exc_of hR1 hT1
 have hc := hE F bm cs vs x.1 x.2 _ (by omega) hM hX1 (GEl.get hg.2.2 hx) (formEL_get hf hx)
 obtain ⟨a5, n5, c5, ao5, cap5, he5, -, -⟩ := exc_slc hX1
 rw [he5] at hc1 hc
 have hgA := evE_GV (cs := cs) hM.g (GEl.get hg.2.2 hx)
 rw [evE_fld hk hx]
 generalize evE cs vs x.1 x.2 = A at hc hgA ⊢
 obtain ⟨⟨tv, aov, capv, bt, es, hm0, hm1, hm2, hvs, hes, hops, hK⟩, hT, hEr, hGB⟩ := hM
 refine Ct.enter Tryz.func84 rfl Tryz.ntmps84 rfl fun w0 a S => ?_
 refine wp_sr fun Z hZ => ?_
 (refine wbx S ?_; clear S a; intro b3 a w S)
 (refine wpl_alloc S rfl rfl rfl rfl ?_; clear S a; intro b4 a w S)
 (revert S a; revert hZ Z; refine go 9 ?_; intro Z hZ a S)
 (refine wcF S hc ?_; clear S a; intro u9 F4 a w hv hF4 S; obtain ⟨cs4, rfl, hV4⟩ := hv; obtain ⟨a4, c4, rfl, hT4, hs4⟩ := vac_slc hV4)
 (revert S a; refine go 3 ?_; intro a S)
 (refine wpl_alloc S rfl rfl rfl rfl ?_; clear S a; intro b6 a w S)
 (refine wso S rfl rfl ?_; clear S; intro w S)
 (revert S a; revert hZ Z; refine go 9 ?_; intro Z hZ a S)
 refine wpc_sp S rfl ?_ ?_ <;> intro h
 ·(revert S a; refine go 3 ?_; intro Z hZ a S)
  (refine wso S rfl rfl ?_; clear S; intro w S)
  (revert S a; revert hZ Z; refine go 3 ?_; intro a S)
  refine wp_ret (fin_ret S (results2 Tryz.results84 (RV.cellO S rfl (by rfl)) (RV.tmp S rfl)) ?_)
  exact zzEvH0
 refine wp_skip ?_
 (refine hZ _ _ ?_; clear hZ Z)
 (refine wp_seq_k ?_; intro Z hZ)
 (refine wpc_mixM [0, 1, 2, 3, 4, 5, 7, 8, 9] [3, 5] [] (.one 0 (.one 1 (.one 2 (.one 3 (.one 4 (.one 5 (.two 6 10 (.one 7 (.one 8 (.one 9 (.one 10 (.one 11 (.one 12 .nil)))))) (.one 6 (.one 7 (.one 8 (.one 9 (.one 11 (.one 12 .nil))))))))))))) [b6] S mixed (by kernel_rfl) ?_; clear S; intro w S)
 (revert S a; refine go 3 ?_; intro a S)
 (refine wlF S rfl (fun w' S => sv_loadF S rfl rfl (hm0.mono hF4)) ?_; clear S a; intro a S)
 (revert S a; refine go 2 ?_; intro a S)
 refine wpm_two rfl rfl (kwa S) ?_ ?_
 ·skip
  (refine wcF S (hK F4 A.2.1.s hF4) ?_; clear S a; intro u8 F5 a w hv hF5 S; obtain ⟨tK, p1, p2, p3, iK, f1, f2, f3, rfl, hfs⟩ := hv)
  (revert S a; refine go 5 ?_; intro a S)
  (refine wpl_alloc S rfl rfl rfl rfl ?_; clear S a; intro b8 a w S)
  (revert S a; refine go 2 ?_; intro a S)
  (refine wso S rfl rfl ?_; clear S; intro w S)
  (revert S a; revert hZ Z; refine go 12 ?_; intro Z hZ Z hZ a S)
  refine wgd S ?_ ?_
  ·(clear S; intro h S)
   (revert S a; refine go 5 ?_; intro a S)
   refine wgd S ?_ ?_
   ·(clear S; intro h S)
    (revert S a; revert hZ Z; refine go 16 ?_; intro a S)
    refine wpc_sp S rfl ?_ ?_ <;> intro h
    ·(revert S a; refine go 2 ?_; intro Z hZ a S)
     (refine wso S rfl rfl ?_; clear S; intro w S)
     (revert S a; revert hZ Z; refine go 3 ?_; intro a S)
     refine wp_ret (fin_ret S (results2 Tryz.results84 (RV.cellO S rfl (by rfl)) (RV.tmp S rfl)) ?_)
     exact zzEvH0
    (revert S a; revert hZ Z; refine go 2 ?_; intro a S)
    (refine wp_seq_k ?_; intro Z hZ)
    (have hex : ∃ y, findC cs A.2.1.s = some y := o_some (by assumption); obtain ⟨y, hy⟩ := hex; replace hfs := hfs y hy; have hfc := hfs; obtain ⟨af, capf, e8, -⟩ := hfc; cases e8)
    (revert S a; refine go 4 ?_; intro a S)
    (replace S := St.pullB b3 S; have S' := frz1 S; clear S; obtain ⟨F6, hle6, hb3, S⟩ := S'; have hb3n : Cel F6 b3 (0 + 3) (.string (bs eh.nm)) := ⟨_, _, _, hb3, rfl⟩; replace hfs := hfs.mono hle6; refine wc0 S (ixDCt F6 _ _ _ hfs.sq 130 [] [ptr b3] (atN y.fs fun x => decide (x.nm = eh.nm)) (fun k cs hk hC => by obtain ⟨f, hf1, hf2⟩ := hC; rw [atN_some hf1]; exact fld1Ct F6 eh.nm b3 hb3n f cs hf2)) ?_; clear S a; intro v a w hv S; subst hv)
    (have hix := idx_find y.fs (fun x => decide (x.nm = eh.nm)); generalize idxN (atN y.fs fun x => decide (x.nm = eh.nm)) y.fs.length = ix at S hix)
    (revert S a; revert hZ Z; refine go 8 ?_; intro Z hZ Z hZ a S)
    refine wgd S ?_ ?_
    ·(clear S; intro h S)
     (revert S a; refine go 2 ?_; intro a S)
     (refine wv S (sv_loadF S rfl rfl hb3n) ?_; clear S a; intro a S)
     (revert S a; revert hZ Z; refine go 5 ?_; intro a S)
     refine wpc_sp S rfl ?_ ?_ <;> intro h
     ·(revert S a; refine go 2 ?_; intro Z hZ a S)
      (refine wso S rfl rfl ?_; clear S; intro w S)
      (revert S a; revert hZ Z; refine go 3 ?_; intro a S)
      refine wp_ret (fin_ret S (results2 Tryz.results84 (RV.cellO S rfl (by rfl)) (RV.tmp S rfl)) ?_)
      exact zzEvH0
     (revert S a; revert hZ Z; refine go 2 ?_; intro a S)
     (refine wp_seq_k ?_; intro Z hZ)
     (have hixs : ∃ j, y.fs.findIdx? (fun x => decide (x.nm = eh.nm)) = some j ∧ ix = (j : Int) ∧ j < y.fs.length := (by rcases hix with h9 | ⟨-, h9⟩; exact h9; omega); obtain ⟨j, hj1, rfl, hj2⟩ := hixs; obtain ⟨_, _, e7, hcap7, hpos7⟩ := hT4; cases e7; have hlen : y.fs.length = A.2.2.len := (by omega); obtain ⟨b70, o70, rfl, z, cs7, v7, hz, hc7, hR7, hT7⟩ := TrM.pos hpos7 (k := j) (by omega); replace hc7 := Cels.mono (fun b o h => hle6 _ _ (hF5 _ _ h)) hc7; have hT7c := hT7; obtain ⟨a71, c71, rfl, -⟩ := hT7c; have hw7c := hR7.1; subst hw7c; (simp only [List.cons_append, List.nil_append] at hc7); have hk6 : A.2.1.k = 6 := (by omega))
     (revert S a; refine go 6 ?_; intro a S)
     (refine wso S rfl rfl ?_; clear S; intro w S)
     (revert S a; revert hZ Z; refine go 3 ?_; intro a S)
     refine wp_ret (fin_ret S (results2 Tryz.results84 (RV.cellO S rfl (by rfl)) (RV.tmp S rfl)) ?_)
     exact zzEvH0
    (clear S a; intro h a S)
    (revert S a; revert hZ Z; refine go 5 ?_; intro a S)
    refine wpc_true S rfl ?_
    (revert S a; refine go 2 ?_; intro Z hZ a S)
    (refine wso S rfl rfl ?_; clear S; intro w S)
    (revert S a; revert hZ Z; refine go 3 ?_; intro a S)
    refine wp_ret (fin_ret S (results2 Tryz.results84 (RV.cellO S rfl (by rfl)) (RV.tmp S rfl)) ?_)
    exact zzEvH0
   (clear S a; intro h a S)
   (revert S a; revert hZ Z; refine go 9 ?_; intro a S)
   refine wpc_true S rfl ?_
   (revert S a; refine go 2 ?_; intro Z hZ a S)
   (refine wso S rfl rfl ?_; clear S; intro w S)
   (revert S a; revert hZ Z; refine go 3 ?_; intro a S)
   refine wp_ret (fin_ret S (results2 Tryz.results84 (RV.cellO S rfl (by rfl)) (RV.tmp S rfl)) ?_)
   exact zzEvH0
  (clear S a; intro h a S)
  (revert S a; revert hZ Z; refine go 13 ?_; intro a S)
  refine wpc_true S rfl ?_
  (revert S a; refine go 2 ?_; intro Z hZ a S)
  (refine wso S rfl rfl ?_; clear S; intro w S)
  (revert S a; revert hZ Z; refine go 3 ?_; intro a S)
  refine wp_ret (fin_ret S (results2 Tryz.results84 (RV.cellO S rfl (by rfl)) (RV.tmp S rfl)) ?_)
  exact zzEvH0
 skip
 (refine wpl_alloc S rfl rfl rfl rfl ?_; clear S a; intro b8 a w S)
 (revert S a; refine go 2 ?_; intro a S)
 (refine wcF S (hK F4 A.2.1.s hF4) ?_; clear S a; intro u8 F5 a w hv hF5 S; obtain ⟨tK, p1, p2, p3, iK, f1, f2, f3, rfl, hfs⟩ := hv)
 (revert S a; refine go 5 ?_; intro a S)
 (refine wso S rfl rfl ?_; clear S; intro w S)
 (revert S a; revert hZ Z; refine go 12 ?_; intro Z hZ Z hZ a S)
 refine wgd S ?_ ?_
 ·(clear S; intro h S)
  (revert S a; refine go 5 ?_; intro a S)
  refine wgd S ?_ ?_
  ·(clear S; intro h S)
   (revert S a; revert hZ Z; refine go 16 ?_; intro a S)
   refine wpc_sp S rfl ?_ ?_ <;> intro h
   ·(revert S a; refine go 2 ?_; intro Z hZ a S)
    (refine wso S rfl rfl ?_; clear S; intro w S)
    (revert S a; revert hZ Z; refine go 3 ?_; intro a S)
    refine wp_ret (fin_ret S (results2 Tryz.results84 (RV.cellO S rfl (by rfl)) (RV.tmp S rfl)) ?_)
    exact zzEvH0
   (revert S a; revert hZ Z; refine go 2 ?_; intro a S)
   (refine wp_seq_k ?_; intro Z hZ)
   (have hex : ∃ y, findC cs A.2.1.s = some y := o_some (by assumption); obtain ⟨y, hy⟩ := hex; replace hfs := hfs y hy; have hfc := hfs; obtain ⟨af, capf, e8, -⟩ := hfc; cases e8)
   (revert S a; refine go 4 ?_; intro a S)
   (replace S := St.pullB b3 S; have S' := frz1 S; clear S; obtain ⟨F6, hle6, hb3, S⟩ := S'; have hb3n : Cel F6 b3 (0 + 3) (.string (bs eh.nm)) := ⟨_, _, _, hb3, rfl⟩; replace hfs := hfs.mono hle6; refine wc0 S (ixDCt F6 _ _ _ hfs.sq 130 [] [ptr b3] (atN y.fs fun x => decide (x.nm = eh.nm)) (fun k cs hk hC => by obtain ⟨f, hf1, hf2⟩ := hC; rw [atN_some hf1]; exact fld1Ct F6 eh.nm b3 hb3n f cs hf2)) ?_; clear S a; intro v a w hv S; subst hv)
   (have hix := idx_find y.fs (fun x => decide (x.nm = eh.nm)); generalize idxN (atN y.fs fun x => decide (x.nm = eh.nm)) y.fs.length = ix at S hix)
   (revert S a; revert hZ Z; refine go 8 ?_; intro Z hZ Z hZ a S)
   refine wgd S ?_ ?_
   ·(clear S; intro h S)
    (revert S a; refine go 2 ?_; intro a S)
    (refine wv S (sv_loadF S rfl rfl hb3n) ?_; clear S a; intro a S)
    (revert S a; revert hZ Z; refine go 5 ?_; intro a S)
    refine wpc_sp S rfl ?_ ?_ <;> intro h
    ·(revert S a; refine go 2 ?_; intro Z hZ a S)
     (refine wso S rfl rfl ?_; clear S; intro w S)
     (revert S a; revert hZ Z; refine go 3 ?_; intro a S)
     refine wp_ret (fin_ret S (results2 Tryz.results84 (RV.cellO S rfl (by rfl)) (RV.tmp S rfl)) ?_)
     exact zzEvH0
    (revert S a; revert hZ Z; refine go 2 ?_; intro a S)
    (refine wp_seq_k ?_; intro Z hZ)
    (have hixs : ∃ j, y.fs.findIdx? (fun x => decide (x.nm = eh.nm)) = some j ∧ ix = (j : Int) ∧ j < y.fs.length := (by rcases hix with h9 | ⟨-, h9⟩; exact h9; omega); obtain ⟨j, hj1, rfl, hj2⟩ := hixs; obtain ⟨_, _, e7, hcap7, hpos7⟩ := hT4; cases e7; have hlen : y.fs.length = A.2.2.len := (by omega); obtain ⟨b70, o70, rfl, z, cs7, v7, hz, hc7, hR7, hT7⟩ := TrM.pos hpos7 (k := j) (by omega); replace hc7 := Cels.mono (fun b o h => hle6 _ _ (hF5 _ _ h)) hc7; have hT7c := hT7; obtain ⟨a71, c71, rfl, -⟩ := hT7c; have hw7c := hR7.1; subst hw7c; (simp only [List.cons_append, List.nil_append] at hc7); have hk6 : A.2.1.k = 6 := (by omega))
    (revert S a; refine go 6 ?_; intro a S)
    (refine wso S rfl rfl ?_; clear S; intro w S)
    (revert S a; revert hZ Z; refine go 3 ?_; intro a S)
    refine wp_ret (fin_ret S (results2 Tryz.results84 (RV.cellO S rfl (by rfl)) (RV.tmp S rfl)) ?_)
    exact zzEvH0
   (clear S a; intro h a S)
   (revert S a; revert hZ Z; refine go 5 ?_; intro a S)
   refine wpc_true S rfl ?_
   (revert S a; refine go 2 ?_; intro Z hZ a S)
   (refine wso S rfl rfl ?_; clear S; intro w S)
   (revert S a; revert hZ Z; refine go 3 ?_; intro a S)
   refine wp_ret (fin_ret S (results2 Tryz.results84 (RV.cellO S rfl (by rfl)) (RV.tmp S rfl)) ?_)
   exact zzEvH0
  (clear S a; intro h a S)
  (revert S a; revert hZ Z; refine go 9 ?_; intro a S)
  refine wpc_true S rfl ?_
  (revert S a; refine go 2 ?_; intro Z hZ a S)
  (refine wso S rfl rfl ?_; clear S; intro w S)
  (revert S a; revert hZ Z; refine go 3 ?_; intro a S)
  refine wp_ret (fin_ret S (results2 Tryz.results84 (RV.cellO S rfl (by rfl)) (RV.tmp S rfl)) ?_)
  exact zzEvH0
 (clear S a; intro h a S)
 (revert S a; revert hZ Z; refine go 13 ?_; intro a S)
 refine wpc_true S rfl ?_
 (revert S a; refine go 2 ?_; intro Z hZ a S)
 (refine wso S rfl rfl ?_; clear S; intro w S)
 (revert S a; revert hZ Z; refine go 3 ?_; intro a S)
 refine wp_ret (fin_ret S (results2 Tryz.results84 (RV.cellO S rfl (by rfl)) (RV.tmp S rfl)) ?_)
 exact zzEvH0
theorem parts_no {q : VH} {A : List Ans} (h : (listO A).1 ≠ 0) : partsO q A = noA (listO A).1 := by unfold partsO; rw [if_pos h]
theorem parts_yes {q : VH} {A : List Ans} (h : ¬ (listO A).1 ≠ 0) : partsO q A = wholeO q (roseOf (listO A).2) := by unfold partsO; rw [if_neg h]
theorem whole_over {q : VH} {L : Vf} (h : checkV q L = 65 ∨ 4096 < (L.size : Int) + 1) : wholeO q L = noA 80 := by
 unfold wholeO
 rw [if_pos (by rw [insL_size]; omega)]
theorem whole_form {q : VH} {L : Vf} (h : ¬ checkV q L = 65) (h1 : ¬ 4096 < (L.size : Int) + 1) (h2 : checkV q L ≠ 0) : wholeO q L = noA 4 := by
 unfold wholeO
 rw [if_neg (by rw [insL_size]; omega), if_pos h2]
theorem whole_yes {q : VH} {L : Vf} (h : ¬ checkV q L = 65) (h1 : ¬ 4096 < (L.size : Int) + 1) (h2 : ¬ checkV q L ≠ 0) : wholeO q L = yesA (q, L) := by
 unfold wholeO
 rw [if_neg (by rw [insL_size]; omega), if_neg h2]
theorem zzEvI0 {p : Prop} (h : p := by (first | (rw [evE_mk0 (by omega) (o_none (by assumption))]; exact ans_no _ _) | (rw [evE_mk1 (by omega) hy (by omega)]; exact ans_no _ _) | (rw [hpq, hpn (by assumption)]; exact ans_no _ _) | (rw [hpq, hpy (by omega)]; first | (rw [whole_over (.inl (by assumption))]; exact ans_no _ _) | (rw [whole_over (.inr (by assumption))]; exact ans_no _ _) | (rw [whole_form (by omega) (by omega) (by omega)]; exact ans_no _ _) | (rw [whole_yes (by omega) (by omega) (by omega)]; exact ⟨_, rfl, _, rfl, hT6, hqs⟩)) | trace_state)) : p := h
theorem zzEvI1 {p : Prop} (h : p := by (first | (replace S := St.pullB b7 S; replace S := S.drop1; refine ⟨⟨6, 0, eh.nm⟩, F5, hF5, evE_mk (by omega) hy (by omega), hg.2.1.2, ?_⟩; refine S.keep ?_; exact zk) | (refine ⟨⟨5, 0, []⟩, F, fun _ _ h => h, evE_tup (by omega), Nat.zero_le _, ?_⟩; refine S.keep ?_; exact zk))) : p := h
theorem wholeCt {n : Nat} (hE : EvC n) (F : Heap) (bm : Nat) (cs : List KC) (vs : List Bd) (eh : EH) (L : Ef) (xs : List Value) (hn : L.size ≤ n) (hM : Mac F bm cs vs) (hX : ExC F xs eh L) (hg : GE eh L) (hf : formEL L = true) (hk : eh.k = 4 ∨ eh.k = 5) :
    Ct Tryz.prog 83 [ptr bm, .agg ⟨xs⟩] F [] (fun F' _ u => AnsR F' u (evE cs vs eh L)) := by
  obtain ⟨a1, n1, c1, ao, cap, rfl, -, hL⟩ := exc_slc hX
  have hMc := hM
  obtain ⟨⟨tv, aov, capv, bt, es, hm0, hm1, hm2, hvs, hes, hops, hK⟩, hT, hEr, hGB⟩ := hM
  have hgl := listO_GV (evL_GV (cs := cs) hGB hg.2.2)
  have hll := listO_len (evL cs vs L)
  rw [evL_len] at hll
  have hsz := roseOf_size hgl
  have hg1 := hg.2.1.1
  refine Ct.enter Tryz.func83 rfl Tryz.ntmps83 rfl fun w0 a S => ?_
  refine wp_sr fun Z hZ => ?_
  (refine wbx S ?_; clear S a; intro b3 a w S)
  (refine wpl_alloc S rfl rfl rfl rfl ?_; clear S a; intro b4 a w S)
  (revert S a; revert hZ Z; refine go 5 ?_; intro Z hZ a S)
  (refine wpl_alloc S rfl rfl rfl rfl ?_; clear S a; intro b6 a w S)
  (refine wso S rfl rfl ?_; clear S; intro w S)
  (revert S a; revert hZ Z; refine go 2 ?_; intro a S)
  (refine wp_seq_k ?_; intro Z hZ)
  replace hZ : ∀ (a' : Act) (w' : World), (∃ (q : VH) (F3 : Heap), (∀ b o, F b = some o → F3 b = some o) ∧ evE cs vs eh L = partsO q (evL cs vs L) ∧ q.s.length ≤ 140737488355328 ∧ St 70 [(0, ptr bm), (3, ptr b3), (4, ptr b4), (5, .int .i64 0), (6, ptr b6)] w0 F [] F3 [[(b6, .cells ⟨[.int .u8 (q.k : Int), .int .i64 q.n, .string (bs q.s), .slice none 0 0]⟩ 33 (0, 0))], [(b4, .cells ⟨[.int .u8 0, .int .i64 0, .string (bs []), .slice none 0 0]⟩ 33 (0, 0))], [(b3, .cells ⟨[.int .u8 (eh.k : Int), .int .i64 eh.l, .int .i64 eh.c, .string (bs eh.nm), .int .u8 (eh.v.k : Int), .int .i64 eh.v.n, .string (bs eh.v.s), .slice a1 n1 c1, .slice ao L.len cap]⟩ 36 (0, 0))]] a' w') → Z a' w' := (by
   (intro a w hM; refine hZ _ _ ?_; clear hZ Z; clear S; obtain ⟨q, F3, hF3, hpq, hqs, S⟩ := hM)
   (revert S a; refine go 4 ?_; intro Z hZ a S)
   (refine wcF S (listCt hE F3 bm cs vs L _ hn (hMc.mono hF3) (hL.mono hF3) hg.2.2 hg.2.1.1 hf) ?_; clear S a; intro u7 F6 a w hv hF6 S; obtain ⟨v6, rfl, hT6⟩ := hv; have hT6c := hT6; obtain ⟨a6, c6, rfl, -⟩ := hT6c; have hpn := @parts_no q (evL cs vs L); have hpy := @parts_yes q (evL cs vs L); generalize listO (evL cs vs L) = B at S hT6 hgl hll hsz hpn hpy)
   (revert S a; revert hZ Z; refine go 13 ?_; intro Z hZ a S)
   refine wpc_sp S rfl ?_ ?_ <;> intro h
   · (revert S a; refine go 3 ?_; intro Z hZ a S)
     (refine wso S rfl rfl ?_; clear S; intro w S)
     (revert S a; revert hZ Z; refine go 3 ?_; intro a S)
     refine wp_ret (fin_ret S (results2 Tryz.results83 (RV.cellO S rfl (by rfl)) (RV.tmp S rfl)) ?_)
     exact zzEvI0
   (revert S a; revert hZ Z; refine go 5 ?_; intro Z hZ a S)
   (refine wpl_store1 S rfl rfl rfl rfl rfl rfl (by first | (simp; done) | (simp [Value.cells]; done) | exact Nat.le_of_ble_eq_true rfl) ?_; clear S; intro w S)
   (revert S a; revert hZ Z; refine go 5 ?_; intro Z hZ Z hZ a S)
   (refine wc0 S (checkVCt F6 q (roseOf B.2) _ (by omega) ⟨_, rfl, hT6, hqs⟩) ?_; clear S a; intro v a w hv S; subst hv)
   (revert S a; revert hZ Z; refine go 8 ?_; intro Z hZ a S)
   refine wgd S ?_ ?_
   · (clear S; intro h S)
     (revert S a; refine go 2 ?_; intro a S)
     (refine wc0 S (insideCt (roseOf B.2).size F6 q (roseOf B.2) _ (Nat.le_refl _) (by omega) ⟨_, rfl, hT6, hqs⟩) ?_; clear S a; intro v a w hv S; subst hv)
     (revert S a; revert hZ Z; refine go 6 ?_; intro a S)
     refine wpc_sp S rfl ?_ ?_ <;> intro h
     · (revert S a; refine go 2 ?_; intro Z hZ a S)
       (refine wso S rfl rfl ?_; clear S; intro w S)
       (revert S a; revert hZ Z; refine go 3 ?_; intro a S)
       refine wp_ret (fin_ret S (results2 Tryz.results83 (RV.cellO S rfl (by rfl)) (RV.tmp S rfl)) ?_)
       exact zzEvI0
     (revert S a; refine go 6 ?_; intro a S)
     refine wpc_sp S rfl ?_ ?_ <;> intro h
     · (revert S a; refine go 2 ?_; intro Z hZ a S)
       (refine wso S rfl rfl ?_; clear S; intro w S)
       (revert S a; revert hZ Z; refine go 3 ?_; intro a S)
       refine wp_ret (fin_ret S (results2 Tryz.results83 (RV.cellO S rfl (by rfl)) (RV.tmp S rfl)) ?_)
       exact zzEvI0
     (revert S a; revert hZ Z; refine go 4 ?_; intro Z hZ a S)
     (refine wso S rfl rfl ?_; clear S; intro w S)
     (revert S a; revert hZ Z; refine go 3 ?_; intro a S)
     refine wp_ret (fin_ret S (results2 Tryz.results83 (RV.cellO S rfl (by rfl)) (RV.tmp S rfl)) ?_)
     exact zzEvI0
   (clear S a; intro h a S)
   (revert S a; revert hZ Z; refine go 6 ?_; intro a S)
   refine wpc_true S rfl ?_
   (revert S a; refine go 2 ?_; intro Z hZ a S)
   (refine wso S rfl rfl ?_; clear S; intro w S)
   (revert S a; revert hZ Z; refine go 3 ?_; intro a S)
   refine wp_ret (fin_ret S (results2 Tryz.results83 (RV.cellO S rfl (by rfl)) (RV.tmp S rfl)) ?_)
   (first | (rw [evE_mk0 (by omega) (o_none (by assumption))]; exact ans_no _ _) | (rw [evE_mk1 (by omega) hy (by omega)]; exact ans_no _ _) | (rw [hpq, hpn (by assumption)]; exact ans_no _ _) | (rw [hpq, hpy (by omega)]; first | (rw [whole_over (.inl (by assumption))]; exact ans_no _ _) | (rw [whole_over (.inr (by assumption))]; exact ans_no _ _) | (rw [whole_form (by omega) (by omega) (by omega)]; exact ans_no _ _) | (rw [whole_yes (by omega) (by omega) (by omega)]; exact ⟨_, rfl, _, rfl, hT6, hqs⟩)) | trace_state))
  (revert S a; refine go 6 ?_; intro a S)
  refine wpc_sp S rfl ?_ ?_ <;> intro h
  · (refine wp_seq_k ?_; intro Z hZ)
    (refine wpc_mixM [0, 1, 2, 3, 4, 5, 7, 8, 9] [3, 5] [] (.one 0 (.one 1 (.one 2 (.one 3 (.one 4 (.one 5 (.two 6 10 (.one 7 (.one 8 (.one 9 (.one 10 (.one 11 (.one 12 .nil)))))) (.one 6 (.one 7 (.one 8 (.one 9 (.one 11 (.one 12 .nil))))))))))))) [b3] S mixed (by kernel_rfl) ?_; clear S; intro w S)
    (revert S a; refine go 3 ?_; intro a S)
    (refine wlF S rfl (fun w' S => sv_loadF S rfl rfl hm0) ?_; clear S a; intro a S)
    (revert S a; refine go 2 ?_; intro a S)
    refine wpm_two rfl rfl (kwa S) ?_ ?_
    · skip
      (refine wcF S (hK F eh.nm fun b o h => h) ?_; clear S a; intro u8 F5 a w hv hF5 S; obtain ⟨tK, p1, p2, p3, iK, f1, f2, f3, rfl, hfs⟩ := hv)
      (revert S a; refine go 5 ?_; intro a S)
      (refine wpl_alloc S rfl rfl rfl rfl ?_; clear S a; intro b7 a w S)
      (revert S a; refine go 2 ?_; intro a S)
      (refine wso S rfl rfl ?_; clear S; intro w S)
      (revert S a; revert hZ Z; refine go 14 ?_; intro Z hZ a S)
      refine wpc_sp S rfl ?_ ?_ <;> intro h
      · (revert S a; refine go 2 ?_; intro Z hZ a S)
        (refine wso S rfl rfl ?_; clear S; intro w S)
        (revert S a; revert hZ Z; refine go 3 ?_; intro a S)
        refine wp_ret (fin_ret S (results2 Tryz.results83 (RV.cellO S rfl (by rfl)) (RV.tmp S rfl)) ?_)
        exact zzEvI0
      (refine wp_seq_k ?_; intro Z hZ)
      (obtain ⟨y, hy⟩ := o_some (by assumption : (findC cs eh.nm).isSome = true); replace hfs := hfs y hy; have hfc := hfs; obtain ⟨af, capf, e8, -⟩ := hfc; cases e8)
      (revert S a; revert hZ Z; refine go 11 ?_; intro a S)
      refine wpc_sp S rfl ?_ ?_ <;> intro h
      · (revert S a; refine go 2 ?_; intro Z hZ a S)
        (refine wso S rfl rfl ?_; clear S; intro w S)
        (revert S a; revert hZ Z; refine go 3 ?_; intro a S)
        refine wp_ret (fin_ret S (results2 Tryz.results83 (RV.cellO S rfl (by rfl)) (RV.tmp S rfl)) ?_)
        exact zzEvI0
      (revert S a; revert hZ Z; refine go 6 ?_; intro a S)
      (refine wso S rfl rfl ?_; clear S; intro w S)
      refine wpList_nil ?_
      (refine hZ _ _ ?_)
      exact zzEvI1
    skip
    (refine wpl_alloc S rfl rfl rfl rfl ?_; clear S a; intro b7 a w S)
    (revert S a; refine go 2 ?_; intro a S)
    (refine wcF S (hK F eh.nm fun b o h => h) ?_; clear S a; intro u8 F5 a w hv hF5 S; obtain ⟨tK, p1, p2, p3, iK, f1, f2, f3, rfl, hfs⟩ := hv)
    (revert S a; refine go 5 ?_; intro a S)
    (refine wso S rfl rfl ?_; clear S; intro w S)
    (revert S a; revert hZ Z; refine go 14 ?_; intro Z hZ a S)
    refine wpc_sp S rfl ?_ ?_ <;> intro h
    · (revert S a; refine go 2 ?_; intro Z hZ a S)
      (refine wso S rfl rfl ?_; clear S; intro w S)
      (revert S a; revert hZ Z; refine go 3 ?_; intro a S)
      refine wp_ret (fin_ret S (results2 Tryz.results83 (RV.cellO S rfl (by rfl)) (RV.tmp S rfl)) ?_)
      exact zzEvI0
    (refine wp_seq_k ?_; intro Z hZ)
    (obtain ⟨y, hy⟩ := o_some (by assumption : (findC cs eh.nm).isSome = true); replace hfs := hfs y hy; have hfc := hfs; obtain ⟨af, capf, e8, -⟩ := hfc; cases e8)
    (revert S a; revert hZ Z; refine go 11 ?_; intro a S)
    refine wpc_sp S rfl ?_ ?_ <;> intro h
    · (revert S a; refine go 2 ?_; intro Z hZ a S)
      (refine wso S rfl rfl ?_; clear S; intro w S)
      (revert S a; revert hZ Z; refine go 3 ?_; intro a S)
      refine wp_ret (fin_ret S (results2 Tryz.results83 (RV.cellO S rfl (by rfl)) (RV.tmp S rfl)) ?_)
      exact zzEvI0
    (revert S a; revert hZ Z; refine go 6 ?_; intro a S)
    (refine wso S rfl rfl ?_; clear S; intro w S)
    refine wpList_nil ?_
    (refine hZ _ _ ?_)
    exact zzEvI1
  refine wp_skip ?_
  (refine hZ _ _ ?_)
  exact zzEvI1
def callO (nm : List UInt8) (l : List Ans) : Ans :=
  if nm = sAnd ∨ nm = sOr then
    (if (truthO (nthA l 0)).2 = 0 ∧ (truthO (nthA l 0)).1 = decide (nm = sAnd) then (if (truthO (nthA l 1)).2 ≠ 0 then noA (truthO (nthA l 1)).2 else yesA (boolV (truthO (nthA l 1)).1))
     else if (truthO (nthA l 0)).2 ≠ 0 then noA (truthO (nthA l 0)).2 else yesA (boolV (truthO (nthA l 0)).1))
  else if (listO l).1 ≠ 0 then noA (listO l).1
  else match (listO l).2 with
    | [a] => op1 nm a
    | a :: b :: _ => (match op2 nm with | some f => f a b | none => noA 0)
    | [] => noA 0
theorem evE_call {cs : List KC} {vs : List Bd} {h : EH} {L : Ef} (hk : h.k = 6) : evE cs vs h L = callO h.nm (evL cs vs L) := by
 unfold evE evK callO
 rw [if_neg (by omega), if_neg (by omega), if_neg (by omega), if_neg (by omega), if_neg (by omega), if_neg (by omega)]
 rfl
theorem listO_full : ∀ {l : List Ans}, ¬ (listO l).1 ≠ 0 → (listO l).2.length = l.length
 | [], _ => rfl
 | x :: r, h => by
  unfold listO at h ⊢
  split
  ·rename_i h1
   rw [if_pos h1] at h
   exact absurd h1 h
  ·rename_i h1
   rw [if_neg h1] at h
   split
   ·rename_i h2
    rw [if_pos h2] at h
    exact absurd h2 h
   ·rename_i h2
    simp only [List.length_cons, listO_full h2]
theorem kOr_yes {p q : Prop} [Decidable p] [Decidable q] (h : p) : true = decide (p ∨ q) := (decide_eq_true (.inl h)).symm
theorem kOr_no {p : Prop} [Decidable p] {a b : List UInt8} (h : ¬ p) : (a == b) = decide (p ∨ a = b) := by
 rw [beqL]
 by_cases h2 : a = b <;> simp [h, h2]
theorem kAt_yes {e : Int} {p : Bool} {a b : List UInt8} (h : e = 0) : (p == (a == b)) = decide (e = 0 ∧ p = decide (a = b)) := by
 rw [beqL]
 by_cases h2 : a = b <;> cases p <;> simp [h, h2]
theorem kAt_no {e : Int} {q : Prop} [Decidable q] (h : ¬ e = 0) : false = decide (e = 0 ∧ q) := (decide_eq_false fun e => h e.1).symm
theorem call_and {nm : List UInt8} {A : List Ans} (h : nm = sAnd ∨ nm = sOr) : callO nm A = if (truthO (nthA A 0)).2 = 0 ∧ (truthO (nthA A 0)).1 = decide (nm = sAnd) then (if (truthO (nthA A 1)).2 ≠ 0 then noA (truthO (nthA A 1)).2 else yesA (boolV (truthO (nthA A 1)).1)) else if (truthO (nthA A 0)).2 ≠ 0 then noA (truthO (nthA A 0)).2 else yesA (boolV (truthO (nthA A 0)).1) := by
 unfold callO
 rw [if_pos h]
theorem call_no {nm : List UInt8} {A : List Ans} (h : ¬ (nm = sAnd ∨ nm = sOr)) (h1 : (listO A).1 ≠ 0) : callO nm A = noA (listO A).1 := by
 unfold callO
 rw [if_neg h, if_pos h1]
theorem call_one {nm : List UInt8} {A : List Ans} {x : Vv} (h : ¬ (nm = sAnd ∨ nm = sOr)) (h1 : ¬ (listO A).1 ≠ 0) (hx : (listO A).2 = [x]) : callO nm A = op1 nm x := by
 unfold callO
 rw [if_neg h, if_neg h1, hx]
theorem call_two {nm : List UInt8} {A : List Ans} {x y : Vv} {f : Vv → Vv → Ans} (h : ¬ (nm = sAnd ∨ nm = sOr)) (h1 : ¬ (listO A).1 ≠ 0) (hx : (listO A).2 = [x, y]) (hf : op2 nm = some f) : callO nm A = f x y := by
 unfold callO
 rw [if_neg h, if_neg h1, hx]
 dsimp only
 rw [hf]
theorem len_two {l : List Vv} (h : l.length = 2) : ∃ x y, l = [x, y] := by
 match l, h with
 | [x, y], _ => exact ⟨x, y, rfl⟩
theorem form_call {h : EH} {n : Nat} (hk : h.k = 6) (hf : formK h n = true) : ((h.nm = sAnd ∨ h.nm = sOr) ∧ n = 2) ∨ (¬ (h.nm = sAnd ∨ h.nm = sOr) ∧ ((n = 1) ∨ (n = 2 ∧ ∃ f, op2 h.nm = some f))) := by
 unfold formK at hf
 rw [if_neg (by omega), if_neg (by omega), if_neg (by omega), if_neg (by omega), if_pos hk] at hf
 simp only [Bool.or_eq_true, Bool.and_eq_true, decide_eq_true_eq] at hf
 by_cases ha : h.nm = sAnd ∨ h.nm = sOr
 ·left
  refine ⟨ha, ?_⟩
  rcases hf with h1 | h1
  ·exact h1.2
  ·exfalso
   rcases ha with e | e <;> (rw [e] at h1; exact absurd h1.2 (by decide))
 ·right
  refine ⟨ha, ?_⟩
  rcases hf with h1 | h1
  ·right
   refine ⟨h1.2, ?_⟩
   rcases h1.1 with (h2 | h2) | h2
   ·exact o_some h2
   ·exact absurd (.inl h2) ha
   ·exact absurd (.inr h2) ha
  ·exact .inl h1.1
theorem zzEvJ0 {p : Prop} (h : p := by (first | ((conv => arg 3; rw [hcr, if_pos (by assumption)]); exact ans_no _ _) | ((conv => arg 3; rw [hcr, if_neg (by omega)]); exact ⟨_, rfl, vac_z _ (k := 1) (s := []) (by decide)⟩) | (rw [hpn (by assumption)]; exact ans_no _ _) | (rw [hp1 x (by omega) hbx]; exact ⟨_, rfl, _, rfl, hT8, hs8⟩) | (rw [hp2 x y f (by omega) hbx hf2]; exact ⟨_, rfl, _, rfl, hT8, hs8⟩) | trace_state)) : p := h
theorem zzEvJ1 {p : Prop} (h : p := by (apply Exists.intro; apply And.intro; rotate_left 1; (refine S.keep ?_; exact zk); first | exact kAt_yes (by assumption) | exact kAt_no (by assumption))) : p := h
theorem zzEvJ2 {p : Prop} (h : p := by (apply Exists.intro; apply And.intro; rotate_left 1; (refine S.keep ?_; exact zk); first | exact kOr_yes (by assumption) | exact kOr_no (by assumption))) : p := h
theorem callCt {n : Nat} (hE : EvC n) (F : Heap) (bm : Nat) (cs : List KC) (vs : List Bd) (eh : EH) (L : Ef) (xs : List Value) (hn : L.size ≤ n) (hM : Mac F bm cs vs) (hX : ExC F xs eh L) (hg : GE eh L) (hf : formEL L = true) (hk : eh.k = 6) (hfk : formK eh L.len = true) :
    Ct Tryz.prog 86 [ptr bm, .agg ⟨xs⟩] F [] (fun F' _ u => AnsR F' u (evE cs vs eh L)) := by
  have hfc := form_call hk hfk
  obtain ⟨a1, n1, c1, ao, cap, rfl, -, hL⟩ := exc_slc hX
  have hMc := hM
  obtain ⟨⟨tv, aov, capv, bt, es, hm0, hm1, hm2, hvs, hes, hops, hK⟩, hT, hEr, hGB⟩ := hM
  have hgl := listO_GV (evL_GV (cs := cs) hGB hg.2.2)
  have hlf := listO_full (l := evL cs vs L)
  rw [evL_len] at hlf
  have hLc := hL
  obtain ⟨_, _, e9, hcap, hpos⟩ := hLc
  cases e9
  have hg1 := hg.2.1.1
  rw [evE_call hk]
  refine Ct.enter Tryz.func86 rfl Tryz.ntmps86 rfl fun w0 a S => ?_
  refine wp_sr fun Z hZ => ?_
  (refine wbx S ?_; clear S a; intro b3 a w S)
  (refine wpl_alloc S rfl rfl rfl rfl ?_; clear S a; intro b4 a w S)
  (revert S a; revert hZ Z; refine go 4 ?_; intro Z hZ a S)
  (refine wp_seq_k ?_; intro Z hZ)
  replace hZ : ∀ (a' : Act) (w' : World), (∃ t : Bool, t = decide (eh.nm = sAnd ∨ eh.nm = sOr) ∧ St 91 [(0, ptr bm), (3, ptr b3), (4, ptr b4), (5, .int .i64 0), (17, .bool t)] w0 F [] F [[(b4, .cells ⟨[.int .u8 0, .int .i64 0, .string (bs []), .slice none 0 0]⟩ 33 (0, 0))], [(b3, .cells ⟨[.int .u8 (eh.k : Int), .int .i64 eh.l, .int .i64 eh.c, .string (bs eh.nm), .int .u8 (eh.v.k : Int), .int .i64 eh.v.n, .string (bs eh.v.s), .slice a1 n1 c1, .slice ao L.len cap]⟩ 36 (0, 0))]] a' w') → Z a' w' := (by
   (intro a w hM; refine hZ _ _ ?_; clear hZ Z; clear S; obtain ⟨t, rfl, S⟩ := hM)
   refine wpc_sp S rfl ?_ ?_ <;> intro h
   · (refine wp_seq_k ?_; intro Z hZ)
     (have hl2 : L.len = 2 := (by rcases hfc with h9 | h9; exact h9.2; exact absurd (by assumption) h9.1); obtain ⟨b80, o80, rfl, x, cs1, v1, hx, hc1, hR1, hT1⟩ := TrM.pos hpos (k := 0) (by omega); have hxs := Rose.size_get hx; have hX1 := exc_of hR1 hT1; obtain ⟨b81, o81, e81, y, cs2, v2, hy, hc2, hR2, hT2⟩ := TrM.pos hpos (k := 1) (by omega); cases e81; have hys := Rose.size_get hy; have hX2 := exc_of hR2 hT2; have hcx := mtruthCt hE F bm cs vs x.1 x.2 _ (by omega) hMc hX1 (GEl.get hg.2.2 hx) (formEL_get hf hx); have hcy := fun F' hF => mtruthCt hE F' bm cs vs y.1 y.2 _ (by omega) (hMc.mono hF) (hX2.mono hF) (GEl.get hg.2.2 hy) (formEL_get hf hy); obtain ⟨a5, n5, c5, ao5, cap5, he5, -, -⟩ := exc_slc hX1; obtain ⟨a6, n6, c6, ao6, cap6, he6, -, -⟩ := exc_slc hX2; rw [he5] at hc1 hcx; rw [he6] at hc2 hcy; have hca := call_and (A := evL cs vs L) (by assumption : eh.nm = sAnd ∨ eh.nm = sOr); rw [evL_at hx, evL_at hy] at hca; generalize truthO (evE cs vs x.1 x.2) = T0 at hcx hca; generalize truthO (evE cs vs y.1 y.2) = T1 at hcy hca; obtain ⟨p0, e0⟩ := T0; obtain ⟨p1, e1⟩ := T1; dsimp only at hcx hcy hca)
     (revert S a; refine go 6 ?_; intro a S)
     (refine wcF S hcx ?_; clear S a; intro u9 F4 a w hv hF4 S; subst hv)
     (revert S a; revert hZ Z; refine go 7 ?_; intro a S)
     (refine wp_seq_k ?_; intro Z hZ)
     replace hZ : ∀ (a' : Act) (w' : World), (∃ (r : Bool) (e3 : Int) (F6 : Heap), callO eh.nm (evL cs vs L) = (if e3 ≠ 0 then noA e3 else yesA (boolV r)) ∧ St 91 [(4, ptr b4), (5, .int .i64 0), (6, .bool r), (7, .int .i64 e3)] w0 F [] F6 [[(b4, .cells ⟨[.int .u8 0, .int .i64 0, .string (bs []), .slice none 0 0]⟩ 33 (0, 0))]] a' w') → Z a' w' := (by
      (intro a w hM; refine hZ _ _ ?_; clear hZ Z; clear S; obtain ⟨r, e3, F6, hcr, S⟩ := hM)
      (revert S a; refine go 6 ?_; intro Z hZ a S)
      refine wpc_sp S rfl ?_ ?_ <;> intro h
      · (revert S a; refine go 3 ?_; intro Z hZ a S)
        (refine wso S rfl rfl ?_; clear S; intro w S)
        (revert S a; revert hZ Z; refine go 3 ?_; intro a S)
        refine wp_ret (fin_ret S (results2 Tryz.results86 (RV.cellO S rfl (by rfl)) (RV.tmp S rfl)) ?_)
        exact zzEvJ0
      (revert S a; revert hZ Z; refine go 4 ?_; intro Z hZ a S)
      (refine wc0 S (eTruthCt F6 _) ?_; clear S a; intro v a w hv S; subst hv)
      (refine wso S rfl rfl ?_; clear S; intro w S)
      (revert S a; revert hZ Z; refine go 3 ?_; intro a S)
      refine wp_ret (fin_ret S (results2 Tryz.results86 (RV.cellO S rfl (by rfl)) (RV.tmp S rfl)) ?_)
      (first | ((conv => arg 3; rw [hcr, if_pos (by assumption)]); exact ans_no _ _) | ((conv => arg 3; rw [hcr, if_neg (by omega)]); exact ⟨_, rfl, vac_z _ (k := 1) (s := []) (by decide)⟩) | (rw [hpn (by assumption)]; exact ans_no _ _) | (rw [hp1 x (by omega) hbx]; exact ⟨_, rfl, _, rfl, hT8, hs8⟩) | (rw [hp2 x y f (by omega) hbx hf2]; exact ⟨_, rfl, _, rfl, hT8, hs8⟩) | trace_state))
     (refine wp_seq_k ?_; intro Z hZ)
     replace hZ : ∀ (a' : Act) (w' : World), (∃ t : Bool, t = decide (e0 = 0 ∧ p0 = decide (eh.nm = sAnd)) ∧ St 91 [(0, ptr bm), (3, ptr b3), (4, ptr b4), (5, .int .i64 0), (6, .bool p0), (7, .int .i64 e0), (35, .bool t)] w0 F [] F4 [[(b4, .cells ⟨[.int .u8 0, .int .i64 0, .string (bs []), .slice none 0 0]⟩ 33 (0, 0))], [(b3, .cells ⟨[.int .u8 (eh.k : Int), .int .i64 eh.l, .int .i64 eh.c, .string (bs eh.nm), .int .u8 (eh.v.k : Int), .int .i64 eh.v.n, .string (bs eh.v.s), .slice a1 n1 c1, .slice (some ⟨b80, o80, none⟩) L.len cap]⟩ 36 (0, 0))]] a' w') → Z a' w' := (by
      (intro a w hM; refine hZ _ _ ?_; clear hZ Z; clear S; obtain ⟨t, rfl, S⟩ := hM)
      refine wpc_sp S rfl ?_ ?_ <;> intro h
      · (revert S a; refine go 5 ?_; intro a S)
        (refine wv S (sv_loadAF S rfl rfl (Cels.mono hF4 hc2) rfl) ?_; clear S a; intro a S)
        (refine wcF S (hcy F4 hF4) ?_; clear S a; intro u8 F5 a w hv hF5 S; subst hv)
        (revert S a; refine go 6 ?_; intro a S)
        (refine hZ _ _ ?_)
        (replace S := St.pullB b3 S; replace S := S.drop1; first | (refine ⟨p1, e1, F5, by rw [hca, if_pos (by assumption)], ?_⟩; refine S.keep ?_; exact zk) | (refine ⟨p0, e0, F4, by rw [hca, if_neg (by assumption)], ?_⟩; refine S.keep ?_; exact zk))
      refine wp_skip ?_
      (refine hZ _ _ ?_)
      (replace S := St.pullB b3 S; replace S := S.drop1; first | (refine ⟨p1, e1, F5, by rw [hca, if_pos (by assumption)], ?_⟩; refine S.keep ?_; exact zk) | (refine ⟨p0, e0, F4, by rw [hca, if_neg (by assumption)], ?_⟩; refine S.keep ?_; exact zk)))
     (revert S a; refine go 4 ?_; intro a S)
     refine wgd S ?_ ?_
     · (clear S; intro h S)
       (revert S a; refine go 11 ?_; intro a S)
       (refine hZ _ _ ?_)
       exact zzEvJ1
     (clear S a; intro h a S)
     (revert S a; refine go 6 ?_; intro a S)
     (refine hZ _ _ ?_)
     exact zzEvJ1
   (revert S a; revert hZ Z; refine go 6 ?_; intro Z hZ a S)
   (have hn2 : ¬ (eh.nm = sAnd ∨ eh.nm = sOr) := (by assumption); refine wcF S (listCt hE F bm cs vs L _ hn hMc hL hg.2.2 hg.2.1.1 hf) ?_; clear S a; intro u7 F6 a w hv hF6 S; obtain ⟨v6, rfl, hT6⟩ := hv; have hT6c := hT6; obtain ⟨a6, c6, rfl, hcap6, hpos6⟩ := hT6c; have hpn := call_no (A := evL cs vs L) hn2; have hp1 := fun x => call_one (A := evL cs vs L) (x := x) hn2; have hp2 := fun x y f => call_two (A := evL cs vs L) (x := x) (y := y) (f := f) hn2; generalize listO (evL cs vs L) = B at S hT6 hgl hlf hpn hp1 hp2 hcap6 hpos6; rw [roseOf_len] at S)
   (revert S a; revert hZ Z; refine go 15 ?_; intro Z hZ a S)
   refine wpc_sp S rfl ?_ ?_ <;> intro h
   · (revert S a; refine go 3 ?_; intro Z hZ a S)
     (refine wso S rfl rfl ?_; clear S; intro w S)
     (revert S a; revert hZ Z; refine go 3 ?_; intro a S)
     refine wp_ret (fin_ret S (results2 Tryz.results86 (RV.cellO S rfl (by rfl)) (RV.tmp S rfl)) ?_)
     exact zzEvJ0
   (revert S a; refine go 7 ?_; intro a S)
   refine wpc_sp S rfl ?_ ?_ <;> intro h
   · (refine wp_seq_k ?_; intro Z hZ)
     (have hln := hlf (by omega); have hb1 : ∃ x, B.2 = [x] := List.length_eq_one_iff.1 (by omega); obtain ⟨x, hbx⟩ := hb1; rw [hbx] at hpos6; obtain ⟨b70, o70, rfl, z, cs7, v7, hz, hc7, hR7, hT7⟩ := TrM.pos hpos6 (k := 0) (by show 0 < 1; decide); cases hz; have hT7c := hT7; obtain ⟨a71, c71, rfl, -⟩ := hT7c; have hw7c := hR7.1; subst hw7c; (simp only [List.cons_append, List.nil_append] at hc7); have gx := hgl x (by rw [hbx]; exact List.mem_cons_self ..))
     (refine wpc_mixM [0, 1, 2, 3, 4, 6, 7] [1, 4] [] (.one 0 (.one 1 (.one 2 (.one 3 (.one 4 (.one 5 (.one 6 (.one 7 (.one 8 (.one 9 .nil)))))))))) [b3] S mixed (by kernel_rfl) ?_; clear S; intro w S)
     (revert S a; refine go 6 ?_; intro a S)
     (refine wcF S (oneCt F6 (hT.mono hF6) (hEr.mono hF6) eh.nm x _ gx ⟨_, rfl, hT7, hR7.2⟩) ?_; clear S a; intro u5 F8 a w hv hF8 S; obtain ⟨cs8, rfl, hV8⟩ := hv; obtain ⟨a8, c8, rfl, hT8, hs8⟩ := vac_slc hV8)
     (revert S a; refine go 4 ?_; intro a S)
     (refine wso S rfl rfl ?_; clear S; intro w S)
     (revert S a; revert hZ Z; refine go 6 ?_; intro a S)
     refine wp_ret (fin_ret S (results2 Tryz.results86 (RV.cellO S rfl (by rfl)) (RV.tmp S rfl)) ?_)
     exact zzEvJ0
   refine wp_skip ?_
   (refine hZ _ _ ?_; clear hZ Z)
   (refine wp_seq_k ?_; intro Z hZ)
   (have hln := hlf (by omega); have hl2 : L.len = 2 ∧ ∃ f, op2 eh.nm = some f := (by rcases hfc with h9 | ⟨-, h9⟩; exact absurd h9.1 hn2; rcases h9 with h9 | h9; omega; exact h9); obtain ⟨hl2, f, hf2⟩ := hl2; have hb1 : ∃ x y, B.2 = [x, y] := len_two (by omega); obtain ⟨x, y, hbx⟩ := hb1; rw [hbx] at hpos6; obtain ⟨b70, o70, rfl, z, cs7, v7, hz, hc7, hR7, hT7⟩ := TrM.pos hpos6 (k := 0) (by show 0 < 2; decide); cases hz; obtain ⟨b71, o71, e71, z, cs8, v8, hz, hc8, hR8, hT8⟩ := TrM.pos hpos6 (k := 1) (by show 1 < 2; decide); cases e71; cases hz; have hT7c := hT7; obtain ⟨a71, c71, rfl, -⟩ := hT7c; have hw7c := hR7.1; subst hw7c; (simp only [List.cons_append, List.nil_append] at hc7); have hT8c := hT8; obtain ⟨a72, c72, rfl, -⟩ := hT8c; have hw8c := hR8.1; subst hw8c; (simp only [List.cons_append, List.nil_append] at hc8); have gx := hgl x (by rw [hbx]; exact List.mem_cons_self ..); have gy := hgl y (by rw [hbx]; exact List.mem_cons_of_mem _ (List.mem_cons_self ..)); obtain ⟨u, hmg, fid, caf, rfl, hfn, hfc2⟩ : ∃ u, mGet es eh.nm = some u ∧ Op2 F u f := (by rcases hops.get eh.nm with ⟨f', u, h1, h2, h3⟩ | ⟨h1, h2⟩; (have e1 : op2 eh.nm = some f' := h1; rw [hf2] at e1; cases e1; exact ⟨u, h2, h3⟩); (have e1 : op2 eh.nm = none := h1; rw [hf2] at e1; cases e1)); haveI := hfn)
   (refine wpc_mixM [0, 1, 2, 3, 4, 5, 6, 7, 8, 9, 10, 11, 12, 14, 15] [3, 5, 6, 9, 12] [] (.one 0 (.one 1 (.one 2 (.one 3 (.one 4 (.one 5 (.one 6 (.one 7 (.one 8 (.one 9 (.one 10 (.one 11 (.one 12 (.one 13 (.one 14 (.one 15 (.one 16 (.one 17 .nil)))))))))))))))))) [b3] S mixed (by kernel_rfl) ?_; clear S; intro w S)
   (revert S a; refine go 3 ?_; intro a S)
   (refine wlF S rfl (fun w' S => sv_loadF S rfl rfl (hm2.mono hF6)) ?_; clear S a; intro a S)
   (revert S a; refine go 2 ?_; intro a S)
   (refine wlF S rfl (fun w' S => sv_lookupF (enc := kS) S rfl rfl rfl (hF6 _ _ hes)) ?_; clear S a; intro a S)
   (rw [hmg] at S)
   (revert S a; refine go 7 ?_; intro a S)
   (refine wcF S (hfc2 F6 hF6 x y _ _ gx gy ⟨_, rfl, hT7, hR7.2⟩ ⟨_, rfl, hT8, hR8.2⟩) ?_; clear S a; intro u5 F8 a w hv hF8 S; obtain ⟨cs8, rfl, hV8⟩ := hv; obtain ⟨a8, c8, rfl, hT8, hs8⟩ := vac_slc hV8)
   (revert S a; refine go 4 ?_; intro a S)
   (refine wso S rfl rfl ?_; clear S; intro w S)
   (revert S a; revert hZ Z; refine go 6 ?_; intro a S)
   refine wp_ret (fin_ret S (results2 Tryz.results86 (RV.cellO S rfl (by rfl)) (RV.tmp S rfl)) ?_)
   (first | ((conv => arg 3; rw [hcr, if_pos (by assumption)]); exact ans_no _ _) | ((conv => arg 3; rw [hcr, if_neg (by omega)]); exact ⟨_, rfl, vac_z _ (k := 1) (s := []) (by decide)⟩) | (rw [hpn (by assumption)]; exact ans_no _ _) | (rw [hp1 x (by omega) hbx]; exact ⟨_, rfl, _, rfl, hT8, hs8⟩) | (rw [hp2 x y f (by omega) hbx hf2]; exact ⟨_, rfl, _, rfl, hT8, hs8⟩) | trace_state))
  (revert S a; refine go 5 ?_; intro a S)
  refine wgd S ?_ ?_
  · (clear S; intro h S)
    (revert S a; refine go 7 ?_; intro a S)
    (refine hZ _ _ ?_)
    exact zzEvJ2
  (clear S a; intro h a S)
  (revert S a; refine go 4 ?_; intro a S)
  (refine hZ _ _ ?_)
  exact zzEvJ2
end Go.Proofs.YtgefmjghdijbfaaGreatDoor
