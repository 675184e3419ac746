/- Walks. -/
import Derived.Test.YthnafdbebniapaaGreatDoorQ21
import Derived.Test.YthnafdbebniapaaGreatDoorQ13
import Derived.Test.YthnafdbebniapaaGreatDoorQ17
import Derived.Test.YthnafdbebniapaaGreatDoorQ12
import Derived.Test.YthnafdbebniapaaGreatDoorQ20
set_option maxHeartbeats 8000000
namespace Go.Proofs.YthnafdbebniapaaGreatDoor
open Go Go.Wk Go.Un Go.De
set_option linter.unusedSimpArgs false
set_option linter.unusedVariables false
attribute [local irreducible] Go.wpList Go.Code.wp Go.wpStill Go.Wk.wpPre Go.bodyPost Go.Calls Go.Wk.Ct Go.Wk.OwnS Go.Wk.wpG Go.Wk.wpM
def addV (s : List UInt8) (k : List (List UInt8)) : List (List UInt8) := if s ∈ k then k else k ++ [s]
def vrL : Ef → List (List UInt8) → List (List UInt8)
 | .nil, k => k
 | .cons h L r, k => vrL r (if h.k = 2 then addV h.nm k else vrL L k)
def vrE (h : EH) (L : Ef) (k : List (List UInt8)) : List (List UInt8) := if h.k = 2 then addV h.nm k else vrL L k
def cntL : Ef → Nat
 | .nil => 0
 | .cons h L r => (if h.k = 2 then 1 else 0) + cntL L + cntL r
theorem cntL_le : ∀ l : Ef, cntL l ≤ l.size
 | .nil => Nat.le_refl _
 | .cons h L r => by
  have h1 := cntL_le L
  have h2 := cntL_le r
  show (if h.k = 2 then 1 else 0) + cntL L + cntL r ≤ L.size + r.size + 1
  split <;> omega
theorem addV_len (s : List UInt8) (k : List (List UInt8)) : (addV s k).length ≤ k.length + 1 := by
 unfold addV; split
 ·omega
 ·simp
theorem vrL_len : ∀ (l : Ef) (k : List (List UInt8)), (vrL l k).length ≤ k.length + l.size
 | .nil, k => Nat.le_refl _
 | .cons h L r, k => by
  have h1 := vrL_len r (if h.k = 2 then addV h.nm k else vrL L k)
  have h2 := vrL_len L k
  have h3 := addV_len h.nm k
  have e : (Rose.cons h L r).size = L.size + r.size + 1 := rfl
  show (vrL r _).length ≤ _
  by_cases hk : h.k = 2
  ·rw [if_pos hk] at h1 ⊢; omega
  ·rw [if_neg hk] at h1 ⊢; omega
theorem vrE_len (h : EH) (L : Ef) (k : List (List UInt8)) : (vrE h L k).length ≤ k.length + L.size + 1 := by
 have h2 := vrL_len L k
 have h3 := addV_len h.nm k
 unfold vrE
 split <;> omega
theorem vrL_at {L : Ef} {i : Nat} {x : EH × Ef} {k : List (List UInt8)} (hx : L.get? i = some x) : vrL (L.drop i) k = vrL (L.drop (i + 1)) (vrE x.1 x.2 k) := by
 rw [Rose.drop_get hx]; rfl
theorem cntL_at {L : Ef} {i : Nat} {x : EH × Ef} (hx : L.get? i = some x) : cntL (L.drop i) = (if x.1.k = 2 then 1 else 0) + cntL x.2 + cntL (L.drop (i + 1)) := by
 rw [Rose.drop_get hx]; rfl
theorem drop2 {n : Sz} {L : List (Nat × Value)} {w0 : World} {F0 : Heap} {K0 : List Nat} {F : Heap} {a : Act} {w : World} {A B : Grp} {R : List Grp} (S : St n L w0 F0 K0 F (A :: B :: R) a w) : St n L w0 F0 K0 F (A :: R) a w :=
 ⟨S.fr, S.tr.sub (by simp only [List.flatten_cons]; exact List.Sublist.append_left (List.sublist_append_right _ _) _)⟩
theorem permMid {A B : Grp} {R : List Grp} : (A :: B :: R).flatten.Perm ([B].flatten ++ (A :: R).flatten) := by
 simp only [List.flatten_cons, List.flatten_nil, List.append_nil]
 exact List.perm_append_comm_assoc _ _ _
def VsQ (bo : Nat) (G' : List Grp) (k : List (List UInt8)) : Prop := ∃ (v : Value) (g : Grp), G' = [g, [(bo, .cells ⟨[v]⟩ 66 (0, 0))]] ∧ OwnS 9 1 v k.length (strs k) g
def VsD (n : Nat) : Prop := ∀ (F : Heap) (bo bl : Nat) (v : Value) (g : Grp) (k : List (List UInt8)) (h : EH) (L : Ef) (cs : List Value), L.size < n → Cel F bl 0 (.func (.func 146) ⟨[]⟩ ⟨[.pointer (some ⟨bo, 0, none⟩), .pointer (some ⟨bl, 0, none⟩)]⟩) → k.length + L.size ≤ 1000000000 → OwnS 9 1 v k.length (strs k) g → PxC F cs h L →
 Ct Tryz.prog 146 ([] ++ [.agg ⟨cs⟩] ++ [.pointer (some ⟨bo, 0, none⟩), .pointer (some ⟨bl, 0, none⟩)]) F [g, [(bo, .cells ⟨[v]⟩ 66 (0, 0))]] (fun _ G' _ => VsQ bo G' (vrE h L k))
theorem vs_in {bo : Nat} {v : Value} {g : Grp} {k : List (List UInt8)} {h : EH} {L : Ef} (h2 : h.k = 2) (hm : h.nm ∈ k) (hown : OwnS 9 1 v k.length (strs k) g) : VsQ bo [g, [(bo, .cells ⟨[v]⟩ 66 (0, 0))]] (vrE h L k) := by
 unfold vrE addV; rw [if_pos h2, if_pos hm]; exact ⟨v, g, rfl, hown⟩
theorem vs_new {bo : Nat} {v : Value} {g : Grp} {k : List (List UInt8)} {h : EH} {L : Ef} (h2 : h.k = 2) (hm : ¬ h.nm ∈ k) (hown : OwnS 9 1 v (k.length + 1) (strs k ++ [.string (bs h.nm)]) g) : VsQ bo [g, [(bo, .cells ⟨[v]⟩ 66 (0, 0))]] (vrE h L k) := by
 unfold vrE addV; rw [if_pos h2, if_neg hm]; exact ⟨v, g, rfl, by rw [List.length_append]; unfold strs at hown ⊢; rw [List.map_append]; exact hown⟩
theorem vs_loop {bo i : Nat} {v1 : Value} {g1 : Grp} {k k1 : List (List UInt8)} {h : EH} {L : Ef} (h2 : ¬ h.k = 2) (hi : L.len ≤ i) (hvr : vrL (L.drop i) k1 = vrL L k) (hown : OwnS 9 1 v1 k1.length (strs k1) g1) : VsQ bo [g1, [(bo, .cells ⟨[v1]⟩ 66 (0, 0))]] (vrE h L k) := by
 unfold vrE; rw [if_neg h2, ← hvr, Rose.drop_len hi]; exact ⟨v1, g1, rfl, hown⟩
theorem vars1Ct : ∀ n, VsD n := by
 intro n
 induction n with
 | zero => intro F bo bl v g k h L cs hn; omega
 | succ n ih =>
 intro F bo bl v g k eh L cs hn hbl hkl hown hX
 obtain ⟨a1, n1, c1, ao, cap, rfl, hv, hL⟩ := hX
 obtain ⟨_, _, e9, hcap, hpos⟩ := id hL
 cases e9
 refine Ct.enter Tryz.func146 rfl Tryz.ntmps146 rfl fun w0 a S => ?_
 refine wp_sr fun Z hZ => ?_
 (refine wbx S ?_; clear S a; intro b3 a w S)
 (revert S a; revert hZ Z; refine go 9 ?_; intro Z hZ a S)
 refine wpc_sp S rfl ?_ ?_ <;> intro h
 ·(revert S a; refine go 5 ?_; intro Z hZ Z hZ a S)
  (refine wpl_callOwn (Gs := [g]) S rfl rfl rfl rfl rfl rfl (Ct.lend (containsSCt (F.add g) k eh.nm v (hown.slC F) (by omega))) rfl permMid ?_; clear S a; intro v12 G9 a w hv9 S; obtain ⟨rfl, rfl⟩ := hv9; (simp only [List.singleton_append] at S); obtain ⟨aoK, capK, rfl, -⟩ := hown.at)
  (revert S a; revert hZ Z; refine go 3 ?_; intro a S)
  refine wpc_sp S rfl ?_ ?_ <;> intro h
  ·(revert S a; refine go 4 ?_; intro a S)
   (refine wpl_append S rfl rfl rfl rfl rfl rfl rfl rfl rfl rfl rfl (fun _ => rfl) hown (by rfl) (by simp [Value.cells, splice, splice]) (by simp [Value.cells, Value.oneCell', splice, splice]) rfl (by rfl) (by rfl) rfl (by omega) (by omega) ?_; clear hown S a; intro v u g a w hown S)
   (refine wpl_store1 S rfl rfl rfl rfl rfl hown.oneCell (by exact Nat.le_of_ble_eq_true rfl) ?_; clear S; intro w S)
   (revert S a; revert hZ Z; refine go 2 ?_; intro a S)
   refine wp_ret ?_
   (first | (have h9 := hown1; skip) | (replace S := drop2 S))
   refine fin_ret S (results0 Tryz.results146) ?_
   (first | exact vs_loop (by omega) (by omega) hvr hown1 | exact vs_in (by omega) (by assumption) hown | exact vs_new (by omega) (by assumption) hown | trace_state)
  refine wp_skip ?_
  (refine hZ _ _ ?_; clear hZ Z)
  refine wp_ret ?_
  (first | (have h9 := hown1; skip) | (replace S := drop2 S))
  refine fin_ret S (results0 Tryz.results146) ?_
  (first | exact vs_loop (by omega) (by omega) hvr hown1 | exact vs_in (by omega) (by assumption) hown | exact vs_new (by omega) (by assumption) hown | trace_state)
 (revert S a; revert hZ Z; refine go 10 ?_; intro a S)
 refine wpc_loop (fun m a w' => ∃ (i : Nat) (v1 : Value) (g1 : Grp) (k1 : List (List UInt8)), m = L.len - i ∧ i ≤ L.len ∧ vrL (L.drop i) k1 = vrL L k ∧ k1.length + (L.drop i).size ≤ 1000000000 ∧ OwnS 9 1 v1 k1.length (strs k1) g1 ∧ St 30 [(1, ptr bo), (2, ptr bl), (20, .slice ao L.len cap), (21, .int .i64 L.len), (22, .int .i64 i)] w0 F (keys [g, [(bo, .cells ⟨[v]⟩ 66 (0, 0))]]) F [g1, [(bo, .cells ⟨[v1]⟩ 66 (0, 0))]] a w') ?_ ?_
 ·(replace S := S.drop1; refine ⟨L.len, 0, v, g, k, by omega, Nat.zero_le _, rfl, hkl, hown, ?_⟩; refine S.keep ?_; exact zk)
 (clear S; rintro m a w ⟨i, v1, g1, k1, rfl, hil, hvr, hk1, hown1, S⟩)
 (revert S a; refine go 5 ?_; intro Z hZ a S)
 refine wpc_sp S rfl ?_ ?_ <;> intro h
 ·(revert S a; revert hZ Z; refine go 4 ?_; intro Z hZ a S)
  (refine wp_seq_k ?_; intro Z hZ)
  (obtain ⟨b8, o8, hao, x, cs1, v8, hx, hc1, hR1, hT1⟩ := TrM.pos hpos (k := i) (by omega); rw [hao] at S; have hX1 := pxc_of hR1 hT1; obtain ⟨w1, rfl, h2w⟩ := hR1; obtain ⟨a11, c11, rfl, -⟩ := h2w; obtain ⟨a91, c91, rfl, -⟩ := hT1; (simp only [List.cons_append, List.nil_append] at hc1 hX1); have hsz := Rose.size_get hx)
  (revert S a; refine go 3 ?_; intro a S)
  (refine wpl_alloc S rfl rfl rfl rfl ?_; clear S a; intro b5 a w S)
  (refine wso S rfl rfl ?_; clear S; intro w S)
  (revert S a; revert hZ Z; refine go 3 ?_; intro a S)
  (refine wv S (sv_loadF S rfl rfl hbl) ?_; clear S a; intro a S)
  (revert S a; refine go 1 ?_; intro a S)
  (replace S := S.drop1; refine wpl_callOwn (Gs := [g1, [(bo, _)]]) (Gr := []) S rfl rfl rfl rfl rfl rfl (ih F bo bl v1 g1 k1 x.1 x.2 _ (by omega) hbl (by rw [Rose.drop_get hx] at hk1; have e8 : (Rose.cons x.1 x.2 (L.drop (i + 1))).size = x.2.size + (L.drop (i + 1)).size + 1 := rfl; omega) hown1 hX1) rfl (by simp) ?_; clear S a; intro u G1 a w hv1 S; obtain ⟨v2, g2, rfl, hown2⟩ := hv1; (simp only [List.append_nil] at S))
  (revert S a; revert hZ Z; refine go 6 ?_; intro a S)
  change ∃ m', _ ∧ _
  (rw [← hao] at S; refine ⟨L.len - (i + 1), by omega, i + 1, v2, g2, vrE x.1 x.2 k1, rfl, by omega, by rw [← hvr, vrL_at hx], ?_, hown2, ?_⟩; rotate_left 1; (refine S.keep ?_; exact zk); (have h8 := vrE_len x.1 x.2 k1; rw [Rose.drop_get hx] at hk1; have e8 : (Rose.cons x.1 x.2 (L.drop (i + 1))).size = x.2.size + (L.drop (i + 1)).size + 1 := rfl; omega))
 (refine wp_exit ?_; conv => whnf)
 (first | (have h9 := hown1; skip) | (replace S := drop2 S))
 refine fin_end S (results0 Tryz.results146) ?_
 (first | exact vs_loop (by omega) (by omega) hvr hown1 | exact vs_in (by omega) (by assumption) hown | exact vs_new (by omega) (by assumption) hown | trace_state)
theorem varsCt (F : Heap) (h : EH) (L : Ef) (cs : List Value) (hX : PxC F cs h L) (hl : L.size ≤ 100000000) : Ct Tryz.prog 93 [.agg ⟨cs⟩] F [] (fun _ G' u => ∃ g, G' = [g] ∧ OwnS 9 1 u (vrE h L []).length (strs (vrE h L [])) g) := by
 obtain ⟨a1, n1, c1, ao, cap, rfl, -, -⟩ := id hX
 refine Ct.enter Tryz.func93 rfl Tryz.ntmps93 rfl fun w0 a S => ?_
 refine wp_sr fun Z hZ => ?_
 (refine wbx S ?_; clear S a; intro b1 a w S)
 (revert S a; revert hZ Z; refine go 4 ?_; intro Z hZ a S)
 (refine wpl_alloc S rfl rfl rfl rfl ?_; clear S a; intro b3 a w S)
 (revert S a; revert hZ Z; refine go 3 ?_; intro Z hZ a S)
 (refine wpl_alloc S rfl rfl rfl rfl ?_; clear S a; intro b4 a w S)
 (revert S a; revert hZ Z; refine go 4 ?_; intro Z hZ a S)
 (refine wpl_store1 S rfl rfl rfl rfl rfl rfl (by first | (simp; done) | (simp [Value.cells]; done) | exact Nat.le_of_ble_eq_true rfl) ?_; clear S; intro w S)
 (revert S a; revert hZ Z; refine go 5 ?_; intro Z hZ a S)
 (replace S := St.pullB b4 S; have S' := frz1 S; clear S; obtain ⟨F5, hle5, hb4, S⟩ := S'; replace S := S.nilg; refine wpl_callOwn (Gs := [[], [(b3, _)]]) S rfl rfl rfl rfl rfl rfl (vars1Ct (L.size + 1) F5 b3 b4 (.slice none 0 0) [] [] h L _ (Nat.lt_succ_self _) ⟨_, _, _, hb4, rfl⟩ (by show 0 + _ ≤ _; omega) (OwnS.nil _ _) (hX.mono hle5)) rfl permHead ?_; clear S a; intro u G1 a w hv1 S; obtain ⟨v2, g2, rfl, hown2⟩ := hv1; (simp only [List.cons_append, List.nil_append] at S))
 (revert S a; revert hZ Z; refine go 7 ?_; intro a S)
 refine wp_ret ?_
 (replace S := St.headG (A := [_]) S)
 refine fin_ret S (results1 Tryz.results93 (RV.tmp S rfl)) ?_
 exact ⟨_, rfl, hown2⟩
def CtQ (bn : Nat) (G' : List Grp) (m : Nat) : Prop := G' = [[(bn, .cells ⟨[.int .i64 (m : Int)]⟩ 3 (0, 0))]]
def CtD (n : Nat) : Prop := ∀ (F : Heap) (bn bc m : Nat) (v : Value) (L : Ef), L.size < n → Cel F bc 0 (.func (.func 92) ⟨[]⟩ ⟨[.pointer (some ⟨bn, 0, none⟩), .pointer (some ⟨bc, 0, none⟩)]⟩) → m + L.size ≤ 1000000000 → TrS F 9 EhR v L →
 Ct Tryz.prog 92 ([] ++ [v] ++ [.pointer (some ⟨bn, 0, none⟩), .pointer (some ⟨bc, 0, none⟩)]) F [[(bn, .cells ⟨[.int .i64 (m : Int)]⟩ 3 (0, 0))]] (fun _ G' _ => CtQ bn G' (m + cntL L))
theorem ct_at {L : Ef} {i m m1 : Nat} {x : EH × Ef} (hx : L.get? i = some x) (h : m1 + cntL (L.drop i) = m + cntL L) : (if x.1.k = 2 then m1 + 1 else m1) + cntL x.2 + cntL (L.drop (i + 1)) = m + cntL L := by
 rw [← h, cntL_at hx]; split <;> omega
theorem zzCw0 {p : Prop} (h : p := by (rw [← hao] at S; have h88 := ct_at hx hm1; have h87 := cntL_le x.2; first | (rw [if_pos hk9] at h88; refine ⟨L.len - (i + 1), by omega, i + 1, m1 + 1 + cntL x.2, rfl, by omega, h88, by omega, ?_⟩; (refine S.keep ?_; exact zk); done) | (rw [if_neg hk9] at h88; refine ⟨L.len - (i + 1), by omega, i + 1, m1 + cntL x.2, rfl, by omega, h88, by omega, ?_⟩; (refine S.keep ?_; exact zk); done) | trace_state)) : p := h
theorem countCt : ∀ n, CtD n := by
 intro n
 induction n with
 | zero => intro F bn bc m v L hn; omega
 | succ n ih =>
 intro F bn bc m v L hn hbc hml hL
 obtain ⟨ao, cap, rfl, hcap, hpos⟩ := id hL
 refine Ct.enter Tryz.func92 rfl Tryz.ntmps92 rfl fun w0 a S => ?_
 (revert S a; refine go 7 ?_; intro a S)
 refine wpc_loop (fun q a w' => ∃ (i m1 : Nat), q = L.len - i ∧ i ≤ L.len ∧ m1 + cntL (L.drop i) = m + cntL L ∧ m1 + (L.drop i).size ≤ 1000000000 ∧ St 22 [(1, ptr bn), (2, ptr bc), (6, .slice ao L.len cap), (7, .int .i64 L.len), (8, .int .i64 i)] w0 F (keys [[(bn, .cells ⟨[.int .i64 (m : Int)]⟩ 3 (0, 0))]]) F [[(bn, .cells ⟨[.int .i64 (m1 : Int)]⟩ 3 (0, 0))]] a w') ?_ ?_
 ·(refine ⟨L.len, 0, m, by omega, Nat.zero_le _, rfl, hml, ?_⟩; refine S.keep ?_; exact zk)
 (clear S; rintro q a w ⟨i, m1, rfl, hil, hm1, hk1, S⟩)
 (revert S a; refine go 5 ?_; intro Z hZ a S)
 refine wpc_sp S rfl ?_ ?_ <;> intro h
 ·(revert S a; revert hZ Z; refine go 4 ?_; intro Z hZ a S)
  (refine wp_seq_k ?_; intro Z hZ)
  (obtain ⟨b8, o8, hao, x, cs1, v8, hx, hc1, hR1, hT1⟩ := TrM.pos hpos (k := i) (by omega); rw [hao] at S; obtain ⟨w1, rfl, h2w⟩ := hR1; obtain ⟨a11, c11, rfl, -⟩ := h2w; have hT1c := hT1; obtain ⟨a91, c91, rfl, -⟩ := hT1; (simp only [List.cons_append, List.nil_append] at hc1); have hsz := Rose.size_get hx; have hk2 := hk1; rw [Rose.drop_get hx] at hk2; have e8 : (Rose.cons x.1 x.2 (L.drop (i + 1))).size = x.2.size + (L.drop (i + 1)).size + 1 := rfl)
  (revert S a; refine go 3 ?_; intro a S)
  (refine wpl_alloc S rfl rfl rfl rfl ?_; clear S a; intro b5 a w S)
  (refine wso S rfl rfl ?_; clear S; intro w S)
  (revert S a; revert hZ Z; refine go 9 ?_; intro Z hZ a S)
  refine wpc_sp S rfl ?_ ?_ <;> intro h
  ·(revert S a; refine go 3 ?_; intro a S)
   (refine wpl_store1 S rfl rfl rfl rfl rfl rfl (by first | (simp; done) | (simp [Value.cells]; done) | exact Nat.le_of_ble_eq_true rfl) ?_; clear S; intro w S)
   (revert S a; revert hZ Z; refine go 3 ?_; intro a S)
   (refine wv S (sv_loadF S rfl rfl hbc) ?_; clear S a; intro a S)
   (revert S a; refine go 2 ?_; intro a S)
   (replace S := S.drop1; first | (have hk9 : x.1.k = 2 := (by omega); have e7 : ((m1 : Int) + 1) = ((m1 + 1 : Nat) : Int) := (by omega); rw [e7] at S; refine wpl_callOwn (Gs := [[(bn, _)]]) (Gr := []) S rfl rfl rfl rfl rfl rfl (ih F bn bc (m1 + 1) _ x.2 (by omega) hbc (by omega) hT1c) rfl (by simp) ?_; clear S a; intro u G1 a w hv1 S; unfold CtQ at hv1; subst hv1; (simp only [List.append_nil] at S)) | (have hk9 : ¬ x.1.k = 2 := (by omega); refine wpl_callOwn (Gs := [[(bn, _)]]) (Gr := []) S rfl rfl rfl rfl rfl rfl (ih F bn bc m1 _ x.2 (by omega) hbc (by omega) hT1c) rfl (by simp) ?_; clear S a; intro u G1 a w hv1 S; unfold CtQ at hv1; subst hv1; (simp only [List.append_nil] at S)))
   (revert S a; revert hZ Z; refine go 6 ?_; intro a S)
   change ∃ m', _ ∧ _
   exact zzCw0
  (revert S a; revert hZ Z; refine go 3 ?_; intro a S)
  (refine wv S (sv_loadF S rfl rfl hbc) ?_; clear S a; intro a S)
  (revert S a; refine go 2 ?_; intro a S)
  (replace S := S.drop1; first | (have hk9 : x.1.k = 2 := (by omega); have e7 : ((m1 : Int) + 1) = ((m1 + 1 : Nat) : Int) := (by omega); rw [e7] at S; refine wpl_callOwn (Gs := [[(bn, _)]]) (Gr := []) S rfl rfl rfl rfl rfl rfl (ih F bn bc (m1 + 1) _ x.2 (by omega) hbc (by omega) hT1c) rfl (by simp) ?_; clear S a; intro u G1 a w hv1 S; unfold CtQ at hv1; subst hv1; (simp only [List.append_nil] at S)) | (have hk9 : ¬ x.1.k = 2 := (by omega); refine wpl_callOwn (Gs := [[(bn, _)]]) (Gr := []) S rfl rfl rfl rfl rfl rfl (ih F bn bc m1 _ x.2 (by omega) hbc (by omega) hT1c) rfl (by simp) ?_; clear S a; intro u G1 a w hv1 S; unfold CtQ at hv1; subst hv1; (simp only [List.append_nil] at S)))
  (revert S a; revert hZ Z; refine go 6 ?_; intro a S)
  change ∃ m', _ ∧ _
  exact zzCw0
 (refine wp_exit ?_; conv => whnf)
 refine fin_end S (results0 Tryz.results92) ?_
 (unfold CtQ; rw [← hm1, Rose.drop_len (by omega)]; rfl)
end Go.Proofs.YthnafdbebniapaaGreatDoor
namespace Go.Cv
open Go Go.Wk Go.Un Go.De
set_option linter.unusedSimpArgs false
set_option linter.unusedVariables false
abbrev LTy := Nat × Ty
def lvF (d : Nat) (f : Frm Ty) : Frm LTy := ⟨f.nm, f.tys.map (Prod.mk d)⟩
def allL (ts : List TD) (css : List KC) : LTy → Option (List (Frm LTy))
 | (0, _) => none
 | (d + 1, x) => (allF ts css x).map fun fs => fs.map (lvF d)
def kidL (css : List KC) (h : EH) (n : Nat) : LTy → List LTy
 | (0, x) => [(0, x)]
 | (d + 1, x) => (kidF css h n x).map (Prod.mk d)
theorem allF_ok {ts : List TD} (hT : TOk ts) {x : Ty} (hx : Wn ts x) {fs : List (Frm Ty)} (ha : allF ts (consOf ts) x = some fs) :
  fs ≠ [] ∧ (fs.map Frm.nm).Nodup ∧ ∀ f ∈ fs, f.tys.length ≤ arK ts ∧ ∀ y ∈ f.tys, Wn ts y := by
 obtain ⟨h1, h2, h3⟩ := hx.here
 unfold allF at ha
 split at ha
 ·cases ha
 ·rename_i hn
  split at ha
  ·cases ha
   refine ⟨List.cons_ne_nil _ _, by decide, fun f hf => ?_⟩
   have : f.tys = [] := by
    rcases List.mem_cons.1 hf with rfl | hf
    ·rfl
    ·rw [List.mem_singleton] at hf; subst hf; rfl
   rw [this]
   exact ⟨Nat.zero_le _, fun y hy => by cases hy⟩
  ·rename_i hb
   split at ha
   ·rename_i ht
    cases ha
    refine ⟨List.cons_ne_nil _ _, (by simp), fun f hf => ?_⟩
    rw [List.mem_singleton] at hf
    subst hf
    refine ⟨?_, fun y hy => hx.arg hy⟩
    show (tysOf x.2).length ≤ _
    rw [tysOf_len]
    unfold countsT at h3
    split at h3
    ·have := of_decide_eq_true h3; omega
    ·rw [Bool.and_eq_true] at h3
     have := of_decide_eq_true h3.2
     unfold arK; omega
   ·rename_i ht
    have hdecl : ∃ d, findT ts x.1 = some d := by
     unfold nameT at h1
     have hp : plainS x.1 = false := by
      unfold plainS
      simp only [Bool.or_eq_false_iff, decide_eq_false_iff_not]
      exact ⟨⟨⟨hb, fun h => hn (.inl h)⟩, fun h => hn (.inr (.inl h))⟩, fun h => hn (.inr (.inr h))⟩
     rw [hp, h2, decide_eq_false ht] at h1
     unfold declS at h1
     cases hd : findT ts x.1 with
     | none => rw [hd] at h1; cases h1
     | some d => exact ⟨d, rfl⟩
    obtain ⟨d, hd⟩ := hdecl
    obtain ⟨hm, he⟩ := findT_of hd
    rw [hd] at ha
    cases ha
    have hlen : x.2.len = d.ps.length := by
     unfold countsT at h3
     have hp : plainS x.1 = false := by
      unfold plainS
      simp only [Bool.or_eq_false_iff, decide_eq_false_iff_not]
      exact ⟨⟨⟨hb, fun h => hn (.inl h)⟩, fun h => hn (.inr (.inl h))⟩, fun h => hn (.inr (.inr h))⟩
     rw [if_neg (by rw [hp, h2]; simp), if_neg ht] at h3
     have := of_decide_eq_true h3
     unfold parN at this
     rw [hd] at this
     exact this
    have hargs : wiL (badN ts) x.2 = false := by unfold Wn wiT at hx; rw [Bool.or_eq_false_iff] at hx; exact hx.2
    refine ⟨fun e => hT.some hm (List.map_eq_nil_iff.1 e), ?_, fun f hf => ?_⟩
    ·rw [List.map_map]
     exact ((dupE_no hT.dup).1 d hm).2.2.1
    ·obtain ⟨c, hc, rfl⟩ := List.mem_map.1 hf
     obtain ⟨k, hk, k1, k2, k3⟩ := hT.cons hm hc
     show (putsF (consOf ts) c.nm x.2).length ≤ _ ∧ ∀ y ∈ putsF (consOf ts) c.nm x.2, Wn ts y
     unfold putsF
     rw [hk]
     dsimp only
     rw [k2, k3]
     refine ⟨by rw [List.length_map]; exact arK_le hm hc, fun y hy => ?_⟩
     obtain ⟨g, hg, rfl⟩ := List.mem_map.1 hy
     exact (hT.field hm hc g hg).put hlen hargs
theorem lv_inh {ts : List TD} (hT : TOk ts) : ∀ (d : Nat) (xs : List Ty), (∀ x ∈ xs, Wn ts x) → ∃ v, HT (allL ts (consOf ts)) (xs.map (Prod.mk d)) v
 | _, [], _ => ⟨.nil, .nil⟩
 | 0, x :: xs, h => by
  obtain ⟨v, hv⟩ := lv_inh hT 0 xs fun y hy => h y (List.mem_cons_of_mem _ hy)
  exact ⟨_, .lit [] rfl hv⟩
 | d + 1, x :: xs, h => by
  obtain ⟨v, hv⟩ := lv_inh hT (d + 1) xs fun y hy => h y (List.mem_cons_of_mem _ hy)
  have hx := h x (List.mem_cons_self ..)
  cases ha : allF ts (consOf ts) x with
  | none => exact ⟨_, .lit [] (by show Option.map _ _ = none; rw [ha]; rfl) hv⟩
  | some fs =>
   obtain ⟨h1, h2, h3⟩ := allF_ok hT hx ha
   obtain ⟨f, fs, rfl⟩ : ∃ f r, fs = f :: r := by cases fs with | nil => exact absurd rfl h1 | cons f r => exact ⟨f, r, rfl⟩
   obtain ⟨w, hw⟩ := lv_inh hT d f.tys (h3 f (List.mem_cons_self ..)).2
   exact ⟨_, .form (f := lvF d f) (fs := (f :: fs).map (lvF d)) (by show Option.map _ _ = _; rw [ha]; rfl) (List.mem_cons_self ..) hw hv⟩
theorem nodup_inj {α : Type} {key : α → By} : ∀ {l : List α} {x y : α}, (l.map key).Nodup → x ∈ l → y ∈ l → key x = key y → x = y
 | a :: r, x, y, hn, hx, hy, e => by
  rw [List.map_cons, List.nodup_cons] at hn
  rcases List.mem_cons.1 hx with rfl | _
  ·rcases List.mem_cons.1 hy with rfl | hy
   ·rfl
   ·exact absurd (List.mem_map.2 ⟨y, hy, e.symm⟩) hn.1
  ·rename_i hx2
   rcases List.mem_cons.1 hy with rfl | hy
   ·exact absurd (List.mem_map.2 ⟨x, hx2, e⟩) hn.1
   ·exact nodup_inj hn.2 hx2 hy e
theorem lv_ok {ts : List TD} (hT : TOk ts) : Ok (allO := allL ts (consOf ts)) (fun x => Wn ts x.2) (arK ts) := by
 have key : ∀ {x : LTy} {fs : List (Frm LTy)}, allL ts (consOf ts) x = some fs → ∃ d gs, fs = gs.map (lvF d) ∧ x.1 = d + 1 ∧ allF ts (consOf ts) x.2 = some gs := by
  intro x fs h
  obtain ⟨d, x⟩ := x
  cases d with
  | zero => cases h
  | succ d =>
   have h1 : Option.map _ (allF ts (consOf ts) x) = some fs := h
   rw [Option.map_eq_some_iff] at h1
   obtain ⟨gs, h2, h3⟩ := h1
   exact ⟨d, gs, h3.symm, rfl, h2⟩
 refine ⟨fun {x fs f} hx ha hf => ?_, fun {x fs f g} hx ha hf hg e => ?_, fun {x} hx => ?_⟩
 ·obtain ⟨d, gs, rfl, h1, h2⟩ := key ha
  obtain ⟨g, hg, rfl⟩ := List.mem_map.1 hf
  have h3 := (allF_ok hT hx h2).2.2 g hg
  refine ⟨by show (g.tys.map _).length ≤ _; rw [List.length_map]; exact h3.1, fun y hy => ?_⟩
  obtain ⟨z, hz, rfl⟩ := List.mem_map.1 hy
  exact h3.2 z hz
 ·obtain ⟨d, gs, rfl, h1, h2⟩ := key ha
  obtain ⟨p, hp, rfl⟩ := List.mem_map.1 hf
  obtain ⟨q, hq, rfl⟩ := List.mem_map.1 hg
  rw [nodup_inj (allF_ok hT hx h2).2.1 hp hq e]
 ·exact lv_inh hT x.1 [x.2] fun y hy => by rw [List.mem_singleton] at hy; subst hy; exact hx
section
variable {sh : VH → By} {ts : List TD}
theorem spec_congr {τ σ : Type} {f : Frm τ} {g : Frm σ} (h1 : f.nm = g.nm) (h2 : f.tys.length = g.tys.length) (rows : List Ef) : specR sh f rows = specR sh g rows := by
 have e : ∀ r, asR sh f r = asR sh g r := fun r => by
  cases r with
  | nil => rfl
  | cons h L r => cases hh : hdO sh h with
   | none => rw [as_none hh, as_none hh, h2]
   | some s => rw [as_some hh, as_some hh, h1]
 unfold specR
 rw [show (fun r => (asR sh f r).2) = fun r => (asR sh g r).2 from funext fun r => by rw [e], show (fun r => (asR sh f r).1) = fun r => (asR sh g r).1 from funext fun r => by rw [e]]
theorem seen_none {rows : List Ef} (h : ∀ r ∈ rows, hdR sh r = none) : seenR sh rows = [] := by
 unfold seenR
 rw [List.filterMap_eq_nil_iff]
 exact h
def LitS (sh : VH → By) : Prop := ∀ v : VH, v.k = 1 → sh v = sFalse ∨ sh v = sTrue
theorem kid_fit {css : List KC} {h : EH} {n : Nat} {x : Ty} (hk : kidOK ts css h n x = true) (h2 : h.k = 4 ∨ h.k = 5) : (kidF css h n x).length = n := by
 unfold kidOK at hk
 unfold kidF
 rcases h2 with h4 | h5
 ·rw [if_neg (by omega), if_pos h4, Bool.and_eq_true] at hk
  rw [if_pos h4, tysOf_len]
  exact of_decide_eq_true hk.2
 ·rw [if_neg (by omega), if_neg (by omega), if_pos h5] at hk
  rw [if_neg (by omega), if_pos h5]
  cases hc : findC css h.nm with
  | none => rw [hc] at hk; cases hk
  | some c =>
   rw [hc] at hk
   dsimp only at hk ⊢
   rw [Bool.and_eq_true, decide_eq_true_eq, decide_eq_true_eq] at hk
   rw [if_pos hk, List.length_map]
   exact hk.2
theorem fit_FT (hT : TOk ts) (hs : LitS sh) : ∀ (d : Nat) (l : Ef) (xs : List Ty), depE l ≤ d → LitOK l → (∀ x ∈ xs, Wn ts x) → fitL ts (consOf ts) l xs = true → FT sh (allL ts (consOf ts)) (kidL (consOf ts)) (xs.map (Prod.mk d)) l
 | d, .nil, [], _, _, _, _ => .nil
 | d, .nil, _ :: _, _, _, _, h => by cases h
 | d, .cons h L r, [], _, _, _, hf => by cases hf
 | 0, .cons h L r, x :: xs, hd, _, _, _ => by exfalso; have : max (depE L + 1) (depE r) ≤ 0 := hd; omega
 | d + 1, .cons h L r, x :: xs, hd, hl, hx, hf => by
  have hd2 : max (depE L + 1) (depE r) ≤ d + 1 := hd
  have hf2 : ((kidOK ts (consOf ts) h L.len x && fitL ts (consOf ts) L (kidF (consOf ts) h L.len x)) && fitL ts (consOf ts) r xs) = true := hf
  rw [Bool.and_eq_true, Bool.and_eq_true] at hf2
  obtain ⟨⟨h1, h2⟩, h3⟩ := hf2
  obtain ⟨hl1, hl2, hl3⟩ := hl
  have hx1 := hx x (List.mem_cons_self ..)
  have ihr := fit_FT hT hs (d + 1) r xs (by omega) hl3 (fun y hy => hx y (List.mem_cons_of_mem _ hy)) h3
  rw [List.map_cons]
  cases hn : hdO sh h with
  | none => exact .any hn ihr
  | some s =>
   have hn0 := hn
   unfold hdO at hn
   by_cases k1 : h.k = 1
   ·rw [if_pos k1] at hn
    cases hn
    have ek : ∀ n, kidF (consOf ts) h n x = [] := fun n => by unfold kidF; rw [if_neg (by omega), if_neg (by omega)]
    rw [ek] at h2
    have hL : L = .nil := by cases L with | nil => rfl | cons _ _ _ => cases h2
    subst hL
    unfold kidOK at h1
    rw [if_pos k1] at h1
    unfold isF at h1
    rw [Bool.and_eq_true, Bool.and_eq_true] at h1
    have h4 := h1.2.2
    have hv := hl1 k1
    unfold isT at h4
    by_cases v1 : h.v.k = 1
    ·rw [if_pos v1] at h4
     have hb := of_decide_eq_true h4
     have ha : allF ts (consOf ts) x = some [⟨sFalse, []⟩, ⟨sTrue, []⟩] := by
      unfold allF
      rw [if_neg (by rw [hb]; decide), if_pos hb]
     have : ∃ f ∈ [(⟨sFalse, []⟩ : Frm Ty), ⟨sTrue, []⟩], f.nm = sh h.v ∧ f.tys = [] := by
      rcases hs h.v v1 with e | e
      ·exact ⟨_, List.mem_cons_self .., e.symm, rfl⟩
      ·exact ⟨_, List.mem_cons_of_mem _ (List.mem_singleton.2 rfl), e.symm, rfl⟩
     obtain ⟨f, hf, e1, e2⟩ := this
     refine .form (f := lvF d f) (fs := [(⟨sFalse, []⟩ : Frm Ty), ⟨sTrue, []⟩].map (lvF d)) (by show Option.map _ _ = _; rw [ha]; rfl) (List.mem_map.2 ⟨f, hf, rfl⟩) (by rw [hn0]; exact congrArg some e1.symm) ?_ ?_ ihr
     ·show (kidF (consOf ts) h _ x).map _ = f.tys.map _
      rw [ek, e2]
     ·show FT _ _ _ (f.tys.map _) _
      rw [e2]; exact .nil
    ·have ha : allF ts (consOf ts) x = none := by
      unfold allF
      rw [if_pos]
      rw [if_neg v1] at h4
      by_cases v2 : h.v.k = 2
      ·rw [if_pos v2] at h4; exact .inl (of_decide_eq_true h4)
      ·rw [if_neg v2] at h4
       by_cases v3 : h.v.k = 3
       ·rw [if_pos v3] at h4; exact .inr (.inl (of_decide_eq_true h4))
       ·rw [if_neg v3, if_pos (by omega)] at h4; exact .inr (.inr (of_decide_eq_true h4))
     exact .lit hn0 (by show Option.map _ _ = _; rw [ha]; rfl) (by show (kidF (consOf ts) h 0 x).map _ = []; rw [ek]; rfl) ihr
   ·by_cases k5 : h.k = 5
    ·rw [if_neg k1, if_pos k5] at hn
     cases hn
     have hlen := kid_fit h1 (.inr k5)
     unfold kidOK at h1
     rw [if_neg k1, if_neg (by omega), if_pos k5] at h1
     cases hc : findC (consOf ts) h.nm with
     | none => rw [hc] at h1; cases h1
     | some c =>
      rw [hc] at h1
      dsimp only at h1
      rw [Bool.and_eq_true, decide_eq_true_eq, decide_eq_true_eq] at h1
      obtain ⟨c1, dd, hdm, cc, hcm, c2, c3, c4, c5⟩ := findC_of hc
      have ek : kidF (consOf ts) h L.len x = putsF (consOf ts) h.nm x.2 := by
       unfold kidF putsF
       rw [if_neg (by omega), if_pos k5, hc]
       dsimp only
       rw [if_pos h1]
      have hnp : badT [] dd = false := ((dupE_no hT.dup).1 dd hdm).1
      have hfd : findT ts x.1 = some dd := by rw [← h1.1, c3]; exact hT.findT hdm
      have ha : allF ts (consOf ts) x = some (dd.cs.map fun c => ⟨c.nm, putsF (consOf ts) c.nm x.2⟩) := by
       unfold badT plainS at hnp
       simp only [Bool.or_eq_false_iff, decide_eq_false_iff_not] at hnp
       have e : x.1 = dd.nm := by rw [← h1.1, c3]
       unfold allF
       rw [if_neg (by rw [e]; rintro (h | h | h); exact hnp.1.1.2.1.1.2 h; exact hnp.1.1.2.1.2 h; exact hnp.1.1.2.2 h), if_neg (by rw [e]; exact hnp.1.1.2.1.1.1), if_neg (by rw [e]; exact hnp.1.2), hfd]
      have hm : (⟨cc.nm, putsF (consOf ts) cc.nm x.2⟩ : Frm Ty) ∈ dd.cs.map fun c => (⟨c.nm, putsF (consOf ts) c.nm x.2⟩ : Frm Ty) := List.mem_map.2 ⟨cc, hcm, rfl⟩
      have hwk := ((allF_ok hT hx1 ha).2.2 _ hm).2
      refine .form (f := lvF d ⟨cc.nm, putsF (consOf ts) cc.nm x.2⟩) (fs := (dd.cs.map fun c => (⟨c.nm, putsF (consOf ts) c.nm x.2⟩ : Frm Ty)).map (lvF d)) (by show Option.map _ _ = _; rw [ha]; rfl) (List.mem_map.2 ⟨_, hm, rfl⟩) (by rw [hn0]; exact congrArg some c2.symm) ?_ ?_ ihr
      ·show (kidF (consOf ts) h _ x).map _ = (putsF (consOf ts) cc.nm x.2).map _
       rw [ek, c2]
      ·refine fit_FT hT hs d L (putsF (consOf ts) cc.nm x.2) (by omega) hl2 hwk ?_
       rw [c2, ← ek]; exact h2
    ·by_cases k4 : h.k = 4
     ·rw [if_neg k1, if_neg k5, if_pos k4] at hn
      cases hn
      unfold kidOK at h1
      rw [if_neg k1, if_pos k4, Bool.and_eq_true] at h1
      have ht := of_decide_eq_true h1.1
      have ek : kidF (consOf ts) h L.len x = tysOf x.2 := by unfold kidF; rw [if_pos k4]
      have ha : allF ts (consOf ts) x = some [⟨sUnit, tysOf x.2⟩] := by
       unfold allF
       rw [if_neg (by rw [ht]; decide), if_neg (by rw [ht]; decide), if_pos ht]
      refine .form (f := lvF d ⟨sUnit, tysOf x.2⟩) (fs := [(⟨sUnit, tysOf x.2⟩ : Frm Ty)].map (lvF d)) (by show Option.map _ _ = _; rw [ha]; rfl) (List.mem_singleton.2 rfl) hn0 ?_ ?_ ihr
      ·show (kidF (consOf ts) h _ x).map _ = (tysOf x.2).map _
       rw [ek]
      ·refine fit_FT hT hs d L (tysOf x.2) (by omega) hl2 (fun y hy => hx1.arg hy) ?_
       rw [← ek]; exact h2
     ·rw [if_neg k1, if_neg k5, if_neg k4] at hn
      cases hn
end
theorem well_Wn {ts : List TD} {x : Ty} (h : wellT ts x = true) : Wn ts x := by
 unfold wellT at h
 rw [Bool.and_eq_true, decide_eq_true_eq, Bool.not_eq_true'] at h
 have h1 := useT_ok h.1
 have h2 : wiT (fun y => parS y.1) x = false := h.2
 unfold Wn badN
 rw [wiT_or (fun y => nameT ts y || parS y.1), wiT_or, h1.1, h1.2, h2]
 rfl
end Go.Cv
