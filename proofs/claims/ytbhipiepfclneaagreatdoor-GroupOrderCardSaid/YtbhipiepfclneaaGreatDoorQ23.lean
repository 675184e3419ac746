/- Walks. -/
import Derived.Test.YtbhipiepfclneaaGreatDoorQ22
import Derived.Test.YtbhipiepfclneaaGreatDoorQ18
set_option maxHeartbeats 16000000
set_option maxRecDepth 20000
namespace Go.Proofs.YtbhipiepfclneaaGreatDoor
open Go Go.Wk Go.Un Go.De Go.Num
set_option linter.unusedSimpArgs false
set_option linter.unusedVariables false
attribute [local irreducible] Go.wpList Go.Code.wp Go.wpStill Go.Wk.wpPre Go.bodyPost Go.Calls Go.Wk.Ct Go.Wk.OwnS Go.Wk.wpG Go.Wk.wpM
def AggQ (F : Heap) (r : Int × Vv) (u : Value) : Prop := ∃ a c, u = .tuple ⟨[.agg ⟨vcs r.2 a c⟩, .int .i64 r.1]⟩ ∧ RoR 4 VhR F r.2 (vcs r.2 a c)
theorem ror_leaf (F : Heap) (k : Nat) (n : Int) (s : List UInt8) (hs : s.length ≤ 140737488355328) : RoR 4 VhR F (⟨k, n, s⟩, .nil) [.int .u8 (k : Int), .int .i64 n, .string (bs s), .slice none 0 0] := ⟨[_, _, _], _, rfl, rfl, ⟨rfl, hs⟩, TrS.nil _ _ _⟩
theorem agg_leaf (F : Heap) (e : Int) (k : Nat) (n : Int) (s : List UInt8) (hs : s.length ≤ 140737488355328) : AggQ F (e, (⟨k, n, s⟩, .nil)) (.tuple ⟨[.agg ⟨[.int .u8 (k : Int), .int .i64 n, .string (bs s), .slice none 0 0]⟩, .int .i64 e]⟩) := ⟨none, 0, rfl, ror_leaf F k n s hs⟩
theorem showZ_len (z : Int) : (showZ z).1.length ≤ 201 := by
 unfold showZ showS
 split
 ·decide
 ·split
  ·decide
  ·rename_i h1 h2
   cases decide (z < 0)
   ·simp; omega
   ·simp; omega
def strs (l : List (List UInt8)) : List Value := l.map fun s => .string (bs s)
theorem strs_app (l m : List (List UInt8)) : strs (l ++ m) = strs l ++ strs m := List.map_append ..
theorem strs_lic (F : Heap) : ∀ l : List (List UInt8), LiC F 1 StR (strs l) l
 | [] => rfl
 | s :: r => ⟨[.string (bs s)], strs r, rfl, rfl, rfl, strs_lic F r⟩
theorem negs_len (l : List Vv) (k : Nat) : (negs (l.take k)).length ≤ l.length := by
 unfold negs
 refine Nat.le_trans (List.length_filter_le _ _) ?_
 rw [List.length_map, List.length_take]
 exact Nat.min_le_right _ _
theorem poss_len (l : List Vv) (k : Nat) : (poss (l.take k)).length ≤ l.length := by
 unfold poss
 refine Nat.le_trans (List.length_filter_le _ _) ?_
 rw [List.length_map, List.length_take]
 exact Nat.min_le_right _ _
theorem lim_tail {F : Heap} {ao : Option Addr} {n cap : Nat} {t : List UInt8} {l : List (List UInt8)} (h : LiM F 1 StR (.slice ao n cap) (t :: l)) : ∃ b o, ao = some ⟨b, o, none⟩ ∧ n = l.length + 1 ∧ 1 ≤ cap ∧ Cel F b (o + 0) (.string (bs t)) ∧ LiM F 1 StR (.slice (Wk.cutA (some ⟨b, o, none⟩) 1 cap 1) (n - 1) (cap - 1)) l := by
 obtain ⟨ao', cap', e, ⟨h1, h2⟩, hp⟩ := h
 cases e
 obtain ⟨b, o, rfl, hx⟩ := hp (Nat.succ_pos _)
 obtain ⟨cs, hc, hl, hR⟩ := hx 0 t rfl
 rw [show cs = _ from hR] at hc
 refine ⟨b, o, rfl, rfl, by simp at h1; omega, ?_, ⟨_, _, rfl, ⟨by simp at h1; omega, by simp at h2; omega⟩, fun hl => ⟨b, o + 1 * 1, cutA_pos (m := l.length + 1) (by omega) (by simpa using h1), fun k y hy => ?_⟩⟩⟩
 ·have := hc 0 _ rfl
  simpa using this
 ·obtain ⟨cs, h3, h4, h5⟩ := hx (k + 1) y hy
  exact ⟨cs, by rw [show o + 1 * 1 + k * 1 = o + (k + 1) * 1 by omega]; exact h3, h4, h5⟩
theorem zzGc0 {p : Prop} (h : p := by (replace S := S.drop1; refine ⟨trivial, ?_⟩; unfold txN; first | (rw [if_pos (by omega)]; refine S.keep ?_; exact zk) | (rw [if_neg (by omega)]; refine S.keep ?_; exact zk))) : p := h
theorem zzGc1 {p : Prop} (h : p := by (first | (rw [hno]; exact agg_leaf _ 80 0 0 [] (by decide)) | (have hs9 : sumF l = (0, bigV (showZ (l.map valN).sum).1) := (by unfold sumF; rw [if_pos (by rw [hhd]; omega), if_pos hf2]); rw [hs9, ← hf1]; exact agg_leaf _ 0 3 0 now (by omega)) | (have hs9 : sumF l = (80, zV) := (by unfold sumF; rw [if_neg (by rw [hhd]; omega)]; rcases hia with ⟨h9, h8⟩ | ⟨h9, h8⟩; cases h9; (exfalso; omega); rw [if_neg h8]); rw [hs9]; exact agg_leaf _ 80 0 0 [] (by decide)) | (have hs9 : sumF l = (0, intV q1) := (by unfold sumF; rw [if_neg (by rw [hhd]; omega)]; rcases hia with ⟨h9, h8⟩ | ⟨h9, h8⟩; cases h9; rw [if_pos h8]; cases h9; (exfalso; omega)); rw [hs9]; exact agg_leaf _ 0 2 q1 [] (by decide)) | trace_state)) : p := h
theorem zzGc2 {p : Prop} (h : p := by ((simp only [List.length_cons] at hlk); first | (refine ⟨l.length - (k + 1), by omega, k + 1, A, B, _, _, _, _, _, _, rfl, by omega, hst, by omega, hLA, hLt, ?_⟩; refine S.keep ?_; exact zk) | (refine ⟨l.length - (k + 1), by omega, k + 1, A, B, _, _, _, _, _, _, rfl, by omega, hst, by omega, hLt, hLB, ?_⟩; refine S.keep ?_; exact zk) | trace_state)) : p := h
theorem sumCt (F : Heap) (hT : TabF F) (hE : ErrF F) (v : Value) (l : List Vv) (h : LiM F 4 (RoR 4 VhR) v l) (h0 : 0 < l.length) (hok : ∀ x ∈ l, NumOk x) (hlen : l.length ≤ 1000000000) :
    Ct Tryz.prog 53 [v] F [] (fun _ _ u => AggQ F (sumF l) u) := by
  obtain ⟨ao, cap, rfl, hcap, hpos⟩ := h
  have hl0 : 0 < l.length := h0
  obtain ⟨bz, oz, rfl, x0, cs0, hx0, hc0, hR0⟩ := LiM.pos hpos (k := 0) hl0
  obtain ⟨az, cz, rfl⟩ := ror_cs hR0
  have hhd : (l.headD zV) = x0 := by
    cases l with
    | nil => cases hx0
    | cons y r => cases hx0; rfl
  have hS := sum_start hok
  have hsp := (sum_split hok).2
  refine Ct.enter Tryz.func53 rfl Tryz.ntmps53 rfl fun w0 a S => ?_
  refine wp_sr fun Z hZ => ?_
  (refine wpl_alloc S rfl rfl rfl rfl ?_; clear S a; intro b2 a w S)
  (revert S a; revert hZ Z; refine go 4 ?_; intro Z hZ a S)
  (refine wpl_alloc S rfl rfl rfl rfl ?_; clear S a; intro b4 a w S)
  (revert S a; revert hZ Z; refine go 10 ?_; intro Z hZ a S)
  refine wpc_loop (fun m a w' => ∃ (k : Nat) (v0 v1 : Value) (g0 g1 : Grp), m = l.length - k ∧ k ≤ l.length ∧ OwnS 9 1 v0 (negs (l.take k)).length (strs (negs (l.take k))) g0 ∧ OwnS 9 1 v1 (poss (l.take k)).length (strs (poss (l.take k))) g1 ∧ St 97 [(0, .slice (some ⟨bz, oz, none⟩) l.length cap), (2, ptr b2), (4, ptr b4), (14, .slice (some ⟨bz, oz, none⟩) l.length cap), (15, .int .i64 l.length), (16, .int .i64 k)] w0 F [] F [g0, g1, [(b4, .cells ⟨[v0, v1]⟩ 129 (0, 0))], [(b2, .cells ⟨[.int .u8 0, .int .i64 0, .string (bs []), .slice none 0 0]⟩ 45 (0, 0))]] a w') ?_ ?_
  · (refine ⟨l.length, 0, .slice none 0 0, .slice none 0 0, [], [], by omega, Nat.zero_le _, OwnS.nil _ _, OwnS.nil _ _, ?_⟩; replace S := S.nilg.nilg; refine S.keep ?_; exact zk)
  (clear S; rintro m a w ⟨k, v0, v1, g0, g1, rfl, hkl, hO0, hO1, S⟩; have hn0 := negs_len l k; have hn1 := poss_len l k)
  (revert S a; refine go 5 ?_; intro Z hZ a S)
  refine wpc_sp S rfl ?_ ?_ <;> intro h
  · (revert S a; revert hZ Z; refine go 4 ?_; intro Z hZ a S)
    (refine wp_seq_k ?_; intro Z hZ)
    (obtain ⟨b8, o8, e8, x, cs1, hx, hc1, hR1⟩ := LiM.pos hpos (k := k) (by omega); cases e8; obtain ⟨ax, cx, rfl⟩ := ror_cs hR1; have hxm := List.mem_of_getElem? hx; have hxo := hok x hxm; have hxt := txN_ok hxo; have hxp := check_pos hxt.1)
    (revert S a; refine go 3 ?_; intro a S)
    (refine wpl_alloc S rfl rfl rfl rfl ?_; clear S a; intro b6 a w S)
    (refine wso S rfl rfl ?_; clear S; intro w S)
    (revert S a; revert hZ Z; refine go 8 ?_; intro a S)
    (refine wp_seq_k ?_; intro Z hZ)
    replace hZ : ∀ (a' : Act) (w' : World), (True ∧ St 97 [(0, .slice (some ⟨bz, oz, none⟩) l.length cap), (2, ptr b2), (4, ptr b4), (7, .string (bs (txN x))), (14, .slice (some ⟨bz, oz, none⟩) l.length cap), (15, .int .i64 l.length), (16, .int .i64 k)] w0 F [] F [g0, g1, [(b4, .cells ⟨[v0, v1]⟩ 129 (0, 0))], [(b2, .cells ⟨[.int .u8 0, .int .i64 0, .string (bs []), .slice none 0 0]⟩ 45 (0, 0))]] a' w') → Z a' w' := (by
     (intro a w hM; refine hZ _ _ ?_; clear hZ Z; clear S; obtain ⟨-, S⟩ := hM)
     (revert S a; refine go 7 ?_; intro Z hZ Z hZ a S)
     (refine wv S (sv_indexSN (i := 0) S rfl rfl rfl (by omega)) ?_; clear S a; intro a S)
     (revert S a; revert hZ Z; refine go 3 ?_; intro a S)
     refine wpc_sp S rfl ?_ ?_ <;> intro h
     · (have hown := hO0)
       (revert S a; revert hZ Z; refine go 4 ?_; intro a S)
       (first | (have hq := hown; clear hq) | (have hown := hO1))
       (revert S a; refine go 3 ?_; intro a S)
       (refine wv S (sv_indexAddrArr S rfl rfl rfl (by first | omega | (simp only [List.length_append, List.length_cons, List.length_nil]; omega))) ?_; clear S a; intro a S)
       (revert S a; refine go 2 ?_; intro a S)
       (refine wpl_append S rfl rfl rfl rfl rfl rfl rfl rfl rfl rfl rfl (fun _ => rfl) hown (by rfl) (by simp [Value.cells, splice, splice]) (by simp [Value.cells, Value.oneCell', splice, splice]) rfl (by rfl) (by rfl) rfl (by omega) (by omega) ?_; clear hown S a; intro v u g a w hown S)
       (refine wv S (sv_indexAddrArr S rfl rfl rfl (by first | omega | (simp only [List.length_append, List.length_cons, List.length_nil]; omega))) ?_; clear S a; intro a S)
       (refine wpl_store1 S rfl rfl rfl rfl rfl hown.oneCell (by first | (simp; done) | exact Nat.le_of_ble_eq_true rfl) ?_; clear S; intro w S)
       (revert S a; revert hZ Z; refine go 6 ?_; intro a S)
       change ∃ m', _ ∧ _
       (first | (have hng : negT (txN x) = true := decide_eq_true (by omega); have hown2 : OwnS 9 1 v (negs (l.take (k + 1))).length (strs (negs (l.take (k + 1)))) g := (by rw [negs_snoc hx, if_pos hng, strs_app, List.length_append]; exact hown); have e2 := poss_snoc hx; rw [if_pos hng, List.append_nil] at e2; rw [← e2] at hO1; refine ⟨l.length - (k + 1), by omega, k + 1, _, _, _, _, rfl, by omega, hown2, hO1, ?_⟩; refine S.keep ?_; exact zk) | (have hng : ¬ negT (txN x) = true := (fun h9 => absurd (of_decide_eq_true h9) (by omega)); have hown2 : OwnS 9 1 v (poss (l.take (k + 1))).length (strs (poss (l.take (k + 1)))) g := (by rw [poss_snoc hx, if_neg hng, strs_app, List.length_append]; exact hown); have e2 := negs_snoc hx; rw [if_neg hng, List.append_nil] at e2; rw [← e2] at hO0; refine ⟨l.length - (k + 1), by omega, k + 1, _, _, _, _, rfl, by omega, hO0, hown2, ?_⟩; refine S.keep ?_; exact zk) | trace_state)
     (revert S a; revert hZ Z; refine go 2 ?_; intro a S)
     (first | (have hq := hown; clear hq) | (have hown := hO1))
     (revert S a; refine go 3 ?_; intro a S)
     (refine wv S (sv_indexAddrArr S rfl rfl rfl (by first | omega | (simp only [List.length_append, List.length_cons, List.length_nil]; omega))) ?_; clear S a; intro a S)
     (revert S a; refine go 2 ?_; intro a S)
     (refine wpl_append S rfl rfl rfl rfl rfl rfl rfl rfl rfl rfl rfl (fun _ => rfl) hown (by rfl) (by simp [Value.cells, splice, splice]) (by simp [Value.cells, Value.oneCell', splice, splice]) rfl (by rfl) (by rfl) rfl (by omega) (by omega) ?_; clear hown S a; intro v u g a w hown S)
     (refine wv S (sv_indexAddrArr S rfl rfl rfl (by first | omega | (simp only [List.length_append, List.length_cons, List.length_nil]; omega))) ?_; clear S a; intro a S)
     (refine wpl_store1 S rfl rfl rfl rfl rfl hown.oneCell (by first | (simp; done) | exact Nat.le_of_ble_eq_true rfl) ?_; clear S; intro w S)
     (revert S a; revert hZ Z; refine go 6 ?_; intro a S)
     change ∃ m', _ ∧ _
     (first | (have hng : negT (txN x) = true := decide_eq_true (by omega); have hown2 : OwnS 9 1 v (negs (l.take (k + 1))).length (strs (negs (l.take (k + 1)))) g := (by rw [negs_snoc hx, if_pos hng, strs_app, List.length_append]; exact hown); have e2 := poss_snoc hx; rw [if_pos hng, List.append_nil] at e2; rw [← e2] at hO1; refine ⟨l.length - (k + 1), by omega, k + 1, _, _, _, _, rfl, by omega, hown2, hO1, ?_⟩; refine S.keep ?_; exact zk) | (have hng : ¬ negT (txN x) = true := (fun h9 => absurd (of_decide_eq_true h9) (by omega)); have hown2 : OwnS 9 1 v (poss (l.take (k + 1))).length (strs (poss (l.take (k + 1)))) g := (by rw [poss_snoc hx, if_neg hng, strs_app, List.length_append]; exact hown); have e2 := negs_snoc hx; rw [if_neg hng, List.append_nil] at e2; rw [← e2] at hO0; refine ⟨l.length - (k + 1), by omega, k + 1, _, _, _, _, rfl, by omega, hO0, hown2, ?_⟩; refine S.keep ?_; exact zk) | trace_state))
    (revert S a; refine go 6 ?_; intro a S)
    refine wpc_sp S rfl ?_ ?_ <;> intro h
    · (revert S a; refine go 3 ?_; intro a S)
      (refine wc0 S (bigOfCt x.1.n F hT (by rcases hxo with h9 | h9 <;> omega) (by rcases hxo with h9 | h9 <;> omega)) ?_; clear S a; intro v9 a w hv S; subst hv)
      (revert S a; refine go 2 ?_; intro a S)
      (refine hZ _ _ ?_)
      exact zzGc0
    refine wp_skip ?_
    (refine hZ _ _ ?_)
    exact zzGc0
  (refine wp_exit ?_; conv => whnf)
  clear hZ Z
  (refine hZ _ _ ?_; clear hZ Z)
  (refine wp_seq_k ?_; intro Z hZ)
  (have hkk : k = l.length := (by omega); subst hkk; rw [List.take_of_length_le (Nat.le_refl _)] at hO0 hO1; have hle0 := add_le (G1 := []) S; replace S := St.freeze (G1 := []) S; (simp only [List.nil_append] at S hle0); have hLA := LiC.lim (F := F) hO0 (strs_lic F _) rfl hle0 (by omega); have hle1 := add_le (G1 := []) S; replace S := St.freeze (G1 := []) S; (simp only [List.nil_append] at S hle1); have hLB := LiC.lim (F := F.add g0) hO1 (strs_lic _ _) rfl hle1 (by omega); replace hLA := hLA.mono hle1; have hF2 : ∀ b o, F b = some o → ((F.add g0).add g1) b = some o := fun b o h => hle1 _ _ (hle0 _ _ h); clear hO0 hO1 hle0 hle1; obtain ⟨aA, cA, rfl, -, -⟩ := id hLA; obtain ⟨aB, cB, rfl, -, -⟩ := id hLB; generalize (F.add g0).add g1 = F2 at S hLA hLB hF2; have hT2 := hT.mono hF2; have hE2 := hE.mono hF2; replace hc0 := Cels.mono hF2 hc0)
  (revert S a; revert hZ Z; refine go 12 ?_; intro Z hZ a S)
  refine wpc_loop (fun m a w' => ∃ (k : Nat) (A B : List (List UInt8)) (now : List UInt8) (z : Int) (aA aB : Option Addr) (cA cB : Nat), m = l.length - k ∧ k ≤ l.length ∧ SumI (l.map valN).sum now A B z ∧ A.length + B.length + k = l.length ∧ LiM F2 1 StR (.slice aA A.length cA) A ∧ LiM F2 1 StR (.slice aB B.length cB) B ∧ St 97 [(0, .slice (some ⟨bz, oz, none⟩) l.length cap), (2, ptr b2), (4, ptr b4), (9, .string (bs now)), (41, .int .i64 l.length), (42, .int .i64 k)] w0 F [] F2 [[(b4, .cells ⟨[.slice aA A.length cA, .slice aB B.length cB]⟩ 129 (0, 0))], [(b2, .cells ⟨[.int .u8 0, .int .i64 0, .string (bs []), .slice none 0 0]⟩ 45 (0, 0))]] a w') ?_ ?_
  · (refine ⟨l.length, 0, negs l, poss l, [48], 0, _, _, _, _, by omega, Nat.zero_le _, hS, by omega, hLA, hLB, ?_⟩; refine S.keep ?_; exact zk)
  (clear S hLA hLB hS; rintro m a w ⟨k, A, B, now, z, aA, aB, cA, cB, rfl, hkl, hI, hlk, hLA, hLB, S⟩; have hpn := check_pos hI.neg.1; have hln := check_len hI.neg.1; have hzn : (now.getD 0 0).toNat = 45 ↔ z < 0 := (by have h9 := hI.neg.2.2; unfold negT at h9; rw [decide_eq_true_eq] at h9; exact h9))
  (revert S a; refine go 5 ?_; intro Z hZ a S)
  refine wpc_sp S rfl ?_ ?_ <;> intro h
  · (revert S a; revert hZ Z; refine go 9 ?_; intro Z hZ Z hZ a S)
    (revert S a; refine go 2 ?_; intro Z hZ a S)
    (refine wv S (sv_indexSN (i := 0) S rfl rfl rfl (by omega)) ?_; clear S a; intro a S)
    (revert S a; refine go 2 ?_; intro a S)
    refine wgd S ?_ ?_
    · (clear S; intro h S)
      (refine wv S (sv_indexAddrArr S rfl rfl rfl (by first | omega | (simp only [List.length_append, List.length_cons, List.length_nil]; omega))) ?_; clear S a; intro a S)
      (revert S a; revert hZ Z; refine go 9 ?_; intro a S)
      refine wpc_sp S rfl ?_ ?_ <;> intro h
      · (revert S a; revert hZ Z; refine go 7 ?_; intro Z hZ Z hZ a S)
        (refine wv S (sv_indexAddrArr S rfl rfl rfl (by first | omega | (simp only [List.length_append, List.length_cons, List.length_nil]; omega))) ?_; clear S a; intro a S)
        (revert S a; refine go 2 ?_; intro a S)
        (refine wv S (sv_lit (c := false) (sv_pure S rfl) (by (rw [beq_eq_false_iff_ne]; omega))) ?_; clear S a; intro a S)
        (revert S a; revert hZ Z; refine go 2 ?_; intro a S)
        refine wpc_false S rfl ?_
        (revert S a; revert hZ Z; refine go 7 ?_; intro Z hZ a S)
        (refine wp_seq_k ?_; intro Z hZ)
        (first | (have hBn : B ≠ [] := (by intro h9; subst h9; (simp only [List.length_nil] at *); omega); have hBc : z < 0 ∨ A = [] := (by first | (left; omega) | (right; exact List.eq_nil_of_length_eq_zero (by omega))); obtain ⟨t, B, rfl⟩ := List.exists_cons_of_ne_nil hBn; have hov := hI.overB hBc; have hst := hI.stepB; have htc := (hI.b t (List.mem_cons_self ..)).1; have hadd := hI.add htc; obtain ⟨bt, ot, rfl, hnt, hcl, hct, hLt⟩ := lim_tail hLB) | (have hAn : A ≠ [] := (by intro h9; subst h9; (simp only [List.length_nil] at *); omega); have hAc : 0 ≤ z ∨ B = [] := (by first | (left; omega) | (right; exact List.eq_nil_of_length_eq_zero (by omega))); obtain ⟨t, A, rfl⟩ := List.exists_cons_of_ne_nil hAn; have hov := hI.overA hAc; have hst := hI.stepA; have htc := (hI.a t (List.mem_cons_self ..)).1; have hadd := hI.add htc; obtain ⟨bt, ot, rfl, hnt, hcl, hct, hLt⟩ := lim_tail hLA)); have hlt := check_len htc; replace hct : Cel F2 bt (ot + 0 * 1) (.string (bs t)) := hct
        (revert S a; refine go 3 ?_; intro a S)
        (refine wv S (sv_indexAddrArr S rfl rfl rfl (by first | omega | (simp only [List.length_append, List.length_cons, List.length_nil]; omega))) ?_; clear S a; intro a S)
        (revert S a; refine go 2 ?_; intro a S)
        (refine wv S (sv_loadF S rfl rfl hct) ?_; clear S a; intro a S)
        (refine wc0 S (add0Ct now t F2 hT2 (by omega) (by omega)) ?_; clear S a; intro v9 a w hv S; rw [hadd] at hv; subst hv; have hzl := showZ_len (z + valS t))
        (revert S a; revert hZ Z; refine go 12 ?_; intro a S)
        refine wpc_sp S rfl ?_ ?_ <;> intro h
        · (refine wp_seq_k ?_; intro Z hZ)
          (have hno := sumF_no (hov (by assumption)))
          (revert S a; refine go 2 ?_; intro a S)
          (refine wso S rfl rfl ?_; clear S; intro w S)
          (revert S a; revert hZ Z; refine go 3 ?_; intro a S)
          refine wp_ret (fin_ret S (results2 Tryz.results53 (RV.cellO S rfl (by rfl)) (RV.tmp S rfl)) ?_)
          exact zzGc1
        (revert S a; revert hZ Z; refine go 2 ?_; intro a S)
        (replace hst := hst (by omega))
        (revert S a; refine go 3 ?_; intro a S)
        (refine wv S (sv_indexAddrArr S rfl rfl rfl (by first | omega | (simp only [List.length_append, List.length_cons, List.length_nil]; omega))) ?_; clear S a; intro a S)
        (revert S a; refine go 1 ?_; intro a S)
        (refine wv S (sv_sliceSl_lo (i := 1) S rfl rfl rfl (by omega)) ?_; clear S a; intro a S)
        (refine wv S (sv_indexAddrArr S rfl rfl rfl (by first | omega | (simp only [List.length_append, List.length_cons, List.length_nil]; omega))) ?_; clear S a; intro a S)
        (refine wpl_store1 S rfl rfl rfl rfl rfl rfl (by first | (simp; done) | (simp [Value.cells]; done) | exact Nat.le_of_ble_eq_true rfl) ?_; clear S; intro w S)
        (revert S a; revert hZ Z; refine go 6 ?_; intro a S)
        change ∃ m', _ ∧ _
        exact zzGc2
      (revert S a; revert hZ Z; refine go 5 ?_; intro Z hZ Z hZ a S)
      (refine wv S (sv_indexAddrArr S rfl rfl rfl (by first | omega | (simp only [List.length_append, List.length_cons, List.length_nil]; omega))) ?_; clear S a; intro a S)
      (revert S a; refine go 2 ?_; intro a S)
      (refine wv S (sv_lit (c := false) (sv_pure S rfl) (by (rw [beq_eq_false_iff_ne]; omega))) ?_; clear S a; intro a S)
      (revert S a; revert hZ Z; refine go 2 ?_; intro a S)
      refine wpc_false S rfl ?_
      (revert S a; revert hZ Z; refine go 7 ?_; intro Z hZ a S)
      (refine wp_seq_k ?_; intro Z hZ)
      (first | (have hBn : B ≠ [] := (by intro h9; subst h9; (simp only [List.length_nil] at *); omega); have hBc : z < 0 ∨ A = [] := (by first | (left; omega) | (right; exact List.eq_nil_of_length_eq_zero (by omega))); obtain ⟨t, B, rfl⟩ := List.exists_cons_of_ne_nil hBn; have hov := hI.overB hBc; have hst := hI.stepB; have htc := (hI.b t (List.mem_cons_self ..)).1; have hadd := hI.add htc; obtain ⟨bt, ot, rfl, hnt, hcl, hct, hLt⟩ := lim_tail hLB) | (have hAn : A ≠ [] := (by intro h9; subst h9; (simp only [List.length_nil] at *); omega); have hAc : 0 ≤ z ∨ B = [] := (by first | (left; omega) | (right; exact List.eq_nil_of_length_eq_zero (by omega))); obtain ⟨t, A, rfl⟩ := List.exists_cons_of_ne_nil hAn; have hov := hI.overA hAc; have hst := hI.stepA; have htc := (hI.a t (List.mem_cons_self ..)).1; have hadd := hI.add htc; obtain ⟨bt, ot, rfl, hnt, hcl, hct, hLt⟩ := lim_tail hLA)); have hlt := check_len htc; replace hct : Cel F2 bt (ot + 0 * 1) (.string (bs t)) := hct
      (revert S a; refine go 3 ?_; intro a S)
      (refine wv S (sv_indexAddrArr S rfl rfl rfl (by first | omega | (simp only [List.length_append, List.length_cons, List.length_nil]; omega))) ?_; clear S a; intro a S)
      (revert S a; refine go 2 ?_; intro a S)
      (refine wv S (sv_loadF S rfl rfl hct) ?_; clear S a; intro a S)
      (refine wc0 S (add0Ct now t F2 hT2 (by omega) (by omega)) ?_; clear S a; intro v9 a w hv S; rw [hadd] at hv; subst hv; have hzl := showZ_len (z + valS t))
      (revert S a; revert hZ Z; refine go 12 ?_; intro a S)
      refine wpc_sp S rfl ?_ ?_ <;> intro h
      · (refine wp_seq_k ?_; intro Z hZ)
        (have hno := sumF_no (hov (by assumption)))
        (revert S a; refine go 2 ?_; intro a S)
        (refine wso S rfl rfl ?_; clear S; intro w S)
        (revert S a; revert hZ Z; refine go 3 ?_; intro a S)
        refine wp_ret (fin_ret S (results2 Tryz.results53 (RV.cellO S rfl (by rfl)) (RV.tmp S rfl)) ?_)
        exact zzGc1
      (revert S a; revert hZ Z; refine go 2 ?_; intro a S)
      (replace hst := hst (by omega))
      (revert S a; refine go 3 ?_; intro a S)
      (refine wv S (sv_indexAddrArr S rfl rfl rfl (by first | omega | (simp only [List.length_append, List.length_cons, List.length_nil]; omega))) ?_; clear S a; intro a S)
      (revert S a; refine go 1 ?_; intro a S)
      (refine wv S (sv_sliceSl_lo (i := 1) S rfl rfl rfl (by omega)) ?_; clear S a; intro a S)
      (refine wv S (sv_indexAddrArr S rfl rfl rfl (by first | omega | (simp only [List.length_append, List.length_cons, List.length_nil]; omega))) ?_; clear S a; intro a S)
      (refine wpl_store1 S rfl rfl rfl rfl rfl rfl (by first | (simp; done) | (simp [Value.cells]; done) | exact Nat.le_of_ble_eq_true rfl) ?_; clear S; intro w S)
      (revert S a; revert hZ Z; refine go 6 ?_; intro a S)
      change ∃ m', _ ∧ _
      exact zzGc2
    (clear S a; intro h a S)
    (revert S a; revert hZ Z; refine go 6 ?_; intro a S)
    refine wpc_true S rfl ?_
    (revert S a; revert hZ Z; refine go 7 ?_; intro Z hZ Z hZ a S)
    (refine wv S (sv_indexAddrArr S rfl rfl rfl (by first | omega | (simp only [List.length_append, List.length_cons, List.length_nil]; omega))) ?_; clear S a; intro a S)
    (revert S a; revert hZ Z; refine go 5 ?_; intro a S)
    refine wpc_sp S rfl ?_ ?_ <;> intro h
    · (revert S a; refine go 3 ?_; intro a S)
      (rw [show ((1 : Int) - 1) = 0 from rfl] at S)
      (revert S a; revert hZ Z; refine go 8 ?_; intro Z hZ a S)
      (refine wp_seq_k ?_; intro Z hZ)
      (first | (have hBn : B ≠ [] := (by intro h9; subst h9; (simp only [List.length_nil] at *); omega); have hBc : z < 0 ∨ A = [] := (by first | (left; omega) | (right; exact List.eq_nil_of_length_eq_zero (by omega))); obtain ⟨t, B, rfl⟩ := List.exists_cons_of_ne_nil hBn; have hov := hI.overB hBc; have hst := hI.stepB; have htc := (hI.b t (List.mem_cons_self ..)).1; have hadd := hI.add htc; obtain ⟨bt, ot, rfl, hnt, hcl, hct, hLt⟩ := lim_tail hLB) | (have hAn : A ≠ [] := (by intro h9; subst h9; (simp only [List.length_nil] at *); omega); have hAc : 0 ≤ z ∨ B = [] := (by first | (left; omega) | (right; exact List.eq_nil_of_length_eq_zero (by omega))); obtain ⟨t, A, rfl⟩ := List.exists_cons_of_ne_nil hAn; have hov := hI.overA hAc; have hst := hI.stepA; have htc := (hI.a t (List.mem_cons_self ..)).1; have hadd := hI.add htc; obtain ⟨bt, ot, rfl, hnt, hcl, hct, hLt⟩ := lim_tail hLA)); have hlt := check_len htc; replace hct : Cel F2 bt (ot + 0 * 1) (.string (bs t)) := hct
      (revert S a; refine go 3 ?_; intro a S)
      (refine wv S (sv_indexAddrArr S rfl rfl rfl (by first | omega | (simp only [List.length_append, List.length_cons, List.length_nil]; omega))) ?_; clear S a; intro a S)
      (revert S a; refine go 2 ?_; intro a S)
      (refine wv S (sv_loadF S rfl rfl hct) ?_; clear S a; intro a S)
      (refine wc0 S (add0Ct now t F2 hT2 (by omega) (by omega)) ?_; clear S a; intro v9 a w hv S; rw [hadd] at hv; subst hv; have hzl := showZ_len (z + valS t))
      (revert S a; revert hZ Z; refine go 12 ?_; intro a S)
      refine wpc_sp S rfl ?_ ?_ <;> intro h
      · (refine wp_seq_k ?_; intro Z hZ)
        (have hno := sumF_no (hov (by assumption)))
        (revert S a; refine go 2 ?_; intro a S)
        (refine wso S rfl rfl ?_; clear S; intro w S)
        (revert S a; revert hZ Z; refine go 3 ?_; intro a S)
        refine wp_ret (fin_ret S (results2 Tryz.results53 (RV.cellO S rfl (by rfl)) (RV.tmp S rfl)) ?_)
        exact zzGc1
      (revert S a; revert hZ Z; refine go 2 ?_; intro a S)
      (replace hst := hst (by omega))
      (revert S a; refine go 3 ?_; intro a S)
      (refine wv S (sv_indexAddrArr S rfl rfl rfl (by first | omega | (simp only [List.length_append, List.length_cons, List.length_nil]; omega))) ?_; clear S a; intro a S)
      (revert S a; refine go 1 ?_; intro a S)
      (refine wv S (sv_sliceSl_lo (i := 1) S rfl rfl rfl (by omega)) ?_; clear S a; intro a S)
      (refine wv S (sv_indexAddrArr S rfl rfl rfl (by first | omega | (simp only [List.length_append, List.length_cons, List.length_nil]; omega))) ?_; clear S a; intro a S)
      (refine wpl_store1 S rfl rfl rfl rfl rfl rfl (by first | (simp; done) | (simp [Value.cells]; done) | exact Nat.le_of_ble_eq_true rfl) ?_; clear S; intro w S)
      (revert S a; revert hZ Z; refine go 6 ?_; intro a S)
      change ∃ m', _ ∧ _
      exact zzGc2
    (revert S a; revert hZ Z; refine go 7 ?_; intro Z hZ a S)
    (refine wp_seq_k ?_; intro Z hZ)
    (first | (have hBn : B ≠ [] := (by intro h9; subst h9; (simp only [List.length_nil] at *); omega); have hBc : z < 0 ∨ A = [] := (by first | (left; omega) | (right; exact List.eq_nil_of_length_eq_zero (by omega))); obtain ⟨t, B, rfl⟩ := List.exists_cons_of_ne_nil hBn; have hov := hI.overB hBc; have hst := hI.stepB; have htc := (hI.b t (List.mem_cons_self ..)).1; have hadd := hI.add htc; obtain ⟨bt, ot, rfl, hnt, hcl, hct, hLt⟩ := lim_tail hLB) | (have hAn : A ≠ [] := (by intro h9; subst h9; (simp only [List.length_nil] at *); omega); have hAc : 0 ≤ z ∨ B = [] := (by first | (left; omega) | (right; exact List.eq_nil_of_length_eq_zero (by omega))); obtain ⟨t, A, rfl⟩ := List.exists_cons_of_ne_nil hAn; have hov := hI.overA hAc; have hst := hI.stepA; have htc := (hI.a t (List.mem_cons_self ..)).1; have hadd := hI.add htc; obtain ⟨bt, ot, rfl, hnt, hcl, hct, hLt⟩ := lim_tail hLA)); have hlt := check_len htc; replace hct : Cel F2 bt (ot + 0 * 1) (.string (bs t)) := hct
    (revert S a; refine go 3 ?_; intro a S)
    (refine wv S (sv_indexAddrArr S rfl rfl rfl (by first | omega | (simp only [List.length_append, List.length_cons, List.length_nil]; omega))) ?_; clear S a; intro a S)
    (revert S a; refine go 2 ?_; intro a S)
    (refine wv S (sv_loadF S rfl rfl hct) ?_; clear S a; intro a S)
    (refine wc0 S (add0Ct now t F2 hT2 (by omega) (by omega)) ?_; clear S a; intro v9 a w hv S; rw [hadd] at hv; subst hv; have hzl := showZ_len (z + valS t))
    (revert S a; revert hZ Z; refine go 12 ?_; intro a S)
    refine wpc_sp S rfl ?_ ?_ <;> intro h
    · (refine wp_seq_k ?_; intro Z hZ)
      (have hno := sumF_no (hov (by assumption)))
      (revert S a; refine go 2 ?_; intro a S)
      (refine wso S rfl rfl ?_; clear S; intro w S)
      (revert S a; revert hZ Z; refine go 3 ?_; intro a S)
      refine wp_ret (fin_ret S (results2 Tryz.results53 (RV.cellO S rfl (by rfl)) (RV.tmp S rfl)) ?_)
      exact zzGc1
    refine wp_skip ?_
    (refine hZ _ _ ?_; clear hZ Z)
    (replace hst := hst (by omega))
    (revert S a; refine go 3 ?_; intro a S)
    (refine wv S (sv_indexAddrArr S rfl rfl rfl (by first | omega | (simp only [List.length_append, List.length_cons, List.length_nil]; omega))) ?_; clear S a; intro a S)
    (revert S a; refine go 1 ?_; intro a S)
    (refine wv S (sv_sliceSl_lo (i := 1) S rfl rfl rfl (by omega)) ?_; clear S a; intro a S)
    (refine wv S (sv_indexAddrArr S rfl rfl rfl (by first | omega | (simp only [List.length_append, List.length_cons, List.length_nil]; omega))) ?_; clear S a; intro a S)
    (refine wpl_store1 S rfl rfl rfl rfl rfl rfl (by first | (simp; done) | (simp [Value.cells]; done) | exact Nat.le_of_ble_eq_true rfl) ?_; clear S; intro w S)
    (revert S a; revert hZ Z; refine go 6 ?_; intro a S)
    change ∃ m', _ ∧ _
    exact zzGc2
  (refine wp_exit ?_; conv => whnf)
  clear hZ Z
  (revert S a; revert hZ Z; refine go 2 ?_; intro Z hZ a S)
  (refine wp_seq_k ?_; intro Z hZ)
  (have hA0 : A = [] := List.eq_nil_of_length_eq_zero (by omega); have hB0 : B = [] := List.eq_nil_of_length_eq_zero (by omega); subst hA0; subst hB0; obtain ⟨hf1, hf2, hf3, hf4⟩ := hI.fin)
  (revert S a; refine go 4 ?_; intro a S)
  (refine wv S (sv_loadF S rfl rfl (hc0 0 _ rfl)) ?_; clear S a; intro a S)
  (revert S a; revert hZ Z; refine go 3 ?_; intro a S)
  refine wpc_sp S rfl ?_ ?_ <;> intro h
  · (revert S a; refine go 3 ?_; intro Z hZ a S)
    (refine wso S rfl rfl ?_; clear S; intro w S)
    (revert S a; revert hZ Z; refine go 3 ?_; intro a S)
    refine wp_ret (fin_ret S (results2 Tryz.results53 (RV.cellO S rfl (by rfl)) (RV.tmp S rfl)) ?_)
    exact zzGc1
  (revert S a; revert hZ Z; refine go 4 ?_; intro Z hZ a S)
  (have hia : (intA now = ((l.map valN).sum, 0) ∧ fitsI (l.map valN).sum = true) ∨ (intA now = (0, 80) ∧ ¬ fitsI (l.map valN).sum = true) := (by unfold intA; rw [if_pos hf3, hf4]; by_cases h9 : fitsI (l.map valN).sum = true; exact .inl ⟨if_pos h9, h9⟩; exact .inr ⟨if_neg h9, h9⟩); have hbi := bintCt now F2 hE2 (by omega); generalize intA now = q at hbi hia; obtain ⟨q1, q2⟩ := q; refine wc0 S hbi ?_; clear S a; intro v9 a w hv S; subst hv)
  (revert S a; revert hZ Z; refine go 13 ?_; intro Z hZ a S)
  refine wpc_sp S rfl ?_ ?_ <;> intro h
  · (revert S a; refine go 2 ?_; intro Z hZ a S)
    (refine wso S rfl rfl ?_; clear S; intro w S)
    (revert S a; revert hZ Z; refine go 3 ?_; intro a S)
    refine wp_ret (fin_ret S (results2 Tryz.results53 (RV.cellO S rfl (by rfl)) (RV.tmp S rfl)) ?_)
    exact zzGc1
  (revert S a; revert hZ Z; refine go 5 ?_; intro Z hZ a S)
  (refine wso S rfl rfl ?_; clear S; intro w S)
  (revert S a; revert hZ Z; refine go 3 ?_; intro a S)
  refine wp_ret (fin_ret S (results2 Tryz.results53 (RV.cellO S rfl (by rfl)) (RV.tmp S rfl)) ?_)
  exact zzGc1
end Go.Proofs.YtbhipiepfclneaaGreatDoor
