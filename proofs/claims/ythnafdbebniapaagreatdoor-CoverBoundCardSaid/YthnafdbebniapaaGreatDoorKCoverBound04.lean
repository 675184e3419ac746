/- Walks. -/
import Derived.Test.YthnafdbebniapaaGreatDoorKCoverBound03
import Derived.Test.YthnafdbebniapaaGreatDoorQ36
import Derived.Test.YthnafdbebniapaaGreatDoorKCoverBound02
import Derived.Test.YthnafdbebniapaaGreatDoorQ35
import Derived.Test.YthnafdbebniapaaGreatDoorQ34
import Derived.Test.YthnafdbebniapaaGreatDoorQ13
import Derived.Test.YthnafdbebniapaaGreatDoorQ12
import Derived.Test.YthnafdbebniapaaGreatDoorQ11
import Derived.Test.YthnafdbebniapaaGreatDoorQ10
import Derived.Test.YthnafdbebniapaaGreatDoorQ09
import Derived.Test.YthnafdbebniapaaGreatDoorQ08
import Derived.Test.YthnafdbebniapaaGreatDoorQ06
import Derived.Test.YthnafdbebniapaaGreatDoorQ05
import Derived.Test.YthnafdbebniapaaGreatDoorQ04
import Derived.Test.YthnafdbebniapaaGreatDoorQ03
import Derived.Test.YthnafdbebniapaaGreatDoorQ02
import Derived.Test.YthnafdbebniapaaGreatDoorKCoverBound01
import Derived.Test.YthnafdbebniapaaGreatDoorKCoverBoundTy
import Derived.Test.YthnafdbebniapaaGreatDoorQ20
import Derived.Test.YthnafdbebniapaaGreatDoorQ17
import Derived.Test.YthnafdbebniapaaGreatDoorQ31
import Derived.Test.YthnafdbebniapaaGreatDoorQ30
import Derived.Test.YthnafdbebniapaaGreatDoorQ29
import Derived.Test.YthnafdbebniapaaGreatDoorQ28
import Derived.Test.YthnafdbebniapaaGreatDoorQ27
import Derived.Test.YthnafdbebniapaaGreatDoorQ19
import Derived.Test.YthnafdbebniapaaGreatDoorQ18
import Derived.Test.YthnafdbebniapaaGreatDoorQShelf
import Derived.Test.YthnafdbebniapaaGreatDoorQ22
import Derived.Test.YthnafdbebniapaaGreatDoorQ16
import Derived.Test.YthnafdbebniapaaGreatDoorQ15
import Derived.Test.YthnafdbebniapaaGreatDoorQ14
import Derived.Test.YthnafdbebniapaaGreatDoorQ26
import Derived.Test.YthnafdbebniapaaGreatDoorQ21
import Derived.Test.YthnafdbebniapaaGreatDoorQ25
import Derived.Test.YthnafdbebniapaaGreatDoorQ24
import Derived.Test.YthnafdbebniapaaGreatDoorQ23
import Derived.Test.YthnafdbebniapaaGreatDoorQ40
import Derived.Test.YthnafdbebniapaaGreatDoorQ39
import Derived.Test.YthnafdbebniapaaGreatDoorQ38
import Derived.Test.YthnafdbebniapaaGreatDoorQ37
import Derived.Test.YthnafdbebniapaaGreatDoorQ33
import Derived.Test.YthnafdbebniapaaGreatDoorQ32
set_option maxHeartbeats 32000000
set_option maxRecDepth 20000
namespace Go.Proofs.YthnafdbebniapaaGreatDoor
open Go Go.Wk Go.Un Go.De Go.Cv
set_option linter.unusedSimpArgs false
set_option linter.unusedVariables false
attribute [local irreducible] Go.wpList Go.Code.wp Go.wpStill Go.Wk.wpPre Go.bodyPost Go.Calls Go.Wk.Ct Go.Wk.OwnS
attribute [local irreducible] Go.Wk.wpG Go.Wk.wpM
theorem wt_size : ∀ L : Vf, L.size ≤ wtL L
  | .nil => Nat.le_refl _
  | .cons h L r => by
    have h1 := wt_size L
    have h2 := wt_size r
    show L.size + r.size + 1 ≤ 1 + h.s.length / 50 + wtL L + wtL r
    omega
theorem mat_some {h : EH} {L : Ef} {v : Vv} {l a : List Bd} (e : MatF h L v l = some a) : patZ h L = true ∧ mayV v = true ∧ mtE h L v l = some a := by
  unfold MatF at e
  split at e
  · rename_i h1; exact ⟨h1.1, h1.2, e⟩
  · cases e
theorem mt_min {h : EH} {L : Ef} {vh : VH} {VL : Vf} {l a : List Bd} (e : mtE h L (vh, VL) l = some a) : a.length ≤ l.length + min L.size VL.size + 1 := by
  have h1 := mtE_len true e
  have h2 := mtE_len false e
  simp only [szB] at h1 h2
  omega
theorem lim_cap {α : Type} {F : Heap} {sz m c : Nat} {R : Heap → α → List Value → Prop} {ao : Option Addr} {l : List α} (h : LiM F sz R (.slice ao m c) l) : l.length ≤ c := by
  obtain ⟨_, _, e, h1, -⟩ := h
  cases e
  exact h1.1
theorem ma_two {k m : List Bd} {b : Bool} (h : some k = if b = true then some m else none) : b = true ∧ m = k := by
  cases b with
  | true => rw [if_pos rfl] at h; exact ⟨rfl, (Option.some.inj h).symm⟩
  | false => cases h
theorem lim_take' {α : Type} {F : Heap} {sz : Nat} {R : Heap → α → List Value → Prop} {ao : Option Addr} {c : Nat} {l m : List α} (h : LiM F sz R (.slice ao (l ++ m).length c) (l ++ m)) : LiM F sz R (.slice ao l.length c) l := by
  have h1 := lim_take (i := l.length) h (by rw [List.length_append]; omega)
  rwa [List.take_left' rfl] at h1
theorem ma_S {n : Sz} {d : Nat} {u : Value} {L : List (Nat × Value)} {w0 : World} {F0 : Heap} {K0 : List Nat} {F : Heap} {G G' : List Grp} {a : Act} {w : World} {r : Option (List Bd)} (S : St n ((d, u) :: L) w0 F0 K0 F (G' ++ G) a w) (h : MaP r F G' u) (hb : ∀ k, r = some k → k.length ≤ 140737488355328) :
    ∃ F' ao c b k, (∀ b o, F b = some o → F' b = some o) ∧ u = .tuple ⟨[.slice ao (List.length k) c, .bool b]⟩ ∧ r = (if b = true then some k else none) ∧ (b = false → k = []) ∧ LiM F' 5 BvR (.slice ao (List.length k) c) k ∧ St n ((d, u) :: L) w0 F0 K0 F' G a w := by
  rcases h with ⟨h1, h2⟩ | ⟨v, k, g, xs, h1, h2, rfl, h3, h4⟩
  · exact ⟨F, none, 0, false, [], fun b o h => h, h2, by rw [h1]; rfl, fun _ => rfl, LiM.nil _ _ _, S.fr, S.tr.sub (by rw [List.flatten_append]; exact List.sublist_append_right _ _)⟩
  · have hle := add_le (G1 := []) (G2 := G) S
    have hL := LiC.lim h3 h4 rfl hle (hb k h1)
    obtain ⟨ao, c, rfl, -, -⟩ := id hL
    exact ⟨_, ao, c, true, k, hle, h2, by rw [h1]; rfl, fun h => (by cases h), hL, St.freeze (G1 := []) (G2 := G) S⟩
theorem boundCt (F : Heap) (hM : MaxF F) (hT : TabF F) (hE : ErrT F) (eh : EH) (xl : Ef) (cs : List Value) (vh : VH) (VL : Vf) (cs2 : List Value) (l : List Bd) {v : Value} (hX : PxC F cs eh xl) (hb : BndH eh) (hbl : BndL xl) (hV : VaC F cs2 vh VL) (h56 : VL.len * 56 ≤ 140737488355328) (hth : ThV VL) (hl : LiM F 5 BvR v l) (hlt : ∀ x ∈ l, x.2.2.len * 56 ≤ 140737488355328 ∧ ThV x.2.2) :
    Ct Tryz.prog 5 [.agg ⟨cs⟩, .agg ⟨cs2⟩, v] F [] (fun _ _ u => u = .bool true) := by
  obtain ⟨aw, nw, cw, ao, cap, rfl, hT2, hT3⟩ := id hX
  obtain ⟨av, cv, rfl, hTV, hsv⟩ := vac_sl hV
  obtain ⟨a0, c0, rfl, hcap0, hpos0⟩ := id hl
  refine Ct.enter Tryz.func5 rfl Tryz.ntmps5 rfl fun w0 a S => ?_
  refine wp_sr fun Z hZ => ?_
  (refine wpl_box S rfl rfl rfl rfl rfl ?_; clear S a; intro b3 a w S)
  (refine wpl_box S rfl rfl rfl rfl rfl ?_; clear S a; intro b4 a w S)
  (revert S a; revert hZ Z; refine go10 3 ?_; intro a S)
  (refine wp_seq_k ?_; intro Z hZ)
  replace hZ : ∀ (a' : Act) (w' : World), (∃ (pe pw : Nat) (F1 : Heap), (∀ b o, F b = some o → F1 b = some o) ∧ Cnt pe (xl.size + 1) 300 ∧ (pw < 300 → pw = wtV vh VL) ∧ pw ≤ 300 + 4398046511104 ∧ St 97 [(2, .slice a0 l.length c0), (3, ptr b3), (4, ptr b4), (7, .int .i64 ((pe : Int) + (pw : Int) + (l.length : Int)))] w0 F [] F1 [[(b4, .cells ⟨[.int .u8 (vh.k : Int), .int .i64 vh.n, .string (bs vh.s), .slice av VL.len cv]⟩ 26 (0, 0))], [(b3, .cells ⟨[.int .u8 (eh.k : Int), .int .i64 eh.l, .int .i64 eh.c, .string (bs eh.nm), .int .u8 (eh.v.k : Int), .int .i64 eh.v.n, .string (bs eh.v.s), .slice aw nw cw, .slice ao xl.len cap]⟩ 29 (0, 0))]] a' w') → Z a' w' := (by
   (intro a w hM; refine hZ _ _ ?_; clear hZ Z; clear S; obtain ⟨pe, pw, F1, hF1, hpe, hpw, hpwb, S⟩ := hM)
   (refine wp_seq_k ?_; intro Z hZ)
   replace hZ : ∀ (a' : Act) (w' : World), (∃ (i : Nat) (n : Nat), i ≤ l.length ∧ pe + pw + l.length ≤ n ∧ n ≤ 200000000000000 ∧ (True) ∧ St 97 [(2, .slice a0 l.length c0), (3, ptr b3), (4, ptr b4), (7, .int .i64 (n : Int)), (8, .int .i64 (i : Int))] w0 F [] F1 [[(b4, .cells ⟨[.int .u8 (vh.k : Int), .int .i64 vh.n, .string (bs vh.s), .slice av VL.len cv]⟩ 26 (0, 0))], [(b3, .cells ⟨[.int .u8 (eh.k : Int), .int .i64 eh.l, .int .i64 eh.c, .string (bs eh.nm), .int .u8 (eh.v.k : Int), .int .i64 eh.v.n, .string (bs eh.v.s), .slice aw nw cw, .slice ao xl.len cap]⟩ 29 (0, 0))]] a' w') → Z a' w' := (by
    (intro a w hM; refine hZ _ _ ?_; clear hZ Z; clear S; obtain ⟨i, n, hil, hn1, hn2, hxt, S⟩ := hM)
    (revert S a; refine go02 5 ?_; intro Z hZ Z hZ a S)
    refine wpl_guard S rfl rfl rfl rfl rfl ?_ ?_
    · (clear S; intro h S; (try simp only [tq] at h))
      (refine wpl_call0 S rfl rfl rfl rfl rfl rfl (awakeCt F1 (hM.mono hF1) (hT.mono hF1) (hE.mono hF1)) rfl ?_; clear S a; intro v43 a w hv S; subst hv)
      refine wpl_take S rfl rfl rfl ?_
      (refine wpl_v S rfl rfl rfl (sv_lit (c := false) (sv_pure S rfl) (by rfl)) ?_; clear S a; intro a S)
      (revert S a; revert hZ Z; refine go10 3 ?_; intro a S)
      refine wpc_false S rfl ?_
      refine wp_skip ?_
      (refine hZ _ _ ?_; clear hZ Z)
      (refine wp_seq_k ?_; intro Z hZ)
      (have hmin : l.length + min xl.size VL.size ≤ 1000 := (by have hw := wt_size VL; unfold Cnt at hpe; unfold wtV at hpw; omega); have hlen : l.length ≤ 1000 := (by omega); clear hn1 hn2 hpe hpw hpwb hil)
      (refine wpc_mixM [0, 1, 2, 5, 6, 7] [0, 1] [] (.one 0 (.one 1 (.one 2 (.one 3 (.one 4 (.one 5 (.one 6 (.one 7 (.one 8 (.one 9 .nil)))))))))) [b3, b4] S mixed (by kernel_rfl) ?_; clear S; intro w S)
      (refine wpm_o b3 S rfl rfl rfl (want_none _ rfl) rfl rfl ?_; clear S a; intro a S)
      (refine wpm_o b4 S rfl rfl rfl (want_none _ rfl) rfl rfl ?_; clear S a; intro a S)
      (refine wpm_p S rfl rfl rfl (want_none _ rfl) rfl rfl ?_; clear S a; intro a S)
      refine wpm_eff rfl rfl (kwa S) ?_
      (refine wpl_call (Gs := []) (Gr := [[(b4, _)], [(b3, _)]]) S rfl rfl rfl rfl rfl rfl (givenCt F1 l _ (by omega) hlt (hl.mono hF1)) rfl (by exact List.Perm.refl _) ?_; clear S a; intro u9 F51 G9 a w hv hF51 S; obtain ⟨g9, x9, rfl, hown9, hx9⟩ := hv; (simp only [List.singleton_append] at S); have hle51 := add_le (G1 := []) S; replace S := St.freeze (G1 := []) S; (simp only [List.nil_append] at S hle51); have hl5 : LiM _ 5 BvR _ l := LiC.lim hown9 hx9 rfl hle51 (by omega); clear hown9 hx9; generalize hFx : Heap.add F51 _ = F6 at *; clear hFx; have hF6 : ∀ b o, F b = some o → F6 b = some o := (fun b o h => hle51 _ _ (hF51 _ _ (hF1 _ _ h))); obtain ⟨a5, c5, rfl, -, -⟩ := id hl5)
      refine wpList_nil ?_
      refine wpm_eff rfl rfl (kwa S) ?_
      (refine wpl_call (Gs := []) (Gr := [[(b4, _)], [(b3, _)]]) S rfl rfl rfl rfl rfl rfl (MatchCt F6 (hM.mono hF6) eh xl _ vh VL _ _ l (by omega) (hX.mono hF6) hb hbl (hV.mono hF6) h56 hth hl5) rfl (by exact List.Perm.refl _) ?_; clear S a; intro u9 F52 G9 a w hv hF52 S; have S' := ma_S S hv (fun k hk => by have := mt_min (mat_some hk).2.2; omega); clear S hv; obtain ⟨F7, aq, cq, bq, kq, hF7, rfl, hrq, hkq, hlq, S⟩ := S'; have hF7a : ∀ b o, F b = some o → F7 b = some o := (fun b o h => hF7 _ _ (hF52 _ _ (hF6 _ _ h))))
      refine wpList_nil ?_
      iterate 3 (refine wpm_p S rfl rfl rfl (want_none _ rfl) rfl rfl ?_; clear S a; intro a S)
      refine wpm_eff rfl rfl (kwa S) ?_
      (revert S a; refine go00 2 ?_; intro a S)
      refine wpm_eff rfl rfl (kwa S) ?_
      (revert S a; refine go00 2 ?_; intro a S)
      refine wpm_nil (kwa S) ?_
      (revert S a; revert hZ Z; refine go11 7 ?_; intro Z hZ a S)
      refine wpc_sp S rfl ?_ ?_ <;> intro h
      · (revert S a; refine go00 7 ?_; intro a S)
        refine wp_ret (fr1 S Tryz.results5 ?_)
        (first | rfl | (congr 1; rw [hkq (by assumption)]; rfl) | trace_state)
      refine wp_skip ?_
      (refine hZ _ _ ?_; clear hZ Z)
      (refine wp_seq_k ?_; intro Z hZ)
      (have hbt : bq = true := (by assumption); subst hbt; rw [if_pos rfl] at hrq; obtain ⟨hpat, hmay, hmt⟩ := mat_some hrq; obtain ⟨⟨ex, rfl⟩, hm2, hpu⟩ := mtE_full hmay hmt; have hkk := mt_min hmt; have hcq := lim_cap hlq; have hr2 : MatF eh xl (vh, VL) (l ++ ex) = some (l ++ ex) := (by unfold MatF; rw [if_pos ⟨hpat, hmay⟩, hm2]))
      (revert S a; refine go00 4 ?_; intro a S)
      (refine wpl_call (Gs := []) (Gr := [[(b4, _)], [(b3, _)]]) S rfl rfl rfl rfl rfl rfl (MatchCt F7 (hM.mono hF7a) eh xl _ vh VL _ _ (l ++ ex) (by omega) (hX.mono hF7a) hb hbl (hV.mono hF7a) h56 hth hlq) rfl (by exact List.Perm.refl _) ?_; clear S a; intro u9 F64 G9 a w hv hF64 S; rw [hr2] at hv; have S' := ma_S S hv (fun k hk => by cases hk; omega); clear S hv; obtain ⟨F8, ar, cr, br, kr, hF8, rfl, hrr, hkr, hlr, S⟩ := S'; have hF8q : ∀ b o, F7 b = some o → F8 b = some o := (fun b o h => hF8 _ _ (hF64 _ _ h)); obtain ⟨rfl, rfl⟩ := ma_two hrr)
      (revert S a; refine go00 3 ?_; intro a S)
      skip
      (revert S a; revert hZ Z; refine go11 10 ?_; intro Z hZ a S)
      (refine wpl_call (Gs := []) (Gr := [[(b4, _)], [(b3, _)]]) S rfl rfl rfl rfl rfl rfl (backCt _ (l ++ ex) _ (by omega) (hlq.mono hF8q)) rfl (by exact List.Perm.refl _) ?_; clear S a; intro u9 F70 G9 a w hv hF70 S; obtain ⟨g9, x9, rfl, hown9, hx9⟩ := hv; (simp only [List.singleton_append] at S); have hle70 := add_le (G1 := []) S; replace S := St.freeze (G1 := []) S; (simp only [List.nil_append] at S hle70); have hB70 : LiM _ 5 BvR _ (l ++ ex) := LiC.lim hown9 hx9 rfl hle70 (by omega); clear hown9 hx9; generalize hFx : Heap.add F70 _ = F70b at *; clear hFx)
      (revert S a; refine go00 3 ?_; intro a S)
      (refine wpl_call (Gs := []) (Gr := [[(b4, _)], [(b3, _)]]) S rfl rfl rfl rfl rfl rfl (backCt _ (l ++ ex) _ (by omega) (hlr.mono (fun b o h => hle70 _ _ (hF70 _ _ h)))) rfl (by exact List.Perm.refl _) ?_; clear S a; intro u9 F72 G9 a w hv hF72 S; obtain ⟨g9, x9, rfl, hown9, hx9⟩ := hv; (simp only [List.singleton_append] at S); have hle72 := add_le (G1 := []) S; replace S := St.freeze (G1 := []) S; (simp only [List.nil_append] at S hle72); have hB72 : LiM _ 5 BvR _ (l ++ ex) := LiC.lim hown9 hx9 rfl hle72 (by omega); clear hown9 hx9; generalize hFx : Heap.add F72 _ = F72b at *; clear hFx; have hG : ∀ b o, F7 b = some o → F72b b = some o := (fun b o h => hle72 _ _ (hF72 _ _ (hle70 _ _ (hF70 _ _ (hF8q _ _ h))))))
      refine wpl_take S rfl rfl rfl ?_
      (refine wpl_call0 S rfl rfl rfl rfl rfl rfl (sameBsCt _ (l ++ ex) _ _ (hB70.mono (fun b o h => hle72 _ _ (hF72 _ _ h))) hB72) rfl ?_; clear S a; intro v73 a w hv S; subst hv)
      skip
      (revert S a; refine go00 11 ?_; intro a S)
      (refine wpl_v S rfl rfl rfl (sv_lit (c := true) (sv_pure S rfl) (by exact decide_eq_true (by rw [List.length_append]; omega))) ?_; clear S a; intro a S)
      (revert S a; refine go00 9 ?_; intro a S)
      (refine wpl_v S rfl rfl rfl (sv_sliceSl_h S rfl rfl rfl (by rw [List.length_append] at hcq; omega)) ?_; clear S a; intro a S)
      refine wpl_take S rfl rfl rfl ?_
      (refine wpl_call (Gs := []) (Gr := [[(b4, _)], [(b3, _)]]) S rfl rfl rfl rfl rfl rfl (backCt _ l _ (by omega) (lim_take' (hlq.mono hG))) rfl (by exact List.Perm.refl _) ?_; clear S a; intro u9 F87 G9 a w hv hF87 S; obtain ⟨g9, x9, rfl, hown9, hx9⟩ := hv; (simp only [List.singleton_append] at S); have hle87 := add_le (G1 := []) S; replace S := St.freeze (G1 := []) S; (simp only [List.nil_append] at S hle87); have hB87 : LiM _ 5 BvR _ l := LiC.lim hown9 hx9 rfl hle87 (by omega); clear hown9 hx9; generalize hFx : Heap.add F87 _ = F9 at *; clear hFx; have hH : ∀ b o, F7 b = some o → F9 b = some o := (fun b o h => hle87 _ _ (hF87 _ _ (hG _ _ h))))
      (revert S a; refine go00 3 ?_; intro a S)
      (refine wpl_call0 S rfl rfl rfl rfl rfl rfl (sameBsCt _ l _ _ hB87 (hl.mono (fun b o h => hH _ _ (hF7a _ _ h)))) rfl ?_; clear S a; intro v89 a w hv S; subst hv)
      skip
      (revert S a; refine go00 9 ?_; intro a S)
      (refine wpl_call0 S rfl rfl rfl rfl rfl rfl (lputCt (xl.size + 1) _ eh xl _ vh VL _ _ (l ++ ex) (Nat.lt_succ_self _) (hX.mono (fun b o h => hH _ _ (hF7a _ _ h))) hb hbl (hV.mono (fun b o h => hH _ _ (hF7a _ _ h))) (hlq.mono hH) hpu) rfl ?_; clear S a; intro v95 a w hv S; subst hv)
      skip
      (revert S a; revert hZ Z; refine go10 4 ?_; intro a S)
      refine wp_ret (fr1 S Tryz.results5 ?_)
      (first | rfl | (congr 1; rw [hkq (by assumption)]; rfl) | trace_state)
    (intro h; clear S a; intro a S; (try simp only [tq] at h))
    (revert S a; revert hZ Z; refine go10 4 ?_; intro a S)
    refine wpc_true S rfl ?_
    refine wp_sr fun Z hZ => ?_
    (refine wpl_call0 S rfl rfl rfl rfl rfl rfl (awakeCt F1 (hM.mono hF1) (hT.mono hF1) (hE.mono hF1)) rfl ?_; clear S a; intro v46 a w hv S; subst hv)
    (revert S a; revert hZ Z; refine go10 3 ?_; intro a S)
    refine wp_ret (fr1 S Tryz.results5 ?_)
    (first | rfl | (congr 1; rw [hkq (by assumption)]; rfl) | trace_state))
   (revert S a; refine go00 5 ?_; intro a S)
   refine wpc_loop (fun m a w' => ∃ (i : Nat) (n : Nat), m = l.length - i ∧ i ≤ l.length ∧ pe + pw + l.length ≤ n ∧ n ≤ 200000000000000 ∧ St 97 [(2, .slice a0 l.length c0), (3, ptr b3), (4, ptr b4), (7, .int .i64 (n : Int)), (8, .int .i64 (i : Int))] w0 F [] F1 [[(b4, .cells ⟨[.int .u8 (vh.k : Int), .int .i64 vh.n, .string (bs vh.s), .slice av VL.len cv]⟩ 26 (0, 0))], [(b3, .cells ⟨[.int .u8 (eh.k : Int), .int .i64 eh.l, .int .i64 eh.c, .string (bs eh.nm), .int .u8 (eh.v.k : Int), .int .i64 eh.v.n, .string (bs eh.v.s), .slice aw nw cw, .slice ao xl.len cap]⟩ 29 (0, 0))]] a w') ?_ ?_
   · (rw [show ((pe : Int) + (pw : Int) + (l.length : Int)) = ((pe + pw + l.length : Nat) : Int) by omega] at S; unfold Cnt at hpe; refine ⟨l.length, 0, pe + pw + l.length, by omega, Nat.zero_le _, Nat.le_refl _, by omega, ?_⟩; refine S.keep ?_; exact zk)
   (clear S; rintro m a w ⟨i, n, rfl, hil, hn1, hn2, S⟩)
   (revert S a; refine go02 7 ?_; intro Z hZ Z hZ a S)
   refine wpl_guard S rfl rfl rfl rfl rfl ?_ ?_
   · (clear S; intro h S; (try simp only [tq] at h))
     (revert S a; revert hZ Z; refine go10 6 ?_; intro a S)
     refine wpc_sp S rfl ?_ ?_ <;> intro h
     · (revert S a; revert hZ Z; refine go11 4 ?_; intro Z hZ a S)
       (obtain ⟨b8, o8, hao, x, cs1, hx, hc1, a91, c91, rfl, hVx⟩ := LiM.pos hpos0 (k := i) (by omega); rw [hao] at S; replace hc1 := Cels.mono hF1 hc1; replace hVx := hVx.mono hF1; have hc2 := Cels.drop hc1 1)
       (revert S a; refine go00 6 ?_; intro a S)
       (refine wpl_v S rfl rfl rfl (sv_loadAF S rfl rfl hc2 (by rfl)) ?_; clear S a; intro a S)
       (refine wpl_call0 S rfl rfl rfl rfl rfl rfl (weightCt F1 x.2.2.size x.2.1 x.2.2 _ 300 (Nat.le_refl _) (by decide) (vac_tr hVx).2 (vac_tr hVx).1) rfl ?_; clear S a; intro v38 a w hv S; obtain ⟨p9, rfl, -, hp9b⟩ := hv)
       (revert S a; revert hZ Z; refine go10 9 ?_; intro a S)
       change ∃ m', _ ∧ _
       (rw [← hao] at S; refine ⟨l.length - (i + 1), by omega, i + 1, n + p9, rfl, by omega, by omega, by omega, ?_⟩; refine S.keep ?_; exact zk)
     (refine wp_exit ?_; conv => whnf)
     (clear hZ Z; (refine hZ _ _ ?_))
     (refine ⟨i, n, hil, hn1, hn2, ?_, ?_⟩; rotate_left 1; (refine S.keep ?_; exact zk); first | trivial | omega)
   (intro h; clear S a; intro a S; (try simp only [tq] at h))
   (revert S a; revert hZ Z; refine go10 4 ?_; intro a S)
   refine wpc_false S rfl ?_
   (refine wp_exit ?_; conv => whnf)
   (clear hZ Z; (refine hZ _ _ ?_))
   (refine ⟨i, n, hil, hn1, hn2, ?_, ?_⟩; rotate_left 1; (refine S.keep ?_; exact zk); first | trivial | omega))
  (refine wpc_mixM [0, 3, 5, 6, 7, 8] [0, 3] [] (.one 0 (.one 3 (.one 6 (.one 7 (.one 1 (.one 2 (.one 4 (.one 5 (.one 8 (.one 9 .nil)))))))))) [b3, b4] S mixed (by kernel_rfl) ?_; clear S; intro w S)
  (refine wpm_o b3 S rfl rfl rfl (want_none _ rfl) rfl rfl ?_; clear S a; intro a S)
  (refine wpm_o b4 S rfl rfl rfl (want_none _ rfl) rfl rfl ?_; clear S a; intro a S)
  (refine wpm_p S rfl rfl rfl (want_none _ rfl) rfl rfl ?_; clear S a; intro a S)
  (refine wpm_n S rfl rfl rfl (want_none _ rfl) rfl rfl ?_; clear S a; intro a S)
  refine wpm_eff rfl rfl (kwa S) ?_
  (refine wpl_buildSlice S rfl rfl rfl rfl rfl rfl (by rfl) (by simp [Value.cells, splice]) rfl (by rfl) (by rfl) ?_; clear S a; intro b14 a w hown14 S; have S' := frz1 S; clear S; obtain ⟨F14, hF14, hb14, S⟩ := S')
  refine wpList_nil ?_
  refine wpm_eff rfl rfl (kwa S) ?_
  (refine wpl_call0 S rfl rfl rfl rfl rfl rfl (exprsNCt F14 (xl.size + 1) (.cons eh xl .nil) _ 300 (by simp only [Rose.size]; omega) (by decide) (tr_px1 hb14 (hX.mono hF14) rfl)) rfl ?_; clear S a; intro v15 a w hv S; obtain ⟨pe, rfl, hpe⟩ := hv; have hpe1 := hpe.1)
  refine wpList_nil ?_
  refine wpm_eff rfl rfl (kwa S) ?_
  (refine wpl_call0 S rfl rfl rfl rfl rfl rfl (weightCt _ VL.size vh VL _ 300 (Nat.le_refl _) (by decide) hsv (by first | exact hTV | exact hTV.mono hF14)) rfl ?_; clear S a; intro v17 a w hv S; obtain ⟨pw, rfl, hpw, hpwb⟩ := hv)
  refine wpList_nil ?_
  iterate 2 (refine wpm_a S rfl rfl rfl (want_none _ rfl) rfl rfl ?_; clear S a; intro a S)
  refine wpm_eff rfl rfl (kwa S) ?_
  (revert S a; refine go00 2 ?_; intro a S)
  refine wpm_nil (kwa S) ?_
  (refine hZ _ _ ?_)
  (refine ⟨pe, pw, F14, hF14, by (simp only [Rose.size, Nat.zero_add, Nat.add_zero] at hpe; exact hpe), hpw, hpwb, ?_⟩; refine S.keep ?_; exact zk)
end Go.Proofs.YthnafdbebniapaaGreatDoor
namespace Go.Proofs.YthnafdbebniapaaGreatDoor
open Go Go.Wk Go.Un Go.De Go.Cv Go.ChangeShapes Go.WideShapes Go.ChangeAt Go.RowKit
set_option linter.unusedSimpArgs false
set_option linter.unusedVariables false
theorem opn_sliceB {P : Program} {H : Type} {enc : TypeId × Value → H} {w : World} {spare : Nat → Bool} {held : Bool} {m : Nat} {t : TypeId} {α : Type} {e : TypeId} {sz : Nat} {R : Heap → α → List Value → Prop} (ht : P.underlying t = some (.slice e)) (hc : P.cellsOf e = sz) (h0 : 0 < sz) (hb : Nat.ble 1 (P.bytesOf e) = true) (he : Opn enc P w spare held m e (fun cs => cs.length = sz ∧ ∃ x, R (heapOf w) x cs)) :
    Opn enc P w spare held m t (fun cs => ∃ v l, cs = [v] ∧ LiM (heapOf w) sz R v l ∧ l.length * P.bytesOf e ≤ 140737488355328) := fun fuel cs d p hd h hw => by
  obtain ⟨a, len, cap, l, e1, h1, h2, h3, h4, h5⟩ := open_listW (α := {cs : List Value // cs.length = sz}) Subtype.val (fun x => ∃ y, R (heapOf w) y x.1) ht hc h0 (fun x => x.2) h hw fun n cs d' p hh hs hw' => by
    obtain ⟨hl, x, hx⟩ := he n cs d' p (by omega) hh hw'
    exact ⟨⟨cs, hl⟩, rfl, x, hx⟩
  obtain ⟨ys, h6, h7⟩ := lic_flat h3
  have hr : reachBytes ≤ 140737488355328 := by decide
  have h8 : len ≤ len * P.bytesOf e := Nat.le_mul_of_pos_right _ (Nat.le_of_ble_eq_true hb)
  have h9 : ys.length = len := by rw [h6, h1]
  exact ⟨_, ys, e1, Go.De.lim_slc h4 h7 (by rw [h6, h1]) (by omega), by rw [h9]; omega⟩
def Tv (x : VH × Vf) : Prop := x.2.len * 56 ≤ 140737488355328 ∧ ThV x.2
theorem th_rose : ∀ {l : List (VH × Vf)}, (∀ x ∈ l, Tv x) → ThV (roseOf l)
  | [], _ => trivial
  | x :: r, h => ⟨(h x (List.mem_cons_self ..)).1, (h x (List.mem_cons_self ..)).2, th_rose fun y hy => h y (List.mem_cons_of_mem _ hy)⟩
theorem rose_len {α : Type} : ∀ l : List (α × Rose α), (roseOf l).len = l.length
  | [] => rfl
  | x :: r => by show (roseOf r).len + 1 = _; rw [rose_len r]; rfl
theorem ror_px {F : Heap} {x : EH × Ef} {cs : List Value} (h : RoR 9 EhR F x cs) : PxC F cs x.1 x.2 := by
  obtain ⟨c1, u, rfl, -, h1, h2⟩ := h
  exact pxc_of h1 h2
section
variable {H : Type} {enc : TypeId × Value → H} {w : World} {spare : Nat → Bool} {held : Bool}
theorem bVal : Tryz.prog.bytesOf 26 = 56 := by kernel_rfl
theorem o_valT : ∀ m, Opn enc Tryz.prog w spare held m 26 (fun cs => cs.length = 4 ∧ ∃ x, RoR 4 VhR (heapOf w) x cs ∧ Tv x)
  | 0 => fun _ _ _ _ h => absurd h (Nat.not_lt_zero _)
  | m + 1 => (opn_struct Tryz.underlying26 (by kernel_rfl) (.cons (o_u8 m) (.cons (o_i64 m) (.cons (o_str m) (.cons (opn_sliceB (R := fun F x cs => RoR 4 VhR F x cs ∧ Tv x) Tryz.underlying24 (by kernel_rfl) (by decide) (by kernel_rfl) (o_valT m)) .nil))))).imp fun cs ⟨a, b, e, ⟨k, h1, hk⟩, a2, b2, e2, ⟨n, h2, hn⟩, a3, b3, e3, ⟨s, h3, hs⟩, a4, b4, e4, ⟨v, l, h4, h5, h6⟩, e5⟩ => by
    obtain ⟨k, rfl⟩ := u8_nat hk
    rw [bVal] at h6
    subst e; subst h1; subst e2; subst h2; subst e3; subst h3; subst e4; subst h4; subst e5
    exact ⟨rfl, (⟨k, n, s⟩, roseOf l), ⟨_, v, rfl, rfl, ⟨rfl, hs⟩, trs_lim (lim_and h5).1⟩, by show (roseOf l).len * 56 ≤ _; rw [rose_len]; exact h6, th_rose (lim_and h5).2⟩
theorem o_bd (m : Nat) : Opn enc Tryz.prog w spare held m 34 (fun cs => cs.length = 5 ∧ ∃ x, BvR (heapOf w) x cs ∧ Tv x.2) :=
  ((opn_struct (m := m) Tryz.underlying34 (by kernel_rfl) (.cons (o_str m) (.cons (o_valT m) .nil))).lt (Nat.le_succ m)).imp fun cs ⟨a, b, e, ⟨s, h1, _⟩, a2, b2, e2, ⟨_, ⟨vh, vl⟩, h2, h3⟩, e3⟩ => by
    have hV := vac_of h2
    obtain ⟨ao, cap, h4, h5, h6⟩ := vac_sl hV
    subst e; subst h1; subst e2; subst e3; subst h4
    exact ⟨rfl, (s, vh, vl), ⟨ao, cap, rfl, hV⟩, h3⟩
theorem o_bds (m : Nat) : Opn enc Tryz.prog w spare held m 30 (fun cs => ∃ v l, cs = [v] ∧ LiM (heapOf w) 5 BvR v l ∧ ∀ x ∈ l, Tv x.2) :=
  (opn_slice (R := fun F x cs => BvR F x cs ∧ Tv x.2) Tryz.underlying30 (by kernel_rfl) (by decide) (by kernel_rfl) (o_bd m)).imp fun cs ⟨v, l, h, h2⟩ => ⟨v, l, h, (lim_and h2).1, (lim_and h2).2⟩
end
theorem boundFr (F : Heap) (hM : MaxF F) (hT : TabF F) (hE : ErrT F) (eh : EH) (xl : Ef) (cs : List Value) (vh : VH) (VL : Vf) (cs2 : List Value) (l : List Bd) {v : Value} (hX : RoR 9 EhR F (eh, xl) cs) (hq : Qe (eh, xl)) (hV : VaC F cs2 vh VL) (ht : Tv (vh, VL)) (hl : LiM F 5 BvR v l) (hlt : ∀ x ∈ l, Tv x.2) :
    Ct Tryz.prog 5 [.agg ⟨cs⟩, .agg ⟨cs2⟩, v] F [] (fun _ _ u => u = .bool true) :=
  boundCt F hM hT hE eh xl cs vh VL cs2 l (ror_px hX) hq.1 hq.2.1 hV ht.1 ht.2 hl hlt
end Go.Proofs.YthnafdbebniapaaGreatDoor
