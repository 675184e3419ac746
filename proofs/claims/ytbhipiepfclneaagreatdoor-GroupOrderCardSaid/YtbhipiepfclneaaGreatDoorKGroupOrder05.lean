/- Walks. -/
import Derived.Test.YtbhipiepfclneaaGreatDoorKGroupOrder04
import Derived.Test.YtbhipiepfclneaaGreatDoorQ29
import Derived.Test.YtbhipiepfclneaaGreatDoorQ28
import Derived.Test.YtbhipiepfclneaaGreatDoorKGroupOrder02
import Derived.Test.YtbhipiepfclneaaGreatDoorQ14
import Derived.Test.YtbhipiepfclneaaGreatDoorQ09
import Derived.Test.YtbhipiepfclneaaGreatDoorKGroupOrderTy
import Derived.Test.YtbhipiepfclneaaGreatDoorQ12
import Derived.Test.YtbhipiepfclneaaGreatDoorKGroupOrder01
import Derived.Test.YtbhipiepfclneaaGreatDoorQ06
import Derived.Test.YtbhipiepfclneaaGreatDoorQ05
import Derived.Test.YtbhipiepfclneaaGreatDoorQ20
import Derived.Test.YtbhipiepfclneaaGreatDoorQ19
import Derived.Test.YtbhipiepfclneaaGreatDoorQ18
import Derived.Test.YtbhipiepfclneaaGreatDoorQ10
import Derived.Test.YtbhipiepfclneaaGreatDoorQ01
import Derived.Test.YtbhipiepfclneaaGreatDoorQ17
import Derived.Test.YtbhipiepfclneaaGreatDoorQ16
import Derived.Test.YtbhipiepfclneaaGreatDoorQ11
import Derived.Test.YtbhipiepfclneaaGreatDoorQ04
import Derived.Test.YtbhipiepfclneaaGreatDoorQ03
import Derived.Test.YtbhipiepfclneaaGreatDoorQ02
import Derived.Test.YtbhipiepfclneaaGreatDoorQShelf
import Derived.Test.YtbhipiepfclneaaGreatDoorQ15
import Derived.Test.YtbhipiepfclneaaGreatDoorQ13
set_option maxHeartbeats 16000000
set_option maxRecDepth 20000
namespace Go.Proofs.YtbhipiepfclneaaGreatDoor
open Go Go.Wk Go.Un Go.De Go.Num
set_option linter.unusedSimpArgs false
set_option linter.unusedVariables false
attribute [local irreducible] Go.wpList Go.Code.wp Go.wpStill Go.Wk.wpPre Go.bodyPost Go.Calls Go.Wk.Ct Go.Wk.OwnS Go.Wk.wpG Go.Wk.wpM
theorem symCt (F : Heap) (bd n cap : Nat) (T : TypeId) (fid : FuncId) (fi ca : List Value) [hfn : HasFn Tryz.prog fid] (Q : Vr → Prop) (c : Vr → Vr → Int) (hC : CmpQ F fid fi ca Q c) (hm : n ≤ 1000000000000) : ∀ N, SymP F bd n cap T fid fi ca Q c N
 | 0 => fun _ _ _ _ _ _ _ h => absurd h (Nat.not_lt_zero _)
 | N + 1 => fun P D A B pa pm pb hN hA0 hB0 hA hB sA sB ha hpm hb hl hl2 => by
  by_cases h1 : A.length = 1
  ·obtain ⟨x, rfl⟩ : ∃ x, A = [x] := List.length_eq_one_iff.1 h1
   exact sym1Ct F bd n cap T fid fi ca Q c hC P D x B (hA x (List.mem_singleton.2 rfl)) hB sB pa pm pb ha hpm hb hl hl2 hm
  ·by_cases h2 : B.length = 1
   ·obtain ⟨x, rfl⟩ : ∃ x, B = [x] := List.length_eq_one_iff.1 h2
    exact sym2Ct F bd n cap T fid fi ca Q c hC P D x A (hB x (List.mem_singleton.2 rfl)) hA sA pa pm pb ha hpm hb h1 hl hl2 hm
   ·exact sym3Ct F bd n cap T fid fi ca Q c hC P D A B (fun P D A' B' pa pm pb h => symCt F bd n cap T fid fi ca Q c hC hm N P D A' B' pa pm pb (by omega)) hA hB sA sB pa pm pb ha hpm hb (by omega) (by omega) hl hl2 hm
theorem insS0Ct (F : Heap) (g : Grp) (v : Value) (f : Value) (pa pb : Nat) (h : pb ≤ pa) (hm : pa ≤ 1000000000000) : Ct Tryz.prog 156 [v, .int .i64 (pa : Nat), .int .i64 (pb : Nat), f] F [g] (fun _ G' u => G' = [g]) := by
 refine Ct.enter Tryz.func156 rfl Tryz.ntmps156 rfl fun w0 a S => ?_
 (revert S a; refine go 7 ?_; intro a S)
 refine wpc_loop (fun q a' w' => q = 0 ∧ St 53 [(2, .int .i64 (pb : Nat)), (8, .int .i64 ((pa + 1 : Nat) : Int))] w0 F (keys [g]) F [g] a' w') ?_ ?_
 ·(refine ⟨0, rfl, ?_⟩; refine S.keep ?_; exact zk)
 (clear S; rintro q a w ⟨rfl, S⟩)
 (revert S a; refine go 7 ?_; intro Z hZ a S)
 refine wpc_split S rfl (fun h => ?_) (fun h => ?_)
 ·(skip; (try simp only [tq] at h); omega)
 (skip; (try simp only [tq] at h))
 (refine wp_exit ?_; conv => whnf)
 refine fin_end S (results0 Tryz.results156) ?_
 rfl
theorem insNCt (F : Heap) (bd n cap : Nat) (T : TypeId) (fid : FuncId) (fi ca : List Value) [hfn : HasFn Tryz.prog fid] (Q : Vr → Prop) (c : Vr → Vr → Int) (hC : CmpQ F fid fi ca Q c) (P D : List Value) (X : List Vr) (hQ : ∀ x ∈ X, Q x) (pa pb : Nat) (ha : pa = P.length) (hb : pb = P.length + X.length) (hl : pb ≤ n) (hl2 : n ≤ P.length + X.length + D.length) (hm : n ≤ 1000000000000) :
  Ct Tryz.prog 156 [.slice (some ⟨bd, 0, none⟩) n cap, .int .i64 (pa : Nat), .int .i64 (pb : Nat), .func (.func fid) ⟨fi⟩ ⟨ca⟩] F [[(bd, .cells ⟨P ++ (vals X ++ D)⟩ T (0, 0))]]
   (fun _ G' u => ∃ Y : List Vr, Y.Perm X ∧ Srt (ltC c) Y ∧ G' = [[(bd, .cells ⟨P ++ (vals Y ++ D)⟩ T (0, 0))]]) := by
 by_cases h : 0 < X.length
 ·exact insSCt F bd n cap T fid fi ca Q c hC P D X hQ pa pb ha hb h hl hl2 hm
 ·have hX : X = [] := List.length_eq_zero_iff.1 (by omega)
  subst hX
  exact (insS0Ct F _ _ _ pa pb (by rw [ha, hb]; exact Nat.le_refl _) (by omega)).mono fun _ _ _ e => ⟨[], List.Perm.refl _, List.Pairwise.nil, e⟩
theorem vals_split {l A B : List Vr} {D : List Value} (h : A ++ B = l) : vals l ++ D = vals A ++ (vals B ++ D) := by
 subst h; rw [vals_app, List.append_assoc]
theorem two_of {q r : Nat} {Ls : List (List Vr)} (h : ∀ L ∈ Ls, L.length = q) (h1 : q + q ≤ Ls.flatten.length + r) (h2 : r < q) : ∃ L M Lr, Ls = L :: M :: Lr ∧ L.length = q ∧ M.length = q := by
 match Ls, h with
 | [], _ => rw [List.flatten_nil, List.length_nil] at h1; omega
 | [L], h => rw [List.flatten_cons, List.flatten_nil, List.append_nil, h L (List.mem_cons_self ..)] at h1; omega
 | L :: M :: r, h => exact ⟨L, M, r, rfl, h L (List.mem_cons_self ..), h M (List.mem_cons_of_mem _ (List.mem_cons_self ..))⟩
theorem one_of {q r : Nat} {Ls : List (List Vr)} (h : ∀ L ∈ Ls, L.length = q) (h1 : Ls.flatten.length + r < q + q) : Ls = [] ∨ ∃ L, Ls = [L] ∧ L.length = q := by
 match Ls, h with
 | [], _ => exact .inl rfl
 | [L], h => exact .inr ⟨L, rfl, h L (List.mem_cons_self ..)⟩
 | L :: M :: r, h =>
  rw [List.flatten_cons, List.flatten_cons, List.length_append, List.length_append, h L (List.mem_cons_self ..), h M (List.mem_cons_of_mem _ (List.mem_cons_self ..))] at h1
  omega
theorem tail_srt {c : Vr → Vr → Int} {q : Nat} {Ls : List (List Vr)} {R : List Vr} (h : ∀ L ∈ Ls, L.length = q ∧ Srt (ltC c) L) (hR : Srt (ltC c) R) (h1 : Ls.flatten.length + R.length ≤ q) (hq : 0 < q) : Srt (ltC c) (Ls.flatten ++ R) := by
 rcases one_of (fun L hL => (h L hL).1) (show Ls.flatten.length + R.length < q + q by omega) with e | ⟨L, e, hl⟩
 ·subst e; exact hR
 ·subst e
  rw [List.flatten_cons, List.flatten_nil, List.append_nil] at h1 ⊢
  exact srt_or (h L (List.mem_cons_self ..)).2 hR (.inr (by omega))
theorem zzSv0 {p : Prop} (h : p := by (have e9 : ((Ms.flatten.length : Nat) : Int) + 0 = ((Ms.flatten.length : Nat) : Int) := (by omega); first | (refine ⟨n - bq * 2, by omega, bq * 2, Ms, R2, rfl, by omega, by omega, ⟨fun M hM => ⟨by rw [(hMs M hM).1]; omega, (hMs M hM).2⟩, hsR2, by omega, hpR2⟩, ?_⟩; rw [vals_app, List.append_assoc]; (refine S.keep ?_; exact zk); done) | (refine ⟨n - bq * 2, by omega, bq * 2, Ms, Lt.flatten ++ R, rfl, by omega, by omega, ⟨fun M hM => ⟨by rw [(hMs M hM).1]; omega, (hMs M hM).2⟩, tail_srt hLt hBk.r (by omega) (by omega), by rw [List.length_append]; omega, hp⟩, ?_⟩; rw [vals_app Ms.flatten, List.append_assoc]; (refine S.keep ?_; exact zk); done) | trace_state)) : p := h
theorem stabCt (F : Heap) (bd n cap : Nat) (T : TypeId) (fid : FuncId) (fi ca : List Value) [hfn : HasFn Tryz.prog fid] (Q : Vr → Prop) (c : Vr → Vr → Int) (hC : CmpQ F fid fi ca Q c) (D : List Value) (X : List Vr) (hQ : ∀ x ∈ X, Q x) (hn : X.length = n) (hm : n ≤ 1000000000000) :
  Ct Tryz.prog 122 [.slice (some ⟨bd, 0, none⟩) n cap, .int .i64 (n : Nat), .func (.func fid) ⟨fi⟩ ⟨ca⟩] F [[(bd, .cells ⟨vals X ++ D⟩ T (0, 0))]]
   (fun _ G' u => ∃ Y : List Vr, Y.Perm X ∧ Srt (ltC c) Y ∧ G' = [[(bd, .cells ⟨vals Y ++ D⟩ T (0, 0))]]) := by
 have hsym := symCt F bd n cap T fid fi ca Q c hC hm (n + 1)
 refine Ct.enter Tryz.func122 rfl Tryz.ntmps122 rfl fun w0 a S => ?_
 (revert S a; refine go 12 ?_; intro Z hZ a S)
 refine wpc_loop (fun q a' w' => ∃ (Ls : List (List Vr)) (Yr : List Vr), q = Yr.length ∧ (∀ L ∈ Ls, L.length = 20 ∧ Srt (ltC c) L) ∧ (Ls.flatten ++ Yr).Perm X ∧ St 63 [(0, .slice (some ⟨bd, 0, none⟩) n cap), (1, .int .i64 (n : Nat)), (2, .func (.func fid) ⟨fi⟩ ⟨ca⟩), (6, .int .i64 20), (7, .int .i64 ((Ls.flatten.length : Nat) : Int)), (8, .int .i64 ((Ls.flatten.length + 20 : Nat) : Int))] w0 F (keys [[(bd, .cells ⟨vals X ++ D⟩ T (0, 0))]]) F [[(bd, .cells ⟨vals Ls.flatten ++ (vals Yr ++ D)⟩ T (0, 0))]] a' w') ?_ ?_
 ·(refine ⟨_, [], X, rfl, (fun _ h => by cases h), List.Perm.refl _, ?_⟩; refine S.keep ?_; exact zk)
 (clear S; rintro q a w ⟨Ls, Yr, rfl, hLs, hp, S⟩; have hpl := hp.length_eq; rw [List.length_append] at hpl)
 (revert S a; refine go 7 ?_; intro Z hZ a S)
 refine wpc_sp S rfl ?_ ?_ <;> intro h
 ·(revert S a; revert hZ Z; refine go 8 ?_; intro Z hZ a S)
  (rw [vals_split (A := Yr.take 20) (B := Yr.drop 20) (List.take_append_drop _ _)] at S; have l20 : (Yr.take 20).length = 20 := (by rw [List.length_take]; omega); have l21 : (Yr.drop 20).length = Yr.length - 20 := List.length_drop; refine wpl_callOwn (Gs := [[(bd, .cells ⟨vals Ls.flatten ++ (vals (Yr.take 20) ++ (vals (Yr.drop 20) ++ D))⟩ T (0, 0))]]) (Gr := []) S rfl rfl rfl rfl rfl rfl (insNCt F bd n cap T fid fi ca Q c hC (vals Ls.flatten) (vals (Yr.drop 20) ++ D) (Yr.take 20) (fun x hx => hQ x (hp.mem_iff.1 (List.mem_append.2 (.inr (List.mem_of_mem_take hx))))) _ _ (by rw [vals_len]) (by rw [vals_len]; omega) (by omega) (by rw [List.length_append, vals_len, vals_len]; omega) hm) rfl (by simp) ?_; clear S a; intro v18 G9 a w hv S; obtain ⟨L1, hL1, hs1, rfl⟩ := hv; have lL1 := hL1.length_eq; rw [l20] at lL1)
  (revert S a; revert hZ Z; refine go 13 ?_; intro a S)
  change ∃ m', _ ∧ _
  (have e9 : (Ls ++ [L1]).flatten = Ls.flatten ++ L1 := (by simp); have hp9 : ((Ls ++ [L1]).flatten ++ Yr.drop 20).Perm X := (by rw [e9, List.append_assoc]; refine (List.Perm.append_left _ (hL1.append_right _)).trans ?_; rw [List.take_append_drop]; exact hp); refine ⟨(Yr.drop 20).length, by rw [List.length_drop]; omega, Ls ++ [L1], Yr.drop 20, rfl, (fun L hL => by rcases List.mem_append.1 hL with hL | hL; exact hLs L hL; obtain rfl := List.mem_singleton.1 hL; exact ⟨by omega, hs1⟩), hp9, ?_⟩; rw [e9, vals_app, List.length_append, lL1, List.append_assoc]; (refine S.keep ?_; exact zk))
 (refine wp_exit ?_; conv => whnf)
 clear hZ Z
 (revert S a; revert hZ Z; refine go 6 ?_; intro Z hZ a S)
 (refine wpl_callOwn (Gs := [[(bd, .cells ⟨vals Ls.flatten ++ (vals Yr ++ D)⟩ T (0, 0))]]) (Gr := []) S rfl rfl rfl rfl rfl rfl (insNCt F bd n cap T fid fi ca Q c hC (vals Ls.flatten) D Yr (fun x hx => hQ x (hp.mem_iff.1 (List.mem_append.2 (.inr hx)))) _ _ (by rw [vals_len]) (by rw [vals_len]; omega) (by omega) (by rw [vals_len]; omega) hm) rfl (by simp) ?_; clear S a; intro v27 G9 a w hv S; obtain ⟨R1, hR1, hs1, rfl⟩ := hv; have lR1 := hR1.length_eq)
 (revert S a; revert hZ Z; refine go 3 ?_; intro a S)
 refine wpc_loop (fun q a' w' => ∃ (bq : Nat) (Ls : List (List Vr)) (R : List Vr), q = n - bq ∧ 20 ≤ bq ∧ bq ≤ 2 * n + 20 ∧ Blk c bq X Ls R ∧ St 63 [(0, .slice (some ⟨bd, 0, none⟩) n cap), (1, .int .i64 (n : Nat)), (2, .func (.func fid) ⟨fi⟩ ⟨ca⟩), (6, .int .i64 (bq : Nat))] w0 F (keys [[(bd, .cells ⟨vals X ++ D⟩ T (0, 0))]]) F [[(bd, .cells ⟨vals (Ls.flatten ++ R) ++ D⟩ T (0, 0))]] a' w') ?_ ?_
 ·(refine ⟨_, 20, Ls, R1, rfl, Nat.le_refl _, by omega, ⟨hLs, hs1, by omega, (List.Perm.append_left _ hR1).trans hp⟩, ?_⟩; rw [vals_app, List.append_assoc]; (refine S.keep ?_; exact zk))
 (clear S; rintro q a w ⟨bq, Ls, R, rfl, hq20, hqn, hBk, S⟩; have hRl := hBk.rl)
 (revert S a; refine go 7 ?_; intro Z hZ a S)
 refine wpc_sp S rfl ?_ ?_ <;> intro h
 ·(revert S a; revert hZ Z; refine go 5 ?_; intro Z hZ a S)
  (refine wv S (sv_mul S rfl rfl rfl (by first | omega | (simp only [List.length_append, List.length_cons, List.length_nil]; omega))) ?_; clear S a; intro a S)
  (revert S a; revert hZ Z; refine go 6 ?_; intro Z hZ a S)
  refine wpc_loop (fun q a' w' => ∃ (Ms Lt : List (List Vr)), q = Lt.length ∧ (∀ M ∈ Ms, M.length = 2 * bq ∧ Srt (ltC c) M) ∧ (∀ L ∈ Lt, L.length = bq ∧ Srt (ltC c) L) ∧ (Ms.flatten ++ (Lt.flatten ++ R)).Perm X ∧ St 63 [(0, .slice (some ⟨bd, 0, none⟩) n cap), (1, .int .i64 (n : Nat)), (2, .func (.func fid) ⟨fi⟩ ⟨ca⟩), (6, .int .i64 (bq : Nat)), (7, .int .i64 ((Ms.flatten.length : Nat) : Int)), (8, .int .i64 ((Ms.flatten.length + 2 * bq : Nat) : Int))] w0 F (keys [[(bd, .cells ⟨vals X ++ D⟩ T (0, 0))]]) F [[(bd, .cells ⟨vals Ms.flatten ++ (vals (Lt.flatten ++ R) ++ D)⟩ T (0, 0))]] a' w') ?_ ?_
  ·(have e9 : (2 * (bq : Int)) = ((([] : List (List Vr)).flatten.length + 2 * bq : Nat) : Int) := (by simp); rw [e9] at S; refine ⟨_, [], Ls, rfl, (fun _ h => by cases h), hBk.all, hBk.p, ?_⟩; (refine S.keep ?_; exact zk))
  (clear S; rintro q a w ⟨Ms, Lt, rfl, hMs, hLt, hp, S⟩; have hpl := hp.length_eq; rw [List.length_append, List.length_append] at hpl)
  (revert S a; refine go 7 ?_; intro Z hZ a S)
  refine wpc_sp S rfl ?_ ?_ <;> intro h
  ·(revert S a; revert hZ Z; refine go 11 ?_; intro Z hZ a S)
   (obtain ⟨L1, L2, Lr, rfl, l1, l2⟩ := two_of (r := R.length) (fun L hL => (hLt L hL).1) (by omega) hRl; have e43 : vals ((L1 :: L2 :: Lr).flatten ++ R) ++ D = vals L1 ++ (vals L2 ++ (vals (Lr.flatten ++ R) ++ D)) := (by rw [List.flatten_cons, List.flatten_cons]; simp only [vals_app, List.append_assoc]); rw [e43] at S; have hf2 : (L1 :: L2 :: Lr).flatten.length = bq + (bq + Lr.flatten.length) := (by rw [List.flatten_cons, List.flatten_cons, List.length_append, List.length_append, l1, l2]); refine wpl_callOwn (Gs := [[(bd, .cells ⟨vals Ms.flatten ++ (vals L1 ++ (vals L2 ++ (vals (Lr.flatten ++ R) ++ D)))⟩ T (0, 0))]]) (Gr := []) S rfl rfl rfl rfl rfl rfl (hsym (vals Ms.flatten) (vals (Lr.flatten ++ R) ++ D) L1 L2 Ms.flatten.length (Ms.flatten.length + bq) (Ms.flatten.length + 2 * bq) (by omega) (by omega) (by omega) (fun y hy => hQ y (hp.mem_iff.1 (by simp [hy]))) (fun y hy => hQ y (hp.mem_iff.1 (by simp [hy]))) (hLt L1 (List.mem_cons_self ..)).2 (hLt L2 (List.mem_cons_of_mem _ (List.mem_cons_self ..))).2 (by rw [vals_len]) (by rw [vals_len]; omega) (by rw [vals_len]; omega) (by omega) (by rw [List.length_append, vals_len, vals_len, List.length_append]; omega)) rfl (by simp) ?_; clear S a; intro v43 G9 a w hv S; obtain ⟨M1, hM1, hsM1, rfl⟩ := hv)
   (revert S a; revert hZ Z; refine go 10 ?_; intro a S)
   (refine wv S (sv_mul S rfl rfl rfl (by first | omega | (simp only [List.length_append, List.length_cons, List.length_nil]; omega))) ?_; clear S a; intro a S)
   (revert S a; refine go 3 ?_; intro a S)
   change ∃ m', _ ∧ _
   (have e9 : (Ms ++ [M1]).flatten = Ms.flatten ++ M1 := (by simp); have lM1 := hM1.length_eq; rw [List.length_append, l1, l2] at lM1; have hp9 : ((Ms ++ [M1]).flatten ++ (Lr.flatten ++ R)).Perm X := (by rw [e9, List.append_assoc]; refine (List.Perm.append_left _ (hM1.append_right _)).trans ?_; refine List.Perm.trans ?_ hp; rw [List.flatten_cons, List.flatten_cons]; simp only [List.append_assoc]; exact List.Perm.refl _); have e8 : ((Ms.flatten.length + 2 * bq : Nat) : Int) + 2 * (bq : Int) = ((Ms.flatten.length + 2 * bq + 2 * bq : Nat) : Int) := (by omega); rw [e8] at S; refine ⟨Lr.length, by simp only [List.length_cons]; omega, Ms ++ [M1], Lr, rfl, (fun L hL => by rcases List.mem_append.1 hL with hL | hL; exact hMs L hL; obtain rfl := List.mem_singleton.1 hL; exact ⟨by omega, hsM1⟩), (fun L hL => hLt L (List.mem_cons_of_mem _ (List.mem_cons_of_mem _ hL))), hp9, ?_⟩; rw [e9, vals_app Ms.flatten, List.length_append, show M1.length = 2 * bq by omega, List.append_assoc (vals Ms.flatten)]; (refine S.keep ?_; exact zk))
  (refine wp_exit ?_; conv => whnf)
  clear hZ Z
  (revert S a; revert hZ Z; refine go 15 ?_; intro Z hZ a S)
  refine wpc_sp S rfl ?_ ?_ <;> intro h
  ·(revert S a; refine go 6 ?_; intro a S)
   (obtain ⟨L, rfl, lL⟩ : ∃ L, Lt = [L] ∧ L.length = bq := (one_of (r := R.length) (fun L hL => (hLt L hL).1) (by omega)).resolve_left (fun e => by subst e; simp only [List.flatten_nil, List.length_nil] at hpl; omega); have e60 : vals ([L].flatten ++ R) ++ D = vals L ++ (vals R ++ D) := (by rw [List.flatten_cons, List.flatten_nil, List.append_nil, vals_app, List.append_assoc]); rw [e60] at S; have hf1 : [L].flatten.length = bq := (by rw [List.flatten_cons, List.flatten_nil, List.append_nil, lL]); refine wpl_callOwn (Gs := [[(bd, .cells ⟨vals Ms.flatten ++ (vals L ++ (vals R ++ D))⟩ T (0, 0))]]) (Gr := []) S rfl rfl rfl rfl rfl rfl (hsym (vals Ms.flatten) D L R Ms.flatten.length (Ms.flatten.length + bq) n (by omega) (by omega) (by omega) (fun y hy => hQ y (hp.mem_iff.1 (by simp [hy]))) (fun y hy => hQ y (hp.mem_iff.1 (by simp [hy]))) (hLt L (List.mem_cons_self ..)).2 hBk.r (by rw [vals_len]) (by rw [vals_len]; omega) (by rw [vals_len]; omega) (by omega) (by rw [vals_len]; omega)) rfl (by simp) ?_; clear S a; intro v60 G9 a w hv S; obtain ⟨R2, hR2, hsR2, rfl⟩ := hv; have lR2 := hR2.length_eq; rw [List.length_append] at lR2; have hpR2 : (Ms.flatten ++ R2).Perm X := (by refine (List.Perm.append_left _ hR2).trans ?_; refine List.Perm.trans ?_ hp; rw [List.flatten_cons, List.flatten_nil, List.append_nil]))
   (revert S a; revert hZ Z; refine go 4 ?_; intro a S)
   (refine wv S (sv_mul S rfl rfl rfl (by first | omega | (simp only [List.length_append, List.length_cons, List.length_nil]; omega))) ?_; clear S a; intro a S)
   (revert S a; refine go 2 ?_; intro a S)
   change ∃ m', _ ∧ _
   exact zzSv0
  (revert S a; revert hZ Z; refine go 4 ?_; intro a S)
  (refine wv S (sv_mul S rfl rfl rfl (by first | omega | (simp only [List.length_append, List.length_cons, List.length_nil]; omega))) ?_; clear S a; intro a S)
  (revert S a; refine go 2 ?_; intro a S)
  change ∃ m', _ ∧ _
  exact zzSv0
 (refine wp_exit ?_; conv => whnf)
 refine fin_end S (results0 Tryz.results122) ?_
 exact ⟨Ls.flatten ++ R, hBk.p, hBk.fin (by omega), rfl⟩
theorem sortSCt (F : Heap) (bd n cap : Nat) (T : TypeId) (fid : FuncId) (fi ca : List Value) [hfn : HasFn Tryz.prog fid] (Q : Vr → Prop) (c : Vr → Vr → Int) (hC : CmpQ F fid fi ca Q c) (D : List Value) (X : List Vr) (hQ : ∀ x ∈ X, Q x) (hn : X.length = n) (hm : n ≤ 1000000000000) :
  Ct Tryz.prog 79 [.slice (some ⟨bd, 0, none⟩) n cap, .func (.func fid) ⟨fi⟩ ⟨ca⟩] F [[(bd, .cells ⟨vals X ++ D⟩ T (0, 0))]]
   (fun _ G' u => ∃ Y : List Vr, Y.Perm X ∧ Srt (ltC c) Y ∧ G' = [[(bd, .cells ⟨vals Y ++ D⟩ T (0, 0))]]) := by
 refine Ct.enter Tryz.func79 rfl Tryz.ntmps79 rfl fun w0 a S => ?_
 (revert S a; refine go 5 ?_; intro a S)
 (refine wpl_callOwn (Gs := [[(bd, .cells ⟨vals X ++ D⟩ T (0, 0))]]) (Gr := []) S rfl rfl rfl rfl rfl rfl (stabCt F bd n cap T fid fi ca Q c hC D X hQ hn hm) rfl (by simp) ?_; clear S a; intro v8 G9 a w hv S; obtain ⟨Y, hY, hYs, rfl⟩ := hv)
 refine wpList_nil ?_
 refine fin_end S (results0 Tryz.results79) ?_
 exact ⟨Y, hY, hYs, rfl⟩
def RwR (F : Heap) (r : Vf) (cs : List Value) : Prop := ∃ v, cs = [v] ∧ TrS F 4 VhR v r
instance : Mon RwR := ⟨fun hF ⟨v, h1, h2⟩ => ⟨v, h1, h2.mono hF⟩⟩
theorem compNoCt (F : Heap) (v : Value) (l : List Vf) (hv : LiM F 1 RwR v l) (fid : FuncId) (fi ca : List Value) [hfn : HasFn Tryz.prog fid] (eq : Vf → Vf → Bool) (M : Vf → Prop) (hM : ∀ x ∈ l, M x)
  (hc : ∀ x y v1 v2, M x → M y → TrS F 4 VhR v1 x → TrS F 4 VhR v2 y → Ct Tryz.prog fid (fi ++ [v1, v2] ++ ca) F [] (fun _ _ u => u = .bool (eq x y))) (hne : ∀ k x y, l[k + 1]? = some x → l[k]? = some y → eq x y = false) :
  Ct Tryz.prog 80 [v, .func (.func fid) ⟨fi⟩ ⟨ca⟩] F [] (fun _ _ u => u = v) := by
 obtain ⟨ao, cap, rfl, hcap, hpos⟩ := hv
 refine Ct.enter Tryz.func80 rfl Tryz.ntmps80 rfl fun w0 a S => ?_
 (revert S a; refine go 11 ?_; intro Z hZ a S)
 refine wpc_sp S rfl ?_ ?_ <;> intro h
 ·(revert S a; refine go 5 ?_; intro a S)
  refine wp_ret (fr1 S Tryz.results80 ?_)
  rfl
 (revert S a; revert hZ Z; refine go 8 ?_; intro Z hZ a S)
 refine wpc_loop (fun q a' w' => ∃ (k : Nat), q = l.length - (k + 1) ∧ k + 1 ≤ l.length ∧ St 66 [(0, .slice ao l.length cap), (1, .func (.func fid) ⟨fi⟩ ⟨ca⟩), (5, .int .i64 ((k + 1 : Nat) : Int))] w0 F [] F [] a' w') ?_ ?_
 ·(refine ⟨_, 0, rfl, by omega, ?_⟩; refine S.keep ?_; exact zk)
 (clear S; rintro q a w ⟨k, rfl, hk, S⟩)
 (revert S a; refine go 8 ?_; intro Z hZ a S)
 refine wpc_sp S rfl ?_ ?_ <;> intro h
 ·(revert S a; revert hZ Z; refine go 4 ?_; intro Z hZ a S)
  (refine wp_seq_k ?_; intro Z hZ)
  (obtain ⟨b8, o8, hao, x, cs1, hx, hcc, v1, rfl, hT1⟩ := LiM.pos hpos (k := k + 1) (by omega); obtain ⟨b9, o9, hao2, y, cs2, hy, hcc2, v2, rfl, hT2⟩ := LiM.pos hpos (k := k) (by omega); rw [hao] at hao2; cases hao2; have hc1 : Cel F b8 (o8 + (k + 1) * 1) v1 := hcc 0 _ rfl; have hc2 : Cel F b8 (o8 + k * 1) v2 := hcc2 0 _ rfl; have hxy := hne k x y hx hy; rw [hao] at S)
  (refine wpc_mixM [0, 1, 2, 3, 4, 5, 6, 7, 8, 9] [4, 9] [] (.one 0 (.one 1 (.one 2 (.one 3 (.one 4 (.one 5 (.one 6 (.one 7 (.one 8 (.one 9 (.one 10 .nil))))))))))) [] S mixed (by kernel_rfl) ?_; clear S; intro w S)
  (revert S a; refine go 4 ?_; intro a S)
  (refine wlF S rfl (fun w' S => sv_loadF S rfl rfl hc1) ?_; clear S a; intro a S)
  (revert S a; refine go 2 ?_; intro a S)
  first | (refine wpm_v S rfl rfl rfl (want_none _ rfl) rfl rfl (fun w' S => sv_subN (q := 1) S rfl rfl rfl (by omega)) ?_; clear S a; intro a S) | (refine wpm_v S rfl rfl rfl (want_none _ rfl) rfl rfl (fun w' S => sv_sub S rfl rfl rfl (by omega)) ?_; clear S a; intro a S)
  (revert S a; refine go 1 ?_; intro a S)
  (refine wlF S rfl (fun w' S => sv_loadF S rfl rfl hc2) ?_; clear S a; intro a S)
  refine wpm_eff rfl rfl (kwa S) ?_
  (refine wc0 S (hc x y v1 v2 (hM x (List.mem_of_getElem? hx)) (hM y (List.mem_of_getElem? hy)) hT1 hT2) ?_; clear S a; intro v28 a w hv S; subst hv)
  (revert S a; revert hZ Z; refine go 3 ?_; intro a S)
  refine wpc_split S rfl (fun h => ?_) (fun h => ?_)
  ·(skip; (try simp only [tq] at h); simp_all)
  (skip; (try simp only [tq] at h))
  (revert S a; revert hZ Z; refine go 7 ?_; intro a S)
  change ∃ m', _ ∧ _
  (rw [← hao] at S; refine ⟨l.length - (k + 1 + 1), by omega, k + 1, rfl, by omega, ?_⟩; (refine S.keep ?_; exact zk))
 (refine wp_exit ?_; conv => whnf)
 clear hZ Z
 (revert S a; revert hZ Z; refine go 6 ?_; intro a S)
 refine wp_ret (fr1 S Tryz.results80 ?_)
 rfl
theorem zzSx0 {p : Prop} (h : p := by (first | (refine ⟨_, rfl, ?_⟩; unfold OwR; rw [List.take_of_length_le (by rw [hkl]; omega)] at hla; have hxb : xb = [] := (by rw [List.drop_of_length_le (by rw [hkl]; omega)] at hlb; exact hlb); subst hxb; rw [List.append_nil] at hown; rw [gh_append]; exact trs_kids (LiC.lim hown hla hkl.symm (fun b o h => by rw [← gh_append]; exact gh_right hnd2 h) (by omega))) | (obtain rfl := rose_nil (L := L) (by omega); exact ⟨[], rfl, TrS.nil _ _ _⟩) | trace_state)) : p := h
theorem vownCt : ∀ (n : Nat) (F : Heap) (L : Vf) (v : Value), L.size ≤ n → L.len * 56 ≤ 140737488355328 → ThV L → TrS F 4 VhR v L → Ct Tryz.prog 78 [v] F [] (fun _ G' u => ∃ g, G' = [g] ∧ OwR g u L) := by
 intro n
 induction n using Nat.strongRecOn with
 | _ n ih =>
 intro F L v hn hb hth hT0
 have hK0 := kids_lim hT0
 obtain ⟨ao, cap, rfl, hcap, -⟩ := hT0
 have hkl : (kids L).length = L.len := kids_len L
 refine Ct.enter Tryz.func78 rfl Tryz.ntmps78 rfl fun w0 a S => ?_
 (revert S a; refine go 11 ?_; intro Z hZ a S)
 refine wpc_sp S rfl ?_ ?_ <;> intro h
 ·(revert S a; refine go 4 ?_; intro a S)
  refine wp_ret ?_
  (first | (have hnd2 := nd2 S; replace S := join2 S) | (replace S := S.nilg))
  refine fin_ret S (results1 Tryz.results78 (RV.tmp S rfl)) ?_
  exact zzSx0
 (revert S a; revert hZ Z; refine go 4 ?_; intro Z hZ a S)
 (refine wpl_call (Gs := []) (Gr := []) S rfl rfl rfl rfl rfl rfl (cloneVCt F _ _ hK0 (by rw [hkl]; exact hb)) rfl (by exact List.Perm.refl _) ?_; clear S a; intro vT F4 G9 a w hv hF4 S; obtain ⟨gT, xT, rfl, hown, hxT⟩ := hv; rw [hkl] at hown; (simp only [List.append_nil] at S))
 (revert S a; revert hZ Z; refine go 4 ?_; intro Z hZ a S)
 (refine wp_seq_k ?_; intro Z hZ)
 (replace S : St _ _ _ _ _ F [gT] _ _ := ⟨S.fr, S.tr.shrink hF4 (fun _ _ h => h)⟩; have vTat := hown.at; obtain ⟨aT0, cT0, rfl, -, -, -⟩ := vTat)
 (revert S a; revert hZ Z; refine go 7 ?_; intro a S)
 refine wpc_loop (fun m a w' => ∃ (i : Nat) (v : Value) (g gd : Grp) (xa xb : List Value), m = L.len - i ∧ i ≤ L.len ∧ OwnS 45 4 v L.len (xa ++ xb) g ∧ xa.length = i * 4 ∧ LiC (gh gd) 4 (RoR 4 VhR) xa ((kids L).take i) ∧ LiC F 4 (RoR 4 VhR) xb ((kids L).drop i) ∧ St 27 [(3, v), (11, .int .i64 L.len), (12, .int .i64 i)] w0 F [] F [g, gd] a w') ?_ ?_
 ·(refine ⟨L.len, 0, _, gT, [], [], xT, by omega, Nat.zero_le _, hown, rfl, rfl, hxT, ?_⟩; replace S := swap2 S.nilg; refine S.keep ?_; exact zk)
 (clear S hown hxT; rintro m a w ⟨i, v, g, gd, xa, xb, rfl, hil, hown, hxal, hla, hlb, S⟩)
 (revert S a; refine go 5 ?_; intro Z hZ a S)
 refine wpc_sp S rfl ?_ ?_ <;> intro h
 ·(revert S a; revert hZ Z; refine go 9 ?_; intro Z hZ a S)
  (obtain ⟨bT, capT, exT, rfl, rfl, hcq, hcm, hxl, hxe⟩ := ownS_blkN hown (by omega); obtain ⟨x, hx⟩ : ∃ x, (kids L)[i]? = some x := ⟨_, List.getElem?_eq_getElem (by omega)⟩; have hdk : (kids L).drop i = x :: (kids L).drop (i + 1) := (by obtain ⟨h1, h2⟩ := List.getElem?_eq_some_iff.1 hx; rw [← h2]; exact List.drop_eq_getElem_cons h1); rw [hdk] at hlb; obtain ⟨cs1, xb, rfl, hl1, hR1, hlb⟩ := hlb; obtain ⟨c, w3, rfl, -, ⟨rfl, hsb⟩, hT3⟩ := hR1; (simp only [List.cons_append, List.nil_append] at S hown hxl hxe hl1); have hxg := hx; rw [kids_get] at hxg; have hxs := Rose.size_get hxg; obtain ⟨hx56, hxth⟩ := hth.get hxg)
  (revert S a; refine go 7 ?_; intro a S)
  (refine wv S (sv_loadO S rfl rfl (cell_mid (cs := [_, _, _, _]) hxal (show 3 < 4 from by decide))) ?_; clear S a; intro a S)
  (refine wpl_call (Gs := []) (Gr := [[(bT, _)], gd]) S rfl rfl rfl rfl rfl rfl (ih x.2.size (by omega) F x.2 _ (Nat.le_refl _) hx56 hxth hT3) rfl (by exact List.Perm.refl _) ?_; clear S a; intro u5 F5 G9 a w hv hF5 S; obtain ⟨g5, rfl, hO5⟩ := hv; replace S := rot3' ⟨S.fr, S.tr.shrink hF5 (fun _ _ h => h)⟩; have hnd := nd_snd S; have hla2 : LiC (gh (g5 ++ gd)) 4 (RoR 4 VhR) _ ((kids L).take (i + 1)) := (by rw [List.take_add_one, hx]; exact LiC.app (hla.mono fun _ _ h => gh_right hnd h) (LiC.one rfl (show RoR 4 VhR (gh (g5 ++ gd)) x _ from ⟨[.int .u8 (x.1.k : Int), .int .i64 x.1.n, .string (bs x.1.s)], u5, rfl, rfl, ⟨rfl, hsb⟩, hO5.mono fun _ _ h => gh_left h⟩))))
  (revert S a; refine go 2 ?_; intro a S)
  (refine wpl_store1 S rfl rfl rfl rfl rfl (by obtain ⟨a5, c5, e5, -⟩ := hO5; rw [e5]; rfl) (by simp only [List.length_append, List.length_cons, List.length_nil]; omega) ?_; clear S; intro w S; rw [show (xa ++ (.int .u8 (x.1.k : Int) :: .int .i64 x.1.n :: .string (bs x.1.s) :: w3 :: xb) ++ exT).set (0 + i * 4 + 3) u5 = ((xa ++ [.int .u8 (x.1.k : Int), .int .i64 x.1.n, .string (bs x.1.s), u5]) ++ xb) ++ exT from set_mid (cs := [_, _, _, w3]) hxal (show 3 < 4 from by decide)] at S)
  (revert S a; revert hZ Z; refine go 6 ?_; intro a S)
  change ∃ m', _ ∧ _
  (refine ⟨L.len - (i + 1), by omega, i + 1, _, _, g5 ++ gd, xa ++ [.int .u8 (x.1.k : Int), .int .i64 x.1.n, .string (bs x.1.s), u5], xb, rfl, by omega, ownS_mkN (b := bT) (cap := capT) (ex := exT) (by simp only [List.length_append, List.length_cons, List.length_nil] at hxl ⊢; omega) hcq hcm (by simp only [List.length_append, List.length_cons, List.length_nil] at hxe ⊢; omega), by simp only [List.length_append, List.length_cons, List.length_nil]; omega, hla2, hlb, ?_⟩; refine S.keep ?_; exact zk)
 (refine wp_exit ?_; conv => whnf)
 clear hZ Z
 (revert S a; revert hZ Z; refine go 6 ?_; intro a S)
 refine wp_ret ?_
 (first | (have hnd2 := nd2 S; replace S := join2 S) | (replace S := S.nilg))
 refine fin_ret S (results1 Tryz.results78 (RV.tmp S rfl)) ?_
 exact zzSx0
theorem lic_zip {F : Heap} : ∀ {l : List Vf} {xs : List Value}, LiC F 1 RwR xs l → ∃ X : List Vr, vals X = xs ∧ X.map (·.2) = l ∧ ∀ x ∈ X, TrS F 4 VhR x.1 x.2
 | [], xs, h => ⟨[], h.symm, rfl, fun x hx => by cases hx⟩
 | r :: l, xs, ⟨cs, q, e1, e2, ⟨v, e3, e4⟩, e5⟩ => by
  obtain ⟨X, h1, h2, h3⟩ := lic_zip e5
  refine ⟨(v, r) :: X, ?_, ?_, fun x hx => ?_⟩
  ·subst e3; subst e1; subst h1; rfl
  ·rw [List.map_cons, h2]
  ·rcases List.mem_cons.1 hx with rfl | hx
   ·exact e4
   ·exact h3 x hx
def cRow (x y : Vr) : Int := cmpL x.2 y.2
theorem lt_row : Lt fun x y : Vr => decide (cRow x y < 0) where
 tr := fun {x y z} h1 h2 => by
  have a := of_decide_eq_false h1
  have b := of_decide_eq_false h2
  unfold cRow at *
  have t := (cmpL_tri x.2 y.2 z.2).t
  have e1 := cmpL_anti x.2 y.2
  have e2 := cmpL_anti y.2 z.2
  have e3 := cmpL_anti x.2 z.2
  exact decide_eq_false (by have := t (by omega) (by omega); omega)
 asy := fun {x y} h => by
  have a := of_decide_eq_true h
  unfold cRow at *
  have e1 := cmpL_anti x.2 y.2
  exact decide_eq_false (by omega)
theorem cmpQ_row (F : Heap) : CmpQ F 40 [] [] (fun x => TrS F 4 VhR x.1 x.2 ∧ mayL x.2 = true) cRow where
 ct := fun x y hx hy => by
  have h := cmpRowsCt F x.2 y.2 x.1 y.1 hx.1 hy.1
  rw [if_pos ⟨hx.2, hy.2⟩] at h
  exact h
 one := fun x hx => by obtain ⟨_, _, e, -⟩ := hx.1; rw [e]; rfl
 ord := lt_row
theorem sort1Ct (F : Heap) (x y : Vf) (v1 v2 : Value) (h1 : TrS F 4 VhR v1 x) (h2 : TrS F 4 VhR v2 y) (m1 : mayL x = true) (m2 : mayL y = true) : Ct Tryz.prog 81 [v1, v2] F [] (fun _ _ u => u = .bool (decide (cmpL x y = 0))) := by
 have h := cmpRowsCt F x y v1 v2 h1 h2
 rw [if_pos ⟨m1, m2⟩] at h
 refine Ct.enter Tryz.func81 rfl Tryz.ntmps81 rfl fun w0 a S => ?_
 (revert S a; refine go 7 ?_; intro Z hZ a S)
 (refine wc0 S h ?_; clear S a; intro v7 a w hv S; subst hv)
 (revert S a; revert hZ Z; refine go 4 ?_; intro a S)
 refine wp_ret (fr1 S Tryz.results81 ?_)
 (congr 1; first | rfl | (rw [Bool.eq_iff_iff]; simp) | trace_state)
theorem lim_own {F : Heap} {b cap n : Nat} {e : TypeId} {Y : List Vr} {D : List Value} (hb : F b = some (.cells ⟨vals Y ++ D⟩ e (0, 0))) (h : ∀ x ∈ Y, TrS F 4 VhR x.1 x.2) (hl : Y.length = n) (hc : n ≤ cap) (hm : n ≤ 140737488355328) : LiM F 1 RwR (.slice (some ⟨b, 0, none⟩) n cap) (Y.map (·.2)) := by
 subst hl
 refine ⟨_, cap, by rw [List.length_map], by rw [List.length_map]; exact ⟨hc, hm⟩, fun _ => ⟨b, 0, rfl, fun k r hr => ?_⟩⟩
 rw [List.getElem?_map] at hr
 obtain ⟨x, hx, rfl⟩ := Option.map_eq_some_iff.1 hr
 refine ⟨[x.1], fun j u hj => ?_, rfl, x.1, rfl, h x (List.mem_of_getElem? hx)⟩
 match j, hj with
 | 0, hj =>
  cases hj
  have h2 := vals_at (P := []) (D := D) hx
  simp only [List.nil_append, List.length_nil] at h2
  exact ⟨_, _, _, hb, by simpa using h2⟩
theorem no_twin {l : List Vf} (hnd : l.Nodup) (hz : ∀ x ∈ l, ∀ y ∈ l, cmpL x y = 0 → x = y) : ∀ k x y, l[k + 1]? = some x → l[k]? = some y → decide (cmpL x y = 0) = false := fun k x y hx hy => by
 refine decide_eq_false fun e => ?_
 have := hz x (List.mem_of_getElem? hx) y (List.mem_of_getElem? hy) e
 subst this
 obtain ⟨h1, e1⟩ := List.getElem?_eq_some_iff.1 hx
 obtain ⟨h2, e2⟩ := List.getElem?_eq_some_iff.1 hy
 exact List.pairwise_iff_getElem.1 hnd k (k + 1) h2 h1 (by omega) (by rw [e1, e2])
theorem sortVCt (F : Heap) (v : Value) (rows : List Vf) (hv : LiM F 1 RwR v rows) (hmay : ∀ r ∈ rows, mayL r = true) (hth : ∀ r ∈ rows, r.len * 56 ≤ 140737488355328 ∧ ThV r) (hr0 : 0 < rows.length) (hnd : rows.Nodup) (hz : ∀ x ∈ rows, ∀ y ∈ rows, cmpL x y = 0 → x = y) (hl : rows.length ≤ 1000000000) :
  Ct Tryz.prog 45 [v] F [] (fun F' _ u => ∃ Y : List Vf, Y.Perm rows ∧ Y.Pairwise (fun x y => 0 ≤ cmpL y x) ∧ LiM F' 1 RwR u Y) := by
 obtain ⟨ao, cap, rfl, hcap, hpos⟩ := hv
 refine Ct.enter Tryz.func45 rfl Tryz.ntmps45 rfl fun w0 a S => ?_
 (revert S a; refine go 16 ?_; intro Z hZ a S)
 refine wpc_loop (fun q a' w' => ∃ (i : Nat) (u : Value) (g gd : Grp) (xs : List Value), q = rows.length - i ∧ i ≤ rows.length ∧ OwnS 32 1 u i xs g ∧ LiC (gh gd) 1 RwR xs (rows.take i) ∧ St 22 [(3, u), (6, .slice ao rows.length cap), (7, .int .i64 rows.length), (8, .int .i64 i)] w0 F [] F [g, gd] a' w') ?_ ?_
 ·(refine ⟨_, 0, _, [], [], [], rfl, Nat.zero_le _, OwnS.nil _ _, rfl, ?_⟩; replace S : St _ _ _ _ _ F [[], []] _ _ := ⟨S.fr, S.tr.perm (by simp)⟩; refine S.keep ?_; exact zk)
 (clear S; rintro q a w ⟨i, u, g, gd, xs, rfl, hi, hown, hxs, S⟩)
 (revert S a; refine go 5 ?_; intro Z hZ a S)
 refine wpc_sp S rfl ?_ ?_ <;> intro h
 ·(revert S a; revert hZ Z; refine go 4 ?_; intro Z hZ a S)
  (refine wp_seq_k ?_; intro Z hZ)
  (obtain ⟨b8, o8, hao, x, cs1, hx, hcc, v1, rfl, hT1⟩ := LiM.pos hpos (k := i) (by omega); have hc1 : Cel F b8 (o8 + i * 1) v1 := hcc 0 _ rfl; have hxm := List.mem_of_getElem? hx; rw [hao] at S)
  (revert S a; refine go 2 ?_; intro a S)
  (refine wv S (sv_loadF S rfl rfl hc1) ?_; clear S a; intro a S)
  (revert S a; revert hZ Z; refine go 6 ?_; intro a S)
  (refine wpl_callOwn (Gs := []) (Gr := [g, gd]) S rfl rfl rfl rfl rfl rfl (vownCt _ F x v1 (Nat.le_refl _) (hth x hxm).1 (hth x hxm).2 hT1) rfl (by simp) ?_; clear S a; intro u5 G9 a w hv S; obtain ⟨g5, rfl, hO5⟩ := hv; obtain ⟨a5, c5, rfl, -⟩ := id hO5; replace S := rot3' S; have hndp := nd_snd S; have hxs2 : LiC (gh (g5 ++ gd)) 1 RwR (xs ++ [.slice a5 x.len c5]) (rows.take (i + 1)) := (by rw [List.take_add_one, hx]; exact LiC.app (hxs.mono fun _ _ h => gh_right hndp h) (LiC.one rfl ⟨_, rfl, hO5.mono fun _ _ h => gh_left h⟩)))
  (refine wpl_append S rfl rfl rfl rfl rfl rfl rfl rfl rfl rfl rfl (fun _ => rfl) hown (by rfl) (by simp [Value.cells, splice, splice]) (by simp [Value.cells, Value.oneCell', splice, splice]) rfl (by rfl) (by rfl) rfl (by omega) (by omega) ?_; clear hown S a; intro v u g a w hown S)
  (revert S a; revert hZ Z; refine go 7 ?_; intro a S)
  change ∃ m', _ ∧ _
  (rw [← hao] at S; refine ⟨rows.length - (i + 1), by omega, i + 1, _, _, g5 ++ gd, _, rfl, by omega, hown, hxs2, ?_⟩; first | ((refine S.keep ?_; exact zk); done) | (replace S := S.drop1; (refine S.keep ?_; exact zk); done) | trace_state)
 (refine wp_exit ?_; conv => whnf)
 clear hZ Z
 (refine hZ _ _ ?_; clear hZ Z)
 (refine wp_seq_k ?_; intro Z hZ)
 (obtain rfl : i = rows.length := (by omega); rw [List.take_length] at hxs; obtain ⟨F1, hF1, hg1, S2⟩ := gsn_take S; replace S := S2; clear S2; obtain ⟨X, hX1, hX2, hX3⟩ := lic_zip (hxs.mono hg1); subst hX1; obtain ⟨bT, capT, exT, rfl, rfl, hcq, hcm, hxl, hxe⟩ := ownS_blkN hown (by omega); have hXl : X.length = rows.length := (by rw [← hX2, List.length_map]); have hXm : ∀ x ∈ X, TrS F1 4 VhR x.1 x.2 ∧ mayL x.2 = true := (fun x hx => ⟨hX3 x hx, hmay x.2 (by rw [← hX2]; exact List.mem_map_of_mem hx)⟩))
 (revert S a; refine go 2 ?_; intro a S)
 (refine wpl_callOwn (Gs := [[(bT, .cells ⟨vals X ++ exT⟩ 32 (0, 0))]]) (Gr := []) S rfl rfl rfl rfl rfl rfl (sortSCt F1 bT rows.length capT 32 40 [] [] _ cRow (cmpQ_row F1) exT X hXm hXl (by omega)) rfl (by simp) ?_; clear S a; intro v19 G9 a w hv S; obtain ⟨Y, hY, hYs, rfl⟩ := hv; have hYm : ∀ x ∈ Y, TrS F1 4 VhR x.1 x.2 ∧ mayL x.2 = true := (fun x hx => hXm x (hY.mem_iff.1 hx)))
 (revert S a; revert hZ Z; refine go 4 ?_; intro Z hZ a S)
 (have S' := frz1 S; clear S; obtain ⟨F2, hF2, hbY, S⟩ := S'; have hYL : LiM F2 1 RwR (.slice (some ⟨bT, 0, none⟩) rows.length capT) (Y.map (·.2)) := lim_own hbY (fun x hx => (hYm x hx).1.mono hF2) (by rw [hY.length_eq, hXl]) hcq (by omega); have hYp : (Y.map (·.2)).Perm rows := (by rw [← hX2]; exact hY.map _); refine wc0 S (compNoCt F2 _ _ hYL 81 [] [] (fun x y => decide (cmpL x y = 0)) (fun r => mayL r = true) (fun r hr => hmay r (hYp.mem_iff.1 hr)) (fun x y v1 v2 m1 m2 t1 t2 => sort1Ct F2 x y v1 v2 t1 t2 m1 m2) (no_twin (hYp.nodup_iff.2 hnd) (fun x hx y hy => hz x (hYp.mem_iff.1 hx) y (hYp.mem_iff.1 hy)))) ?_; clear S a; intro v21 a w hv S; subst hv)
 (revert S a; revert hZ Z; refine go 3 ?_; intro a S)
 refine wp_ret (fr1 S Tryz.results45 ?_)
 exact ⟨Y.map (·.2), hYp, List.pairwise_map.2 (hYs.imp fun h => by have := of_decide_eq_false h; unfold cRow at this; omega), hYL⟩
end Go.Proofs.YtbhipiepfclneaaGreatDoor
