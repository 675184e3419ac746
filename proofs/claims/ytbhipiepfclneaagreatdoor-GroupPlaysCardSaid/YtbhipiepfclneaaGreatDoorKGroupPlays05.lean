/- Walks. -/
import Derived.Test.YtbhipiepfclneaaGreatDoorKGroupPlays04
import Derived.Test.YtbhipiepfclneaaGreatDoorQ22
set_option maxHeartbeats 16000000
set_option maxRecDepth 20000
namespace Go.Proofs.YtbhipiepfclneaaGreatDoor
open Go Go.Wk Go.Un Go.De Go.Num Go.ChangeShapes Go.WideShapes Go.ChangeAt Go.RowKit
set_option linter.unusedSimpArgs false
set_option linter.unusedVariables false
attribute [local irreducible] Go.wpList Go.Code.wp Go.wpStill Go.Wk.q26 Go.bodyPost Go.Calls Go.Wk.Ct Go.Wk.q0u Go.Wk.wpG Go.Wk.wpM
theorem qks {l A B : List Vr} {D : List Value} (h : A ++ B = l) : q0n l ++ D = q0n A ++ (q0n B ++ D) := by
 subst h; rw [q10, qaB]
theorem u1c {q r : Nat} {Ls : List (List Vr)} (h : ∀ L ∈ Ls, L.length = q) (h1 : q + q ≤ Ls.flatten.length + r) (h2 : r < q) : ∃ L M Lr, Ls = L :: M :: Lr ∧ L.length = q ∧ M.length = q := by
 match Ls, h with
 | [], _ => rw [List.flatten_nil, qaD] at h1; omega
 | [L], h => rw [qaF, List.flatten_nil, qaE, h L (qaH ..)] at h1; omega
 | L :: M :: r, h => exact ⟨L, M, r, rfl, h L (qaH ..), h M (List.mem_cons_of_mem _ (qaH ..))⟩
theorem qvq {q r : Nat} {Ls : List (List Vr)} (h : ∀ L ∈ Ls, L.length = q) (h1 : Ls.flatten.length + r < q + q) : Ls = [] ∨ ∃ L, Ls = [L] ∧ L.length = q := by
 match Ls, h with
 | [], _ => exact .inl rfl
 | [L], h => exact .inr ⟨L, rfl, h L (qaH ..)⟩
 | L :: M :: r, h =>
  rw [qaF, qaF, qaA, qaA, h L (qaH ..), h M (List.mem_cons_of_mem _ (qaH ..))] at h1
  omega
theorem qry {c : Vr → Vr → Int} {q : Nat} {Ls : List (List Vr)} {R : List Vr} (h : ∀ L ∈ Ls, L.length = q ∧ Srt (ltC c) L) (hR : Srt (ltC c) R) (h1 : Ls.flatten.length + R.length ≤ q) (hq : 0 < q) : Srt (ltC c) (Ls.flatten ++ R) := by
 rcases qvq (fun L hL => (h L hL).1) (show Ls.flatten.length + R.length < q + q by omega) with e | ⟨L, e, hl⟩
 ·subst e; exact hR
 ·subst e
  rw [qaF, List.flatten_nil, qaE] at h1 ⊢
  exact qbb (h L (qaH ..)).2 hR (.inr (by omega))
theorem u37 {p : Prop} (h : p := by (have e9 : ((Ms.flatten.length : Nat) : Int) + 0 = ((Ms.flatten.length : Nat) : Int) := (by omega); first | (refine ⟨n - bq * 2, by omega, bq * 2, Ms, R2, rfl, by omega, by omega, ⟨fun M hM => ⟨by rw [(hMs M hM).1]; omega, (hMs M hM).2⟩, hsR2, by omega, hpR2⟩, ?_⟩; rw [q10, qaB]; (refine S.keep ?_; exact zk); done) | (refine ⟨n - bq * 2, by omega, bq * 2, Ms, Lt.flatten ++ R, rfl, by omega, by omega, ⟨fun M hM => ⟨by rw [(hMs M hM).1]; omega, (hMs M hM).2⟩, qry hLt hBk.r (by omega) (by omega), by rw [qaA]; omega, hp⟩, ?_⟩; rw [q10 Ms.flatten, qaB]; (refine S.keep ?_; exact zk); done))) : p := h
theorem u2o (F : q01) (bd n cap : Nat) (T : TypeId) (fid : FuncId) (fi ca : List Value) [hfn : q0b Tryz.prog fid] (Q : Vr → Prop) (c : Vr → Vr → Int) (hC : qqp F fid fi ca Q c) (D : List Value) (X : List Vr) (hQ : ∀ x ∈ X, Q x) (hn : X.length = n) (hm : n ≤ 1000000000000) :
  Ct Tryz.prog 122 [.slice (some ⟨bd, 0, none⟩) n cap, .int .i64 (n : Nat), .func (.func fid) ⟨fi⟩ ⟨ca⟩] F [[(bd, .cells ⟨q0n X ++ D⟩ T (0, 0))]]
   (fun _ G' u => ∃ Y : List Vr, Y.Perm X ∧ Srt (ltC c) Y ∧ G' = [[(bd, .cells ⟨q0n Y ++ D⟩ T (0, 0))]]) := by
 have hsym := u1a F bd n cap T fid fi ca Q c hC hm (n + 1)
 refine Ct.enter Tryz.func122 rfl Tryz.ntmps122 rfl fun w0 a S => ?_
 revert a; refine go 12 ?_; intro Z hZ a S
 refine q04 (fun q a' w' => ∃ (Ls : List (List Vr)) (Yr : List Vr), q = Yr.length ∧ (∀ L ∈ Ls, L.length = 20 ∧ Srt (ltC c) L) ∧ (Ls.flatten ++ Yr).Perm X ∧ St 63 [(0, .slice (some ⟨bd, 0, none⟩) n cap), (1, .int .i64 (n : Nat)), (2, .func (.func fid) ⟨fi⟩ ⟨ca⟩), (6, .int .i64 20), (7, .int .i64 ((Ls.flatten.length : Nat) : Int)), (8, .int .i64 ((Ls.flatten.length + 20 : Nat) : Int))] w0 F (keys [[(bd, .cells ⟨q0n X ++ D⟩ T (0, 0))]]) F [[(bd, .cells ⟨q0n Ls.flatten ++ (q0n Yr ++ D)⟩ T (0, 0))]] a' w') ?_ ?_
 ·(refine ⟨_, [], X, rfl, (fun _ h => by cases h), List.Perm.refl _, ?_⟩; refine S.keep ?_; exact zk)
 (clear S; rintro q a w ⟨Ls, Yr, rfl, hLs, hp, S⟩; have hpl := hp.length_eq; rw [qaA] at hpl)
 revert a; refine go 7 ?_; intro Z hZ a S
 refine q00 S rfl ?_ ?_ <;> intro h
 ·revert a; revert Z; refine go 8 ?_; intro Z hZ a S
  (rw [qks (A := Yr.take 20) (B := Yr.drop 20) (List.take_append_drop _ _)] at S; have l20 : (Yr.take 20).length = 20 := (by rw [qaI]; omega); have l21 : (Yr.drop 20).length = Yr.length - 20 := qaJ; refine q02 (Gs := [[(bd, .cells ⟨q0n Ls.flatten ++ (q0n (Yr.take 20) ++ (q0n (Yr.drop 20) ++ D))⟩ T (0, 0))]]) (Gr := []) S rfl rfl rfl rfl rfl rfl (qu4 F bd n cap T fid fi ca Q c hC (q0n Ls.flatten) (q0n (Yr.drop 20) ++ D) (Yr.take 20) (fun x hx => hQ x (hp.mem_iff.1 (List.mem_append.2 (.inr (List.mem_of_mem_take hx))))) _ _ (by rw [q0g]) (by rw [q0g]; omega) (by omega) (by rw [qaA, q0g, q0g]; omega) hm) rfl (by simp) ?_; clear S a; intro v18 G9 a w hv S; obtain ⟨L1, hL1, hs1, rfl⟩ := hv; have lL1 := hL1.length_eq; rw [l20] at lL1)
  revert a; revert Z; refine go 13 ?_; intro a S
  change ∃ m', _ ∧ _
  (have e9 : (Ls ++ [L1]).flatten = Ls.flatten ++ L1 := (by simp); have hp9 : ((Ls ++ [L1]).flatten ++ Yr.drop 20).Perm X := (by rw [e9, qaB]; refine (List.Perm.append_left _ (hL1.append_right _)).trans ?_; rw [List.take_append_drop]; exact hp); refine ⟨(Yr.drop 20).length, by rw [qaJ]; omega, Ls ++ [L1], Yr.drop 20, rfl, (fun L hL => by rcases List.mem_append.1 hL with hL | hL; exact hLs L hL; obtain rfl := List.mem_singleton.1 hL; exact ⟨by omega, hs1⟩), hp9, ?_⟩; rw [e9, q10, qaA, lL1, qaB]; (refine S.keep ?_; exact zk))
 (refine wp_exit ?_; conv => whnf)
 clear hZ Z
 revert a; revert Z; refine go 6 ?_; intro Z hZ a S
 (refine q02 (Gs := [[(bd, .cells ⟨q0n Ls.flatten ++ (q0n Yr ++ D)⟩ T (0, 0))]]) (Gr := []) S rfl rfl rfl rfl rfl rfl (qu4 F bd n cap T fid fi ca Q c hC (q0n Ls.flatten) D Yr (fun x hx => hQ x (hp.mem_iff.1 (List.mem_append.2 (.inr hx)))) _ _ (by rw [q0g]) (by rw [q0g]; omega) (by omega) (by rw [q0g]; omega) hm) rfl (by simp) ?_; clear S a; intro v27 G9 a w hv S; obtain ⟨R1, hR1, hs1, rfl⟩ := hv; have lR1 := hR1.length_eq)
 revert a; revert Z; refine go 3 ?_; intro a S
 refine q04 (fun q a' w' => ∃ (bq : Nat) (Ls : List (List Vr)) (R : List Vr), q = n - bq ∧ 20 ≤ bq ∧ bq ≤ 2 * n + 20 ∧ Blk c bq X Ls R ∧ St 63 [(0, .slice (some ⟨bd, 0, none⟩) n cap), (1, .int .i64 (n : Nat)), (2, .func (.func fid) ⟨fi⟩ ⟨ca⟩), (6, .int .i64 (bq : Nat))] w0 F (keys [[(bd, .cells ⟨q0n X ++ D⟩ T (0, 0))]]) F [[(bd, .cells ⟨q0n (Ls.flatten ++ R) ++ D⟩ T (0, 0))]] a' w') ?_ ?_
 ·(refine ⟨_, 20, Ls, R1, rfl, Nat.le_refl _, by omega, ⟨hLs, hs1, by omega, (List.Perm.append_left _ hR1).trans hp⟩, ?_⟩; rw [q10, qaB]; (refine S.keep ?_; exact zk))
 (clear S; rintro q a w ⟨bq, Ls, R, rfl, hq20, hqn, hBk, S⟩; have hRl := hBk.rl)
 revert a; refine go 7 ?_; intro Z hZ a S
 refine q00 S rfl ?_ ?_ <;> intro h
 ·revert a; revert Z; refine go 5 ?_; intro Z hZ a S
  (refine wv S (q8r S rfl rfl rfl (by first | omega | (simp only [qaA, qaC, qaD]; omega))) ?_; clear S a; intro a S)
  revert a; revert Z; refine go 6 ?_; intro Z hZ a S
  refine q04 (fun q a' w' => ∃ (Ms Lt : List (List Vr)), q = Lt.length ∧ (∀ M ∈ Ms, M.length = 2 * bq ∧ Srt (ltC c) M) ∧ (∀ L ∈ Lt, L.length = bq ∧ Srt (ltC c) L) ∧ (Ms.flatten ++ (Lt.flatten ++ R)).Perm X ∧ St 63 [(0, .slice (some ⟨bd, 0, none⟩) n cap), (1, .int .i64 (n : Nat)), (2, .func (.func fid) ⟨fi⟩ ⟨ca⟩), (6, .int .i64 (bq : Nat)), (7, .int .i64 ((Ms.flatten.length : Nat) : Int)), (8, .int .i64 ((Ms.flatten.length + 2 * bq : Nat) : Int))] w0 F (keys [[(bd, .cells ⟨q0n X ++ D⟩ T (0, 0))]]) F [[(bd, .cells ⟨q0n Ms.flatten ++ (q0n (Lt.flatten ++ R) ++ D)⟩ T (0, 0))]] a' w') ?_ ?_
  ·(have e9 : (2 * (bq : Int)) = ((([] : List (List Vr)).flatten.length + 2 * bq : Nat) : Int) := (by simp); rw [e9] at S; refine ⟨_, [], Ls, rfl, (fun _ h => by cases h), hBk.all, hBk.p, ?_⟩; (refine S.keep ?_; exact zk))
  (clear S; rintro q a w ⟨Ms, Lt, rfl, hMs, hLt, hp, S⟩; have hpl := hp.length_eq; rw [qaA, qaA] at hpl)
  revert a; refine go 7 ?_; intro Z hZ a S
  refine q00 S rfl ?_ ?_ <;> intro h
  ·revert a; revert Z; refine go 11 ?_; intro Z hZ a S
   (obtain ⟨L1, L2, Lr, rfl, l1, l2⟩ := u1c (r := R.length) (fun L hL => (hLt L hL).1) (by omega) hRl; have e43 : q0n ((L1 :: L2 :: Lr).flatten ++ R) ++ D = q0n L1 ++ (q0n L2 ++ (q0n (Lr.flatten ++ R) ++ D)) := (by rw [qaF, qaF]; simp only [q10, qaB]); rw [e43] at S; have hf2 : (L1 :: L2 :: Lr).flatten.length = bq + (bq + Lr.flatten.length) := (by rw [qaF, qaF, qaA, qaA, l1, l2]); refine q02 (Gs := [[(bd, .cells ⟨q0n Ms.flatten ++ (q0n L1 ++ (q0n L2 ++ (q0n (Lr.flatten ++ R) ++ D)))⟩ T (0, 0))]]) (Gr := []) S rfl rfl rfl rfl rfl rfl (hsym (q0n Ms.flatten) (q0n (Lr.flatten ++ R) ++ D) L1 L2 Ms.flatten.length (Ms.flatten.length + bq) (Ms.flatten.length + 2 * bq) (by omega) (by omega) (by omega) (fun y hy => hQ y (hp.mem_iff.1 (by simp [hy]))) (fun y hy => hQ y (hp.mem_iff.1 (by simp [hy]))) (hLt L1 (qaH ..)).2 (hLt L2 (List.mem_cons_of_mem _ (qaH ..))).2 (by rw [q0g]) (by rw [q0g]; omega) (by rw [q0g]; omega) (by omega) (by rw [qaA, q0g, q0g, qaA]; omega)) rfl (by simp) ?_; clear S a; intro v43 G9 a w hv S; obtain ⟨M1, hM1, hsM1, rfl⟩ := hv)
   revert a; revert Z; refine go 10 ?_; intro a S
   (refine wv S (q8r S rfl rfl rfl (by first | omega | (simp only [qaA, qaC, qaD]; omega))) ?_; clear S a; intro a S)
   revert a; refine go 3 ?_; intro a S
   change ∃ m', _ ∧ _
   (have e9 : (Ms ++ [M1]).flatten = Ms.flatten ++ M1 := (by simp); have lM1 := hM1.length_eq; rw [qaA, l1, l2] at lM1; have hp9 : ((Ms ++ [M1]).flatten ++ (Lr.flatten ++ R)).Perm X := (by rw [e9, qaB]; refine (List.Perm.append_left _ (hM1.append_right _)).trans ?_; refine List.Perm.trans ?_ hp; rw [qaF, qaF]; simp only [qaB]; exact List.Perm.refl _); have e8 : ((Ms.flatten.length + 2 * bq : Nat) : Int) + 2 * (bq : Int) = ((Ms.flatten.length + 2 * bq + 2 * bq : Nat) : Int) := (by omega); rw [e8] at S; refine ⟨Lr.length, by simp only [qaC]; omega, Ms ++ [M1], Lr, rfl, (fun L hL => by rcases List.mem_append.1 hL with hL | hL; exact hMs L hL; obtain rfl := List.mem_singleton.1 hL; exact ⟨by omega, hsM1⟩), (fun L hL => hLt L (List.mem_cons_of_mem _ (List.mem_cons_of_mem _ hL))), hp9, ?_⟩; rw [e9, q10 Ms.flatten, qaA, show M1.length = 2 * bq by omega, qaB (q0n Ms.flatten)]; (refine S.keep ?_; exact zk))
  (refine wp_exit ?_; conv => whnf)
  clear hZ Z
  revert a; revert Z; refine go 15 ?_; intro Z hZ a S
  refine q00 S rfl ?_ ?_ <;> intro h
  ·revert a; refine go 6 ?_; intro a S
   (obtain ⟨L, rfl, lL⟩ : ∃ L, Lt = [L] ∧ L.length = bq := (qvq (r := R.length) (fun L hL => (hLt L hL).1) (by omega)).resolve_left (fun e => by subst e; simp only [List.flatten_nil, qaD] at hpl; omega); have e60 : q0n ([L].flatten ++ R) ++ D = q0n L ++ (q0n R ++ D) := (by rw [qaF, List.flatten_nil, qaE, q10, qaB]); rw [e60] at S; have hf1 : [L].flatten.length = bq := (by rw [qaF, List.flatten_nil, qaE, lL]); refine q02 (Gs := [[(bd, .cells ⟨q0n Ms.flatten ++ (q0n L ++ (q0n R ++ D))⟩ T (0, 0))]]) (Gr := []) S rfl rfl rfl rfl rfl rfl (hsym (q0n Ms.flatten) D L R Ms.flatten.length (Ms.flatten.length + bq) n (by omega) (by omega) (by omega) (fun y hy => hQ y (hp.mem_iff.1 (by simp [hy]))) (fun y hy => hQ y (hp.mem_iff.1 (by simp [hy]))) (hLt L (qaH ..)).2 hBk.r (by rw [q0g]) (by rw [q0g]; omega) (by rw [q0g]; omega) (by omega) (by rw [q0g]; omega)) rfl (by simp) ?_; clear S a; intro v60 G9 a w hv S; obtain ⟨R2, hR2, hsR2, rfl⟩ := hv; have lR2 := hR2.length_eq; rw [qaA] at lR2; have hpR2 : (Ms.flatten ++ R2).Perm X := (by refine (List.Perm.append_left _ hR2).trans ?_; refine List.Perm.trans ?_ hp; rw [qaF, List.flatten_nil, qaE]))
   revert a; revert Z; refine go 4 ?_; intro a S
   (refine wv S (q8r S rfl rfl rfl (by first | omega | (simp only [qaA, qaC, qaD]; omega))) ?_; clear S a; intro a S)
   revert a; refine go 2 ?_; intro a S
   change ∃ m', _ ∧ _
   exact u37
  revert a; revert Z; refine go 4 ?_; intro a S
  (refine wv S (q8r S rfl rfl rfl (by first | omega | (simp only [qaA, qaC, qaD]; omega))) ?_; clear S a; intro a S)
  revert a; refine go 2 ?_; intro a S
  change ∃ m', _ ∧ _
  exact u37
 (refine wp_exit ?_; conv => whnf)
 refine q1m S (q0x Tryz.results122) ?_
 exact ⟨Ls.flatten ++ R, hBk.p, hBk.fin (by omega), rfl⟩
theorem qwm (F : q01) (bd n cap : Nat) (T : TypeId) (fid : FuncId) (fi ca : List Value) [hfn : q0b Tryz.prog fid] (Q : Vr → Prop) (c : Vr → Vr → Int) (hC : qqp F fid fi ca Q c) (D : List Value) (X : List Vr) (hQ : ∀ x ∈ X, Q x) (hn : X.length = n) (hm : n ≤ 1000000000000) :
  Ct Tryz.prog 79 [.slice (some ⟨bd, 0, none⟩) n cap, .func (.func fid) ⟨fi⟩ ⟨ca⟩] F [[(bd, .cells ⟨q0n X ++ D⟩ T (0, 0))]]
   (fun _ G' u => ∃ Y : List Vr, Y.Perm X ∧ Srt (ltC c) Y ∧ G' = [[(bd, .cells ⟨q0n Y ++ D⟩ T (0, 0))]]) := by
 refine Ct.enter Tryz.func79 rfl Tryz.ntmps79 rfl fun w0 a S => ?_
 revert a; refine go 5 ?_; intro a S
 (refine q02 (Gs := [[(bd, .cells ⟨q0n X ++ D⟩ T (0, 0))]]) (Gr := []) S rfl rfl rfl rfl rfl rfl (u2o F bd n cap T fid fi ca Q c hC D X hQ hn hm) rfl (by simp) ?_; clear S a; intro v8 G9 a w hv S; obtain ⟨Y, hY, hYs, rfl⟩ := hv)
 refine wpList_nil ?_
 refine q1m S (q0x Tryz.results79) ?_
 exact ⟨Y, hY, hYs, rfl⟩
def RwR (F : q01) (r : Vf) (cs : List Value) : Prop := ∃ v, cs = [v] ∧ TrS F 4 VhR v r
instance : Mon RwR := ⟨fun hF ⟨v, h1, h2⟩ => ⟨v, h1, h2.mono hF⟩⟩
theorem qt4 (F : q01) (v : Value) (l : List Vf) (hv : LiM F 1 RwR v l) (fid : FuncId) (fi ca : List Value) [hfn : q0b Tryz.prog fid] (eq : Vf → Vf → Bool) (M : Vf → Prop) (hM : ∀ x ∈ l, M x)
  (hc : ∀ x y v1 v2, M x → M y → TrS F 4 VhR v1 x → TrS F 4 VhR v2 y → Ct Tryz.prog fid (fi ++ [v1, v2] ++ ca) F [] (fun _ _ u => u = .bool (eq x y))) (hne : ∀ k x y, l[k + 1]? = some x → l[k]? = some y → eq x y = false) :
  Ct Tryz.prog 80 [v, .func (.func fid) ⟨fi⟩ ⟨ca⟩] F [] (fun _ _ u => u = v) := by
 obtain ⟨ao, cap, rfl, hcap, hpos⟩ := hv
 refine Ct.enter Tryz.func80 rfl Tryz.ntmps80 rfl fun w0 a S => ?_
 revert a; refine go 11 ?_; intro Z hZ a S
 refine q00 S rfl ?_ ?_ <;> intro h
 ·revert a; refine go 5 ?_; intro a S
  refine wp_ret (fr1 S Tryz.results80 ?_)
  rfl
 revert a; revert Z; refine go 8 ?_; intro Z hZ a S
 refine q04 (fun q a' w' => ∃ (k : Nat), q = l.length - (k + 1) ∧ k + 1 ≤ l.length ∧ St 66 [(0, .slice ao l.length cap), (1, .func (.func fid) ⟨fi⟩ ⟨ca⟩), (5, .int .i64 ((k + 1 : Nat) : Int))] w0 F [] F [] a' w') ?_ ?_
 ·(refine ⟨_, 0, rfl, by omega, ?_⟩; refine S.keep ?_; exact zk)
 (clear S; rintro q a w ⟨k, rfl, hk, S⟩)
 revert a; refine go 8 ?_; intro Z hZ a S
 refine q00 S rfl ?_ ?_ <;> intro h
 ·revert a; revert Z; refine go 4 ?_; intro Z hZ a S
  (refine wp_seq_k ?_; intro Z hZ)
  (obtain ⟨b8, o8, hao, x, cs1, hx, hcc, v1, rfl, hT1⟩ := LiM.pos hpos (k := k + 1) (by omega); obtain ⟨b9, o9, hao2, y, cs2, hy, hcc2, v2, rfl, hT2⟩ := LiM.pos hpos (k := k) (by omega); rw [hao] at hao2; cases hao2; have hc1 : Cel F b8 (o8 + (k + 1) * 1) v1 := hcc 0 _ rfl; have hc2 : Cel F b8 (o8 + k * 1) v2 := hcc2 0 _ rfl; have hxy := hne k x y hx hy; rw [hao] at S)
  (refine q0k [0, 1, 2, 3, 4, 5, 6, 7, 8, 9] [4, 9] [] (.one 0 (.one 1 (.one 2 (.one 3 (.one 4 (.one 5 (.one 6 (.one 7 (.one 8 (.one 9 (.one 10 .nil))))))))))) [] S mixed (by kernel_rfl) ?_; clear S; intro w S)
  revert a; refine go 4 ?_; intro a S
  (refine wlF S rfl (fun w' S => q05 S rfl rfl hc1) ?_; clear S a; intro a S)
  revert a; refine go 2 ?_; intro a S
  first | (refine q19 S rfl rfl rfl (q06 _ rfl) rfl rfl (fun w' S => q12 (q := 1) S rfl rfl rfl (by omega)) ?_; clear S a; intro a S) | (refine q19 S rfl rfl rfl (q06 _ rfl) rfl rfl (fun w' S => q1a S rfl rfl rfl (by omega)) ?_; clear S a; intro a S)
  revert a; refine go 1 ?_; intro a S
  (refine wlF S rfl (fun w' S => q05 S rfl rfl hc2) ?_; clear S a; intro a S)
  refine q1q rfl rfl (kwa S) ?_
  (refine wc0 S (hc x y v1 v2 (hM x (List.mem_of_getElem? hx)) (hM y (List.mem_of_getElem? hy)) hT1 hT2) ?_; clear S a; intro v28 a w hv S; subst hv)
  revert a; revert Z; refine go 3 ?_; intro a S
  refine q0l S rfl (fun h => ?_) (fun h => ?_)
  ·(skip; (try simp only [tq] at h); simp_all)
  (try simp only [tq] at h)
  revert a; revert Z; refine go 7 ?_; intro a S
  change ∃ m', _ ∧ _
  (rw [← hao] at S; refine ⟨l.length - (k + 1 + 1), by omega, k + 1, rfl, by omega, ?_⟩; (refine S.keep ?_; exact zk))
 (refine wp_exit ?_; conv => whnf)
 clear hZ Z
 revert a; revert Z; refine go 6 ?_; intro a S
 refine wp_ret (fr1 S Tryz.results80 ?_)
 rfl
theorem u0r {p : Prop} (h : p := by (first | (rw [List.take_of_length_le (by rw [hkl]; omega)] at hla; have hxb : xb = [] := (by rw [List.drop_of_length_le (by rw [hkl]; omega)] at hlb; exact hlb); subst hxb; rw [qaE] at hown; exact ⟨_, rfl, qo6 hown hla hnd2 (by omega)⟩) | (obtain rfl := q9c (L := L) (by omega); exact ⟨[], rfl, TrS.nil _ _ _, 0, SpV.zero _ _ _ _⟩))) : p := h
theorem qxx : ∀ (n : Nat) (F : q01) (L : Vf) (v : Value), L.size ≤ n → L.len * 56 ≤ 140737488355328 → ThV L → TrS F 4 VhR v L → Ct Tryz.prog 78 [v] F [] (fun _ G' u => ∃ g, G' = [g] ∧ OwS g u L) := by
 intro n
 induction n using Nat.strongRecOn with
 | _ n ih =>
 intro F L v hn hb hth hT0
 have hK0 := qjc hT0
 obtain ⟨ao, cap, rfl, hcap, -⟩ := hT0
 have hkl : (kids L).length = L.len := q2w L
 refine Ct.enter Tryz.func78 rfl Tryz.ntmps78 rfl fun w0 a S => ?_
 revert a; refine go 11 ?_; intro Z hZ a S
 refine q00 S rfl ?_ ?_ <;> intro h
 ·revert a; refine go 4 ?_; intro a S
  refine wp_ret ?_
  (first | (have hnd2 := nd2 S; replace S := qc6 S) | (replace S := S.nilg))
  refine q08 S (q0c Tryz.results78 (RV.tmp S rfl)) ?_
  exact u0r
 revert a; revert Z; refine go 4 ?_; intro Z hZ a S
 (refine q2p (Gs := []) (Gr := []) S rfl rfl rfl rfl rfl rfl (qjj F _ _ hK0 (by rw [hkl]; exact hb)) rfl (by exact List.Perm.refl _) ?_; clear S a; intro vT F4 G9 a w hv hF4 S; obtain ⟨gT, xT, rfl, hown, hxT⟩ := hv; rw [hkl] at hown; (simp only [qaE] at S))
 revert a; revert Z; refine go 4 ?_; intro Z hZ a S
 (refine wp_seq_k ?_; intro Z hZ)
 (replace S : St _ _ _ _ _ F [gT] _ _ := ⟨S.fr, S.tr.shrink hF4 (fun _ _ h => h)⟩; have vTat := hown.at; obtain ⟨aT0, cT0, rfl, -, -, -⟩ := vTat)
 revert a; revert Z; refine go 7 ?_; intro a S
 refine q04 (fun m a w' => ∃ (i : Nat) (v : Value) (g gd : Grp) (xa xb : List Value), m = L.len - i ∧ i ≤ L.len ∧ q0u 45 4 v L.len (xa ++ xb) g ∧ xa.length = i * 4 ∧ LiC (gh gd) 4 RoS xa ((kids L).take i) ∧ LiC F 4 (RoR 4 VhR) xb ((kids L).drop i) ∧ St 27 [(3, v), (11, .int .i64 L.len), (12, .int .i64 i)] w0 F [] F [g, gd] a w') ?_ ?_
 ·(refine ⟨L.len, 0, _, gT, [], [], xT, by omega, Nat.zero_le _, hown, rfl, rfl, hxT, ?_⟩; replace S := qaq S.nilg; refine S.keep ?_; exact zk)
 (clear S hown hxT; rintro m a w ⟨i, v, g, gd, xa, xb, rfl, hil, hown, hxal, hla, hlb, S⟩)
 revert a; refine go 5 ?_; intro Z hZ a S
 refine q00 S rfl ?_ ?_ <;> intro h
 ·revert a; revert Z; refine go 9 ?_; intro Z hZ a S
  (obtain ⟨bT, capT, exT, rfl, rfl, hcq, hcm, hxl, hxe⟩ := qad hown (by omega); obtain ⟨x, hx⟩ : ∃ x, (kids L)[i]? = some x := ⟨_, List.getElem?_eq_getElem (by omega)⟩; have hdk : (kids L).drop i = x :: (kids L).drop (i + 1) := (by obtain ⟨h1, h2⟩ := List.getElem?_eq_some_iff.1 hx; rw [← h2]; exact List.drop_eq_getElem_cons h1); rw [hdk] at hlb; obtain ⟨cs1, xb, rfl, hl1, hR1, hlb⟩ := hlb; obtain ⟨c, w3, rfl, -, ⟨rfl, hsb⟩, hT3⟩ := hR1; (simp only [List.cons_append, qaG] at S hown hxl hxe hl1); have hxg := hx; rw [q6z] at hxg; have hxs := q1d.size_get hxg; obtain ⟨hx56, hxth⟩ := hth.get hxg)
  revert a; refine go 7 ?_; intro a S
  (refine wv S (q0f S rfl rfl (qic (cs := [_, _, _, _]) hxal (show 3 < 4 from by decide))) ?_; clear S a; intro a S)
  (refine q2p (Gs := []) (Gr := [[(bT, _)], gd]) S rfl rfl rfl rfl rfl rfl (ih x.2.size (by omega) F x.2 _ (Nat.le_refl _) hx56 hxth hT3) rfl (by exact List.Perm.refl _) ?_; clear S a; intro u5 F5 G9 a w hv hF5 S; obtain ⟨g5, rfl, hO5⟩ := hv; replace S := qw9 ⟨S.fr, S.tr.shrink hF5 (fun _ _ h => h)⟩; have hnd := qj2 S; have hla2 : LiC (gh (g5 ++ gd)) 4 RoS _ ((kids L).take (i + 1)) := (by rw [List.take_add_one, hx]; exact LiC.app (hla.mono fun _ _ h => q4u hnd h) (LiC.one rfl (RoS.mk4 hsb (TrS.mono (fun _ _ h => q5i h) hO5.r) (hO5.s.imp fun _ h => h.mono fun _ _ h => q5i h)))))
  revert a; refine go 2 ?_; intro a S
  (refine q0e S rfl rfl rfl rfl rfl (by obtain ⟨a5, c5, e5, -⟩ := hO5.r; rw [e5]; rfl) (by simp only [qaA, qaC, qaD]; omega) ?_; clear S; intro w S; rw [show (xa ++ (.int .u8 (x.1.k : Int) :: .int .i64 x.1.n :: .string (bs x.1.s) :: w3 :: xb) ++ exT).set (0 + i * 4 + 3) u5 = ((xa ++ [.int .u8 (x.1.k : Int), .int .i64 x.1.n, .string (bs x.1.s), u5]) ++ xb) ++ exT from set_mid (cs := [_, _, _, w3]) hxal (show 3 < 4 from by decide)] at S)
  revert a; revert Z; refine go 6 ?_; intro a S
  change ∃ m', _ ∧ _
  (refine ⟨L.len - (i + 1), by omega, i + 1, _, _, g5 ++ gd, xa ++ [.int .u8 (x.1.k : Int), .int .i64 x.1.n, .string (bs x.1.s), u5], xb, rfl, by omega, q96 (b := bT) (cap := capT) (ex := exT) (by simp only [qaA, qaC, qaD] at hxl ⊢; omega) hcq hcm (by simp only [qaA, qaC, qaD] at hxe ⊢; omega), by simp only [qaA, qaC, qaD]; omega, hla2, hlb, ?_⟩; refine S.keep ?_; exact zk)
 (refine wp_exit ?_; conv => whnf)
 clear hZ Z
 revert a; revert Z; refine go 6 ?_; intro a S
 refine wp_ret ?_
 (first | (have hnd2 := nd2 S; replace S := qc6 S) | (replace S := S.nilg))
 refine q08 S (q0c Tryz.results78 (RV.tmp S rfl)) ?_
 exact u0r
def qzl (x y : Vr) : Int := cmpL x.2 y.2
theorem u0f : Lt fun x y : Vr => decide (qzl x y < 0) where
 tr := fun {x y z} h1 h2 => by
  have a := of_decide_eq_false h1
  have b := of_decide_eq_false h2
  unfold qzl at *
  have t := (q7v x.2 y.2 z.2).t
  have e1 := q2g x.2 y.2
  have e2 := q2g y.2 z.2
  have e3 := q2g x.2 z.2
  exact decide_eq_false (by have := t (by omega) (by omega); omega)
 asy := fun {x y} h => by
  have a := of_decide_eq_true h
  unfold qzl at *
  have e1 := q2g x.2 y.2
  exact decide_eq_false (by omega)
theorem qr6 (F : q01) : qqp F 40 [] [] (fun x => TrS F 4 VhR x.1 x.2 ∧ qar x.2 = true) qzl where
 ct := fun x y hx hy => by
  have h := q9m F x.2 y.2 x.1 y.1 hx.1 hy.1
  rw [if_pos ⟨hx.2, hy.2⟩] at h
  exact h
 one := fun x hx => by obtain ⟨_, _, e, -⟩ := hx.1; rw [e]; rfl
 ord := u0f
theorem qw3 (F : q01) (x y : Vf) (v1 v2 : Value) (h1 : TrS F 4 VhR v1 x) (h2 : TrS F 4 VhR v2 y) (m1 : qar x = true) (m2 : qar y = true) : Ct Tryz.prog 81 [v1, v2] F [] (fun _ _ u => u = .bool (decide (cmpL x y = 0))) := by
 have h := q9m F x y v1 v2 h1 h2
 rw [if_pos ⟨m1, m2⟩] at h
 refine Ct.enter Tryz.func81 rfl Tryz.ntmps81 rfl fun w0 a S => ?_
 revert a; refine go 7 ?_; intro Z hZ a S
 (refine wc0 S h ?_; clear S a; intro v7 a w hv S; subst hv)
 revert a; revert Z; refine go 4 ?_; intro a S
 refine wp_ret (fr1 S Tryz.results81 ?_)
 congr 1
theorem qyi {F : q01} {b cap n : Nat} {e : TypeId} {Y : List Vr} {D : List Value} (hb : F b = some (.cells ⟨q0n Y ++ D⟩ e (0, 0))) (h : ∀ x ∈ Y, TrS F 4 VhR x.1 x.2) (hl : Y.length = n) (hc : n ≤ cap) (hm : n ≤ 140737488355328) : LiM F 1 RwR (.slice (some ⟨b, 0, none⟩) n cap) (Y.map (·.2)) := by
 subst hl
 refine ⟨_, cap, by rw [List.length_map], by rw [List.length_map]; exact ⟨hc, hm⟩, fun _ => ⟨b, 0, rfl, fun k r hr => ?_⟩⟩
 rw [List.getElem?_map] at hr
 obtain ⟨x, hx, rfl⟩ := Option.map_eq_some_iff.1 hr
 refine ⟨[x.1], fun j u hj => ?_, rfl, x.1, rfl, h x (List.mem_of_getElem? hx)⟩
 match j, hj with
 | 0, hj =>
  cases hj
  have h2 := q80 (P := []) (D := D) hx
  simp only [qaG, qaD] at h2
  exact ⟨_, _, _, hb, by simpa using h2⟩
theorem qxg {l : List Vf} (hnd : l.Nodup) (hz : ∀ x ∈ l, ∀ y ∈ l, cmpL x y = 0 → x = y) : ∀ k x y, l[k + 1]? = some x → l[k]? = some y → decide (cmpL x y = 0) = false := fun k x y hx hy => by
 refine decide_eq_false fun e => ?_
 have := hz x (List.mem_of_getElem? hx) y (List.mem_of_getElem? hy) e
 subst this
 obtain ⟨h1, e1⟩ := List.getElem?_eq_some_iff.1 hx
 obtain ⟨h2, e2⟩ := List.getElem?_eq_some_iff.1 hy
 exact List.pairwise_iff_getElem.1 hnd k (k + 1) h2 h1 (by omega) (by rw [e1, e2])
theorem q4p : ∀ {r : Vf}, (q13 r).isSome = true → qar r = true ∧ q29 r = true
 | .nil, _ => ⟨rfl, rfl⟩
 | .cons h L r, hs => by
  unfold q13 at hs
  by_cases hc : q2e h L = 0
  ·rw [if_pos hc] at hs
   have hs2 : (q13 r).isSome = true := by cases hr : q13 r with | none => rw [hr] at hs; cases hs | some _ => rfl
   obtain ⟨h1, h2⟩ := q4p hs2
   obtain ⟨h3, h4⟩ := q38 hc
   refine ⟨?_, ?_⟩
   ·unfold qar at h1 ⊢
    rw [show qrs (fun h L => !q3q (h, L)) (.cons h L r) = (!q3q (h, L) || qrs (fun h L => !q3q (h, L)) r) from rfl, show q3q (h, L) = true from decide_eq_true hc]
    simpa using h1
   ·rw [q24, h3, h4, h2]; rfl
  ·rw [if_neg hc] at hs; cases hs
theorem qb6 {aggs : List (List UInt8)} {x : GA} (hI : GInv aggs x) : (x.map (·.2.key)).Nodup := by
 have h1 := hI.nd
 have h2 := hI.all
 clear hI
 induction x with
 | nil => exact List.nodup_nil
 | cons p r ih =>
  rw [List.map_cons, List.nodup_cons] at h1 ⊢
  refine ⟨fun hm => ?_, ih h1.2 fun q hq => h2 q (List.mem_cons_of_mem _ hq)⟩
  obtain ⟨q, hq, e⟩ := List.mem_map.1 hm
  have k1 := (h2 p (qaH ..)).key
  have k2 := (h2 q (List.mem_cons_of_mem _ hq)).key
  rw [e, k1] at k2
  exact h1.1 (List.mem_map.2 ⟨q, hq, (Option.some.inj k2).symm⟩)
theorem qki (l : Vf) : q15 l l = true := by
 have := qnd (x := ((⟨0, 0, []⟩, l) : Vv)) (y := (⟨0, 0, []⟩, l))
 have h := this.2 rfl
 unfold qhd at h
 rw [Bool.and_eq_true] at h
 exact h.2
theorem qjy (F : q01) (l : List Vf) (v u : Value) (hv : LiM F 1 RwR v l) (hu : LiM F 1 RwR u l) : Ct Tryz.prog 13 [v, u] F [] (fun _ _ u => u = .bool true) := by
 obtain ⟨ao, cap, rfl, hcap, hpos⟩ := hv
 obtain ⟨ao2, cap2, rfl, hcap2, hpos2⟩ := hu
 refine Ct.enter Tryz.func13 rfl Tryz.ntmps13 rfl fun w0 a S => ?_
 revert a; refine go 10 ?_; intro Z hZ Z hZ a S
 (refine wv S (q0j (c := false) (q09 S rfl) (by simp)) ?_; clear S a; intro a S)
 revert a; revert Z; refine go 2 ?_; intro a S
 refine q03 S rfl ?_
 revert a; revert Z; refine go 8 ?_; intro Z hZ a S
 refine q04 (fun q a' w' => ∃ (k : Nat), q = l.length - k ∧ k ≤ l.length ∧ St 27 [(0, .slice ao l.length cap), (1, .slice ao2 l.length cap2), (5, .int .i64 (k : Nat))] w0 F [] F [] a' w') ?_ ?_
 ·(refine ⟨_, 0, rfl, Nat.zero_le _, ?_⟩; refine S.keep ?_; exact zk)
 (clear S; rintro q a w ⟨k, rfl, hk, S⟩)
 revert a; refine go 8 ?_; intro Z hZ a S
 refine q00 S rfl ?_ ?_ <;> intro h
 ·revert a; revert Z; refine go 4 ?_; intro Z hZ a S
  (refine wp_seq_k ?_; intro Z hZ)
  (obtain ⟨b8, o8, hao, x, cs1, hx, hcc, v1, rfl, hT1⟩ := LiM.pos hpos (k := k) (by omega); obtain ⟨b9, o9, hao2, y, cs2, hy, hcc2, v2, rfl, hT2⟩ := LiM.pos hpos2 (k := k) (by omega); rw [hx] at hy; cases hy; have hc1 : Cel F b8 (o8 + k * 1) v1 := hcc 0 _ rfl; have hc2 : Cel F b9 (o9 + k * 1) v2 := hcc2 0 _ rfl; rw [hao, hao2] at S)
  (refine q0k [0, 1, 2, 3, 4, 5, 6, 7, 9] [3, 7] [] (.one 0 (.one 1 (.one 2 (.one 3 (.one 4 (.one 5 (.one 6 (.one 7 (.one 8 (.one 9 .nil)))))))))) [] S mixed (by kernel_rfl) ?_; clear S; intro w S)
  revert a; refine go 3 ?_; intro a S
  (refine wlF S rfl (fun w' S => q05 S rfl rfl hc1) ?_; clear S a; intro a S)
  revert a; refine go 3 ?_; intro a S
  (refine wlF S rfl (fun w' S => q05 S rfl rfl hc2) ?_; clear S a; intro a S)
  refine q1q rfl rfl (kwa S) ?_
  (refine wc0 S (q25 (q4z x.size) F x x v1 v2 (Nat.le_refl _) hT1 hT2) ?_; clear S a; intro v25 a w hv S; rw [qki] at hv; subst hv)
  refine wpList_nil ?_
  (refine q19 S rfl rfl rfl (q06 _ rfl) rfl rfl (fun w' S => q0j (c := false) (q09 S rfl) (by rfl)) ?_; clear S a; intro a S)
  revert a; revert Z; refine go 2 ?_; intro a S
  refine q03 S rfl ?_
  revert a; revert Z; refine go 7 ?_; intro a S
  change ∃ m', _ ∧ _
  (rw [← hao, ← hao2] at S; refine ⟨l.length - (k + 1), by omega, k + 1, rfl, by omega, ?_⟩; (refine S.keep ?_; exact zk))
 (refine wp_exit ?_; conv => whnf)
 clear hZ Z
 revert a; revert Z; refine go 5 ?_; intro a S
 refine wp_ret (fr1 S Tryz.results13 ?_)
 rfl
def qut (aggs : List (List UInt8)) (ws : List (List UInt8 × Vf)) : Int × Vf :=
 match (List.range aggs.length).find? (fun i => decide ((q43 aggs ws i).1 ≠ 0)) with
 | some i => ((q43 aggs ws i).1, .nil)
 | none => (0, q1s ((List.range aggs.length).map fun i => (q43 aggs ws i).2))
theorem qbr {aggs : List (List UInt8)} {ws : List (List UInt8 × Vf)} {i : Nat} (hi : i < aggs.length) (h0 : (q43 aggs ws i).1 ≠ 0) (h : ∀ j, j < i → (q43 aggs ws j).1 = 0) : qut aggs ws = ((q43 aggs ws i).1, .nil) := by
 have : (List.range aggs.length).find? (fun i => decide ((q43 aggs ws i).1 ≠ 0)) = some i := by
  rw [List.find?_range_eq_some]
  exact ⟨decide_eq_true h0, List.mem_range.2 hi, fun j hj => by simp [h j hj]⟩
 unfold qut
 rw [this]
theorem qpo {aggs : List (List UInt8)} {ws : List (List UInt8 × Vf)} (h : ∀ j, j < aggs.length → (q43 aggs ws j).1 = 0) : qut aggs ws = (0, q1s ((List.range aggs.length).map fun i => (q43 aggs ws i).2)) := by
 have : (List.range aggs.length).find? (fun i => decide ((q43 aggs ws i).1 ≠ 0)) = none := by
  rw [List.find?_eq_none]
  intro j hj
  simp [h j (List.mem_range.1 hj)]
 unfold qut
 rw [this]
def qna (aggs : List (List UInt8)) (x : GA) (k : Vf) : Int × Vf := match q13 k with
 | some t => (match alG x t with | some e => qut aggs e.ways | none => (5, .nil))
 | none => (4, .nil)
theorem qgn {aggs : List (List UInt8)} {x : GA} (hI : GInv aggs x) {p : List UInt8 × En} (hp : p ∈ x) : alG x p.1 = some p.2 := by
 obtain ⟨x1, x2, rfl⟩ := List.append_of_mem hp
 refine q9t fun q hq => fun e => ?_
 have h := hI.nd
 rw [List.map_append, List.map_cons, List.nodup_append] at h
 exact h.2.2 q.1 (List.mem_map_of_mem hq) p.1 (qaH ..) e
def lwL : Vf → Nat
 | .nil => 0
 | .cons h L r => 1 + h.s.length / 50 + lwL L + lwL r
def lwV (h : VH) (L : Vf) : Nat := 1 + h.s.length / 50 + lwL L
theorem u1n {p : Prop} (h : p := by (rw [← hao] at S; refine ⟨L.len - (k + 1), by omega, k + 1, p + p9, s + lwV x.1 x.2, rfl, by omega, by omega, by omega, by omega, ?_⟩; refine S.keep ?_; exact zk)) : p := h
theorem qsz {p : Prop} (h : p := by (first | (have hz : lwL (L.drop k) = 0 := (by rw [q1d.drop_len (by omega)]; rfl); exact ⟨p, rfl, by omega, hpb⟩) | (exact ⟨p, rfl, by omega, hpb⟩))) : p := h
theorem qnl (F : q01) : ∀ (n : Nat) (h : VH) (L : Vf) (v : Value) (most : Nat), L.size ≤ n → most ≤ 1000000 → h.s.length ≤ 140737488355328 → TrS F 4 VhR v L → Ct Tryz.prog 47 [.agg ⟨[.int .u8 (h.k : Int), .int .i64 h.n, .string (bs h.s), v]⟩, .int .i64 (most : Int)] F [] (fun _ _ u => ∃ p : Nat, u = .int .i64 (p : Int) ∧ (p < most → p = lwV h L) ∧ p ≤ most + 4398046511104) := by
 intro n
 induction n using Nat.strongRecOn with
 | _ n ih =>
 intro h L v most hn hmost hlen hT
 obtain ⟨ao, cap, rfl, hcap, hpos⟩ := hT
 have hq : h.s.length / 50 ≤ 2814749767107 := by omega
 refine Ct.enter Tryz.func47 rfl Tryz.ntmps47 rfl fun w0 a S => ?_
 refine q1i fun Z hZ => ?_
 (refine wbx S ?_; clear S a; intro b2 a w S)
 revert a; revert Z; refine go 7 ?_; intro Z hZ a S
 (refine wv S (q5n S rfl rfl rfl (by first | omega | (simp only [qaA, qaC, qaD]; omega))) ?_; clear S a; intro a S)
 revert a; refine go 1 ?_; intro a S
 (rw [show ((1 : Int) + (h.s.length : Int) / 50) = ((1 + h.s.length / 50 : Nat) : Int) by omega] at S)
 revert a; revert Z; refine go 9 ?_; intro Z hZ a S
 refine q04 (fun m a w' => ∃ (k p s : Nat), m = L.len - k ∧ k ≤ L.len ∧ s + lwL (L.drop k) = lwV h L ∧ (p < most → p = s) ∧ p ≤ most + 4398046511104 ∧ St 36 [(1, .int .i64 (most : Int)), (2, ptr b2), (5, .int .i64 (p : Int)), (6, .int .i64 k)] w0 F [] F [[(b2, .cells ⟨[.int .u8 (h.k : Int), .int .i64 h.n, .string (bs h.s), .slice ao L.len cap]⟩ 45 (0, 0))]] a w') ?_ ?_
 ·(refine ⟨L.len, 0, 1 + h.s.length / 50, 1 + h.s.length / 50, by omega, Nat.zero_le _, rfl, fun _ => rfl, by omega, ?_⟩; refine S.keep ?_; exact zk)
 (clear S; rintro m a w ⟨k, p, s, rfl, hkl, hs, hp, hpb, S⟩)
 revert a; refine go 8 ?_; intro Z hZ Z hZ a S
 refine wgd S ?_ ?_
 ·(clear S; intro h S)
  revert a; revert Z; refine go 8 ?_; intro a S
  refine q00 S rfl ?_ ?_ <;> intro h
  ·revert a; revert Z; refine go 4 ?_; intro Z hZ a S
   (obtain ⟨b8, o8, hao, x, cs1, v1, hx, hc1, ⟨rfl, hsl⟩, hT1⟩ := TrM.pos hpos (k := k) (by omega); rw [hao] at S; have hxs := q1d.size_get hx; have hdz : lwL (L.drop k) = lwV x.1 x.2 + lwL (L.drop (k + 1)) := (by rw [q1d.drop_get hx]; rfl))
   revert a; refine go 6 ?_; intro a S
   (refine wv S (q18 S rfl rfl hc1 (by rfl)) ?_; clear S a; intro a S)
   revert a; refine go 3 ?_; intro a S
   (rw [show ((most : Int) - (p : Int)) = ((most - p : Nat) : Int) by omega] at S)
   (refine wc0 S (ih x.2.size (by omega) x.1 x.2 _ (most - p) (Nat.le_refl _) (by omega) hsl hT1) ?_; clear S a; intro v a w hv S; obtain ⟨p9, rfl, hp9, hp9b⟩ := hv)
   revert a; revert Z; refine go 9 ?_; intro a S
   change ∃ m', _ ∧ _
   exact u1n
  (refine wp_exit ?_; conv => whnf)
  clear hZ Z
  revert a; revert Z; refine go 6 ?_; intro a S
  refine wp_ret (fr1 S Tryz.results47 ?_)
  exact qsz
 (clear S a; intro h a S)
 revert a; revert Z; refine go 5 ?_; intro a S
 refine q03 S rfl ?_
 (refine wp_exit ?_; conv => whnf)
 clear hZ Z
 revert a; revert Z; refine go 6 ?_; intro a S
 refine wp_ret (fr1 S Tryz.results47 ?_)
 exact qsz
theorem qu2 {l : Vf} {k : Nat} {x : VH × Vf} (h : l.get? k = some x) : lwL (l.drop k) = lwV x.1 x.2 + lwL (l.drop (k + 1)) := by rw [q1d.drop_get h]; rfl
theorem u49 : ∀ l : Vf, wtB l ≤ 236 * lwL l ∧ l.len ≤ lwL l
 | .nil => ⟨Nat.le_refl _, Nat.le_refl _⟩
 | .cons h L r => by
  have h1 := u49 L
  have h2 := u49 r
  refine ⟨?_, ?_⟩
  ·show (wtH h + wtB L) + wtB r ≤ 236 * (1 + h.s.length / 50 + lwL L + lwL r)
   unfold wtH
   omega
  ·show r.len + 1 ≤ 1 + h.s.length / 50 + lwL L + lwL r
   omega
theorem qz0 : ∀ l : Vf, lwL l ≤ 1000000 → ThV l
 | .nil, _ => trivial
 | .cons h L r, hl => by
  have h0 : lwL (.cons h L r) = 1 + h.s.length / 50 + lwL L + lwL r := rfl
  have h1 := (u49 L).2
  exact ⟨by omega, qz0 L (by omega), qz0 r (by omega)⟩
theorem qop {l : Vf} (h : lwL l ≤ 1000) (hr : RgF l) : q2r l := by
 have h1 := u49 l
 exact ⟨hr, by omega, qz0 l (by omega), by omega⟩
def OpG (x : OpD) : Prop := RgF x.key ∧ RgF x.way ∧ RgF x.args
def OpB (x : OpD) : Prop := q2r x.key ∧ q2r x.way ∧ q2r x.args
def lwO (x : OpD) : Nat := 2 + lwL x.key + lwL x.way + lwL x.args
def lwS (l : List OpD) : Nat := (l.map lwO).sum
theorem qt8 {l : List OpD} {k : Nat} {x : OpD} (h : l[k]? = some x) : lwS (l.drop k) = lwO x + lwS (l.drop (k + 1)) := by
 obtain ⟨h1, rfl⟩ := List.getElem?_eq_some_iff.1 h
 unfold lwS
 rw [List.drop_eq_getElem_cons h1, List.map_cons, List.sum_cons]
theorem qei : ∀ {l : List OpD}, lwS l ≤ 1000 → (∀ x ∈ l, OpG x) → l.length ≤ 500 ∧ ∀ x ∈ l, OpB x
 | [], _, _ => ⟨Nat.zero_le _, fun x h => by cases h⟩
 | x :: r, h, hg => by
  have h0 : lwS (x :: r) = 2 + lwL x.key + lwL x.way + lwL x.args + lwS r := rfl
  have hr := qei (l := r) (by omega) fun y hy => hg y (List.mem_cons_of_mem _ hy)
  have h9 : ∀ l : List OpD, 2 * l.length ≤ lwS l := by
   intro l
   induction l with
   | nil => exact Nat.le_refl _
   | cons y q ih => have : lwS (y :: q) = 2 + lwL y.key + lwL y.way + lwL y.args + lwS q := rfl; rw [qaC]; omega
  have h8 := h9 (x :: r)
  refine ⟨by omega, fun y hy => ?_⟩
  rcases List.mem_cons.1 hy with rfl | hy
  ·obtain ⟨g1, g2, g3⟩ := hg y (qaH ..)
   exact ⟨qop (by omega) g1, qop (by omega) g2, qop (by omega) g3⟩
  ·exact hr.2 y hy
theorem qmr (F : q01) (L : Vf) (v : Value) (hT : TrS F 4 VhR v L) : Ct Tryz.prog 29 [v] F [] (fun _ _ u => ∃ p : Nat, u = .int .i64 (p : Int) ∧ (p < 800 → p = lwL L) ∧ p ≤ 4398046520000) := by
 obtain ⟨ao, cap, rfl, hcap, hpos⟩ := hT
 refine Ct.enter Tryz.func29 rfl Tryz.ntmps29 rfl fun w0 a S => ?_
 revert a; refine go 14 ?_; intro Z hZ a S
 refine q04 (fun m a w' => ∃ (k p s : Nat), m = L.len - k ∧ k ≤ L.len ∧ s + lwL (L.drop k) = lwL L ∧ (p < 800 → p = s) ∧ p ≤ 4398046520000 ∧ St 23 [(0, .slice ao L.len cap), (3, .int .i64 (p : Int)), (4, .int .i64 k)] w0 F [] F [] a w') ?_ ?_
 ·(refine ⟨L.len, 0, 0, 0, by omega, Nat.zero_le _, Nat.zero_add _, fun _ => rfl, by omega, ?_⟩; refine S.keep ?_; exact zk)
 (clear S; rintro m a w ⟨k, p, s, rfl, hkl, hs, hp, hpb, S⟩)
 revert a; refine go 7 ?_; intro Z hZ Z hZ a S
 refine wgd S ?_ ?_
 ·(clear S; intro h S)
  revert a; revert Z; refine go 6 ?_; intro a S
  refine q00 S rfl ?_ ?_ <;> intro h
  ·revert a; revert Z; refine go 4 ?_; intro Z hZ a S
   (obtain ⟨b8, o8, hao, x, cs1, v1, hx, hc1, ⟨rfl, hsl⟩, hT1⟩ := TrM.pos hpos (k := k) (by omega); rw [hao] at S; have hdz := qu2 hx)
   revert a; refine go 5 ?_; intro a S
   (refine wv S (q18 S rfl rfl hc1 (by rfl)) ?_; clear S a; intro a S)
   (refine wc0 S (qnl F x.2.size x.1 x.2 _ 800 (Nat.le_refl _) (by decide) hsl hT1) ?_; clear S a; intro v a w hv S; obtain ⟨p9, rfl, hp9, hp9b⟩ := hv)
   revert a; revert Z; refine go 9 ?_; intro a S
   change ∃ m', _ ∧ _
   exact u1n
  (refine wp_exit ?_; conv => whnf)
  clear hZ Z
  revert a; revert Z; refine go 6 ?_; intro a S
  refine wp_ret (fr1 S Tryz.results29 ?_)
  exact qsz
 (clear S a; intro h a S)
 revert a; revert Z; refine go 4 ?_; intro a S
 refine q03 S rfl ?_
 (refine wp_exit ?_; conv => whnf)
 clear hZ Z
 revert a; revert Z; refine go 6 ?_; intro a S
 refine wp_ret (fr1 S Tryz.results29 ?_)
 exact qsz
theorem qzt {p : Prop} (h : p := by (first | (have hz : lwS (l.drop k) = 0 := (by rw [List.drop_of_length_le (by omega)]; rfl); exact ⟨_, rfl, fun hb => by have := of_decide_eq_false hb; omega⟩) | (exact ⟨_, rfl, fun hb => by have := of_decide_eq_false hb; omega⟩))) : p := h
theorem qos (F : q01) (l : List OpD) (v : Value) (h : LiM F 4 OpR v l) : Ct Tryz.prog 7 [v] F [] (fun _ _ u => ∃ b : Bool, u = .bool b ∧ (b = false → lwS l < 800)) := by
 obtain ⟨ao, cap, rfl, hcap, hpos⟩ := h
 refine Ct.enter Tryz.func7 rfl Tryz.ntmps7 rfl fun w0 a S => ?_
 revert a; refine go 14 ?_; intro Z hZ a S
 refine q04 (fun m a w' => ∃ (k p s : Nat), m = l.length - k ∧ k ≤ l.length ∧ s + lwS (l.drop k) = lwS l ∧ (p < 800 → p = s) ∧ p ≤ 14398046520000 ∧ St 40 [(0, .slice ao l.length cap), (3, .int .i64 (p : Int)), (4, .int .i64 k)] w0 F [] F [] a w') ?_ ?_
 ·(refine ⟨l.length, 0, 0, 0, by omega, Nat.zero_le _, Nat.zero_add _, fun _ => rfl, by omega, ?_⟩; refine S.keep ?_; exact zk)
 (clear S; rintro m a w ⟨k, p, s, rfl, hkl, hs, hp, hpb, S⟩)
 revert a; refine go 7 ?_; intro Z hZ Z hZ a S
 refine wgd S ?_ ?_
 ·(clear S; intro h S)
  revert a; revert Z; refine go 6 ?_; intro a S
  refine q00 S rfl ?_ ?_ <;> intro h
  ·revert a; revert Z; refine go 4 ?_; intro Z hZ a S
   (obtain ⟨b8, o8, hao, x, cs1, hx, hcc, v1, v2, v3, rfl, hT1, hT2, hT3⟩ := LiM.pos hpos (k := k) (by omega); rw [hao] at S; have hc1 : Cel F b8 (o8 + k * 4 + 1) v1 := hcc 1 _ rfl; have hc2 : Cel F b8 (o8 + k * 4 + 2) v2 := hcc 2 _ rfl; have hc3 : Cel F b8 (o8 + k * 4 + 3) v3 := hcc 3 _ rfl; have hdz := qt8 hx; have hlo : lwO x = 2 + lwL x.key + lwL x.way + lwL x.args := rfl)
   (refine q0k [0, 1, 2, 3, 4, 5, 6, 8, 9, 10, 11, 12, 13, 15, 16, 17, 18, 19, 20, 22] [6, 13, 20] [] (.one 0 (.one 1 (.one 2 (.one 3 (.one 4 (.one 5 (.one 6 (.one 9 (.one 10 (.one 11 (.one 12 (.one 13 (.one 16 (.one 17 (.one 18 (.one 19 (.one 20 (.one 7 (.one 8 (.one 14 (.one 15 (.one 21 (.one 22 (.one 23 .nil)))))))))))))))))))))))) [] S mixed (by kernel_rfl) ?_; clear S; intro w S)
   revert a; refine go 6 ?_; intro a S
   (refine wlF S rfl (fun w' S => q05 S rfl rfl hc1) ?_; clear S a; intro a S)
   revert a; refine go 4 ?_; intro a S
   (refine wlF S rfl (fun w' S => q05 S rfl rfl hc2) ?_; clear S a; intro a S)
   revert a; refine go 4 ?_; intro a S
   (refine wlF S rfl (fun w' S => q05 S rfl rfl hc3) ?_; clear S a; intro a S)
   refine q1q rfl rfl (kwa S) ?_
   (refine wc0 S (qmr F x.key v1 hT1) ?_; clear S a; intro v a w hv S; obtain ⟨p1, rfl, hp1, hp1b⟩ := hv)
   revert a; refine go 3 ?_; intro a S
   (refine wc0 S (qmr F x.way v2 hT2) ?_; clear S a; intro v a w hv S; obtain ⟨p2, rfl, hp2, hp2b⟩ := hv)
   revert a; refine go 3 ?_; intro a S
   (refine wc0 S (qmr F x.args v3 hT3) ?_; clear S a; intro v a w hv S; obtain ⟨p3, rfl, hp3, hp3b⟩ := hv)
   revert a; revert Z; refine go 12 ?_; intro a S
   change ∃ m', _ ∧ _
   (rw [← hao] at S; refine ⟨l.length - (k + 1), by omega, k + 1, p + 2 + p1 + p2 + p3, s + lwO x, rfl, by omega, by omega, by omega, by omega, ?_⟩; refine S.keep ?_; exact zk)
  (refine wp_exit ?_; conv => whnf)
  clear hZ Z
  revert a; revert Z; refine go 7 ?_; intro a S
  refine wp_ret (fr1 S Tryz.results7 ?_)
  exact qzt
 (clear S a; intro h a S)
 revert a; revert Z; refine go 4 ?_; intro a S
 refine q03 S rfl ?_
 (refine wp_exit ?_; conv => whnf)
 clear hZ Z
 revert a; revert Z; refine go 7 ?_; intro a S
 refine wp_ret (fr1 S Tryz.results7 ?_)
 exact qzt
theorem qvw {n : Int} (h : (Lit.int .u8 n).wf = true) : ∃ k : Nat, n = (k : Int) := by
 simp only [Lit.wf, Bool.and_eq_true, decide_eq_true_eq] at h
 have : (IntKind.u8).min = 0 := by decide
 exact ⟨n.toNat, by omega⟩
def Qv (x : VH × Vf) : Prop := (-9223372036854775808 ≤ x.1.n ∧ x.1.n ≤ 9223372036854775807) ∧ RgF x.2
theorem qg5 : ∀ {l : List (VH × Vf)}, (∀ x ∈ l, Qv x) → RgF (q1s l)
 | [], _ => trivial
 | x :: r, h => ⟨(h x (qaH ..)).1, (h x (qaH ..)).2, qg5 fun y hy => h y (List.mem_cons_of_mem _ hy)⟩
section
variable {H : Type} {enc : TypeId × Value → H} {w : World} {spare : Nat → Bool} {held : Bool}
theorem u03 (m : Nat) : Opn enc Tryz.prog w spare held m 9 (fun cs => ∃ s : List UInt8, cs = [.string (bs s)] ∧ s.length ≤ 140737488355328) := qkv Tryz.underlying9
theorem u6a (m : Nat) : Opn enc Tryz.prog w spare held m 5 (fun cs => ∃ n, cs = [.int .u8 n] ∧ (Lit.int .u8 n).wf = true) := qnm Tryz.underlying5
theorem u2x (m : Nat) : Opn enc Tryz.prog w spare held m 22 (fun cs => ∃ v l, cs = [v] ∧ LiM (q3g w) 1 StR v l) :=
 q7t Tryz.underlying22 (by kernel_rfl) (by decide) (by kernel_rfl) ((u03 m).imp fun cs ⟨s, h, _⟩ => by subst h; exact ⟨rfl, s, rfl⟩)
theorem qug : ∀ m, Opn enc Tryz.prog w spare held m 45 (fun cs => cs.length = 4 ∧ ∃ x, RoR 4 VhR (q3g w) x cs ∧ Qv x)
 | 0 => fun _ _ _ _ h => absurd h (Nat.not_lt_zero _)
 | m + 1 => (qba Tryz.underlying45 (by kernel_rfl) (.cons (u6a m) (.cons (u4t m) (.cons (u03 m) (.cons (q7t (R := fun F x cs => RoR 4 VhR F x cs ∧ Qv x) Tryz.underlying32 (by kernel_rfl) (by decide) (by kernel_rfl) (qug m)) .nil))))).imp fun cs ⟨a, b, e, ⟨k, h1, hk⟩, a2, b2, e2, ⟨n, h2, hn⟩, a3, b3, e3, ⟨s, h3, hs⟩, a4, b4, e4, ⟨v, l, h4, h5⟩, e5⟩ => by
  obtain ⟨k, rfl⟩ := qvw hk
  subst e; subst h1; subst e2; subst h2; subst e3; subst h3; subst e4; subst h4; subst e5
  exact ⟨rfl, (⟨k, n, s⟩, q1s l), ⟨_, v, rfl, rfl, ⟨rfl, hs⟩, q8c (q86 h5).1⟩, bounds_i64 hn, qg5 (q86 h5).2⟩
theorem qqf (m : Nat) : Opn enc Tryz.prog w spare held m 32 (fun cs => ∃ v r, cs = [v] ∧ TrS (q3g w) 4 VhR v r ∧ RgF r) :=
 (q7t (R := fun F x cs => RoR 4 VhR F x cs ∧ Qv x) Tryz.underlying32 (by kernel_rfl) (by decide) (by kernel_rfl) (qug m)).imp fun cs ⟨v, l, h, h2⟩ => ⟨v, q1s l, h, q8c (q86 h2).1, qg5 (q86 h2).2⟩
theorem uc7 (m : Nat) : Opn enc Tryz.prog w spare held m 34 (fun cs => cs.length = 4 ∧ ∃ x, OpR (q3g w) x cs ∧ OpG x) :=
  ((qba (m := m) Tryz.underlying34 (by kernel_rfl) (.cons (u6a m) (.cons (qqf m) (.cons (qqf m) (.cons (qqf m) .nil))))).lt (Nat.le_succ m)).imp fun cs ⟨a, b, e, ⟨k, h1, hk⟩, a2, b2, e2, ⟨v1, r1, h2, t1, g1⟩, a3, b3, e3, ⟨v2, r2, h3, t2, g2⟩, a4, b4, e4, ⟨v3, r3, h4, t3, g3⟩, e5⟩ => by
    obtain ⟨k, rfl⟩ := qvw hk
    subst e; subst h1; subst e2; subst h2; subst e3; subst h3; subst e4; subst h4; subst e5
    exact ⟨rfl, ⟨k, r1, r2, r3⟩, ⟨v1, v2, v3, rfl, t1, t2, t3⟩, g1, g2, g3⟩
theorem u4n (m : Nat) : Opn enc Tryz.prog w spare held m 23 (fun cs => ∃ v l, cs = [v] ∧ LiM (q3g w) 4 OpR v l ∧ ∀ x ∈ l, OpG x) :=
 (q7t (R := fun F x cs => OpR F x cs ∧ OpG x) Tryz.underlying23 (by kernel_rfl) (by decide) (by kernel_rfl) (uc7 m)).imp fun cs ⟨v, l, h, h2⟩ => ⟨v, l, h, (q86 h2).1, (q86 h2).2⟩
end
section
variable {P : Program} {n : Sz} {L : List (Nat × Value)} {w0 : World} {F0 : q01} {K0 : List Nat} {F : q01} {G : List Grp} {a : Act} {w : World} {o : Oper}
theorem qm8 {x : Operand} {vs : List Value} {t : TypeId} {fs : List (Nat × TypeId)} {i fo : Nat} {ft : TypeId} {u : Value} [ht : qkq P t fs] (S : St n L w0 F0 K0 F G a w) (ho : o.op = .field t x i) (hx : ev L x = some (.agg ⟨vs⟩))
  (hf : fs[i]? = some (fo, ft)) (he : One P ft) (hv : vs[fo]? = some u) : SV P o a w u := by
 obtain ⟨fields, h1, h2⟩ := ht.h
 rw [← h2, List.getElem?_map] at hf
 obtain ⟨f, hf', e⟩ := Option.map_eq_some_iff.1 hf
 simp only [Prod.mk.injEq] at e
 obtain ⟨rfl, rfl⟩ := e
 have hf2 : fields[i]? = some f := by simpa using hf'
 have h3 : (part f.type ⟨vs⟩ f.offset).run P w = .ok u w := by
  simp [part, q3r he, hv]
 unfold SV execOp
 rw [ho]
 simp [S.fr.eval hx, Instr.field, run_underlying h1, hf2, asAgg, h3]
end
theorem qmm (F : q01) (hT : q50 F) (bg : Nat) (av : Value) (gv : Gv) (gg : Grp) (hG : GsS bg av gv gg) (key : Vf) (v1 : Value) (h1 : TrS F 4 VhR v1 key) (r1 : q2r key)
  (k9 : List UInt8) (hk : q13 key = some k9) (e : Ev) (en : En) (hsome : alG gv k9 = some e) (hkv : TrS F 4 VhR e.kv en.key) (hav : av.oneCell' = true) :
  Ct Tryz.prog 27 [.pointer (some ⟨bg, 0, none⟩), v1] F [gg] (fun _ G' u => u = .int .i64 e.ws.length ∧ G' = [gg]) := by
 have t1 := q2n F hT v1 key h1 r1.rg r1.wt
 rw [hk] at t1
 obtain ⟨bm, om, gw, rfl, hm, hw⟩ := hG
 obtain ⟨x1, x2, rfl, hx1, hup, hdl⟩ := q23 hsome
 obtain ⟨g1, ow, g2, rfl, how, hwa, hwb⟩ := WaS.split hw
 have hmg : q4g (gvM (x1 ++ (k9, e) :: x2)) k9 = some (evV e) := by rw [q6f, hsome]; rfl
 obtain ⟨kv, eb, ews⟩ := e
 obtain ⟨akv, ckv, rfl, -⟩ := hkv
 obtain ⟨a1, c1, rfl, -⟩ := h1
 generalize en.key.len = kvn at hm hmg hsome hup hdl ⊢
 refine Ct.enter Tryz.func27 rfl Tryz.ntmps27 rfl fun w0 a S => ?_
 revert a; refine go 4 ?_; intro a S
 (refine wp_seq_k ?_; intro Z hZ)
 (replace S := u4a S)
 revert a; refine go 2 ?_; intro a S
 (refine wc0 S t1 ?_; clear S a; intro v9 a w hv S; subst hv; unfold tvV at S)
 revert a; revert Z; refine go 10 ?_; intro Z hZ Z hZ a S
 (refine wv S (q1b S rfl rfl rfl) ?_; clear S a; intro a S)
 revert a; refine go 4 ?_; intro a S
 iterate 2 (refine wv S (q0j (c := false) (q09 S rfl) (by rfl)) ?_; clear S a; intro a S)
 revert a; revert Z; refine go 2 ?_; intro a S
 refine q03 S rfl ?_
 revert a; revert Z; refine go 8 ?_; intro Z hZ a S
 (refine wv S (q3h (enc := kS) (k := k9) S rfl rfl rfl hm) ?_; clear S a; intro a S; rw [hmg] at S; unfold evV at S)
 (refine wv S (qm8 S rfl rfl rfl inferInstance rfl) ?_; clear S a; intro a S)
 (refine wv S (qe4 (enc := kS) S rfl rfl rfl how) ?_; clear S a; intro a S)
 revert a; revert Z; refine go 3 ?_; intro a S
 refine wp_ret ?_
 (replace S := q7x S)
 refine q08 S (q0c Tryz.results27 (RV.tmp S rfl)) ?_
 exact ⟨rfl, rfl⟩
