/- Walks. -/
import Derived.Test.YtbhipiepfclneaaGreatDoorKGroupOrder02
import Derived.Test.YtbhipiepfclneaaGreatDoorQ29
set_option maxHeartbeats 8000000
namespace Go.Proofs.YtbhipiepfclneaaGreatDoor
open Go Go.Wk Go.Un Go.De Go.Num
set_option linter.unusedSimpArgs false
set_option linter.unusedVariables false
attribute [local irreducible] Go.wpList Go.Code.wp Go.wpStill Go.Wk.wpPre Go.bodyPost Go.Calls Go.Wk.Ct Go.Wk.OwnS Go.Wk.wpG Go.Wk.wpM
def vals (l : List Vr) : List Value := l.map (·.1)
theorem vals_app (A B : List Vr) : vals (A ++ B) = vals A ++ vals B := List.map_append
theorem vals_len (A : List Vr) : (vals A).length = A.length := List.length_map ..
theorem one_vals {F : Heap} {fid : FuncId} {fi ca : List Value} {Q : Vr → Prop} {c : Vr → Vr → Int} (h : CmpQ F fid fi ca Q c) {l : List Vr} (hl : ∀ x ∈ l, Q x) : OneC (vals l) := fun v hv => by
 obtain ⟨x, hx, rfl⟩ := List.mem_map.1 hv
 exact h.one x (hl x hx)
theorem swap_at2 {α : Type} {P Q S : List α} {x y : α} {i j : Nat} (hi : i = P.length) (hj : j = P.length + 1 + Q.length) : ((P ++ x :: (Q ++ y :: S)).set j x).set i y = P ++ y :: (Q ++ x :: S) := by
 rw [List.set_comm _ _ (by omega)]
 exact swap_at hi hj
def insC (P : List Value) (B : List Vr) (x : Vr) (R : List Value) : List Value := P ++ (vals B ++ (x.1 :: R))
theorem insC_len (P : List Value) (B : List Vr) (x : Vr) (R : List Value) : (insC P B x R).length = P.length + B.length + 1 + R.length := by
 unfold insC; simp only [List.length_append, List.length_cons, vals_len]; omega
theorem insC_x (P : List Value) (B : List Vr) (x : Vr) (R : List Value) : (insC P B x R)[P.length + B.length]? = some x.1 := by
 unfold insC
 rw [List.getElem?_append_right (by omega), List.getElem?_append_right (by rw [vals_len]; omega), vals_len, show P.length + B.length - P.length - B.length = 0 by omega]; rfl
theorem insC_z (P : List Value) (B : List Vr) (z x : Vr) (R : List Value) : (insC P (B ++ [z]) x R)[P.length + B.length]? = some z.1 := by
 have : insC P (B ++ [z]) x R = insC P B z (x.1 :: R) := by unfold insC; rw [vals_app]; simp [vals]
 rw [this]; exact insC_x ..
theorem insC_step (P : List Value) (B : List Vr) (z x : Vr) (R : List Value) {i j : Nat} (hi : i = P.length + B.length) (hj : j = P.length + B.length + 1) : ((insC P (B ++ [z]) x R).set j z.1).set i x.1 = insC P B x (z.1 :: R) := by
 have e : insC P (B ++ [z]) x R = (P ++ vals B) ++ z.1 :: ([] ++ x.1 :: R) := by unfold insC; rw [vals_app]; simp [vals]
 have l : (P ++ vals B).length = P.length + B.length := by rw [List.length_append, vals_len]
 rw [e, swap_at2 (by omega) (by rw [List.length_nil]; omega)]
 unfold insC; simp
theorem insC_last {P : List Value} {B : List Vr} {x : Vr} {R : List Value} {Q : Vr → Prop} (hB : ∀ y ∈ B, Q y) (hx : Q x) : ∃ zz, B.getLast?.getD x = zz ∧ Q zz ∧ (0 < B.length → (insC P B x R)[P.length + B.length - 1]? = some zz.1 ∧ B.getLast? = some zz) := by
 rcases List.eq_nil_or_concat B with rfl | ⟨B2, z, rfl⟩
 ·exact ⟨x, rfl, hx, fun h => absurd h (Nat.lt_irrefl 0)⟩
 ·rw [List.concat_eq_append] at *
  refine ⟨z, by simp, hB z (by simp), fun _ => ⟨?_, by simp⟩⟩
  rw [show P.length + (B2 ++ [z]).length - 1 = P.length + B2.length by simp]
  exact insC_z ..
theorem zzSp0 {p : Prop} (h : p := by (have hs2 : Srt (ltC c) (B ++ xx :: E) := put_le hC.ord (by rw [hBE]; exact hYs) (fun z hz => by first | (exfalso; have hB0 : B.length = 0 := (by omega); rw [List.length_eq_zero_iff.1 hB0] at hz; cases hz) | (have hzc : z = zz := (by rw [hz] at hzz; exact hzz); rw [hzc]; exact decide_eq_false (by omega))) hEh; have hp2 : ((B ++ xx :: E) ++ Yt).Perm (x0 :: X1) := (by refine List.Perm.trans ?_ hYZ; rw [← hBE]; simp only [List.append_assoc, List.cons_append]; exact List.Perm.append_left _ List.perm_middle.symm); have hl3 : (B ++ xx :: E).length = Y.length + 1 := (by rw [← hBE]; simp only [List.length_append, List.length_cons]; omega); have hce : insC P B xx (vals E ++ (vals Yt ++ D)) = P ++ (vals (B ++ xx :: E) ++ (vals Yt ++ D)) := (by unfold insC vals; simp); rw [hce] at S; refine ⟨Yt.length, by simp, B ++ xx :: E, Yt, rfl, by omega, hp2, hs2, (fun x hx => hQ x (hp2.mem_iff.1 hx)), ?_⟩; rw [hl3]; (refine S.keep ?_; exact zk))) : p := h
theorem insSCt (F : Heap) (bd n cap : Nat) (T : TypeId) (fid : FuncId) (fi ca : List Value) [hfn : HasFn Tryz.prog fid] (Q : Vr → Prop) (c : Vr → Vr → Int) (hC : CmpQ F fid fi ca Q c) (P D : List Value) (X : List Vr) (hQ : ∀ x ∈ X, Q x) (pa pb : Nat) (ha : pa = P.length) (hb : pb = P.length + X.length) (hx0 : 0 < X.length) (hl : pb ≤ n) (hl2 : n ≤ P.length + X.length + D.length) (hm : n ≤ 1000000000000) :
  Ct Tryz.prog 156 [.slice (some ⟨bd, 0, none⟩) n cap, .int .i64 (pa : Nat), .int .i64 (pb : Nat), .func (.func fid) ⟨fi⟩ ⟨ca⟩] F [[(bd, .cells ⟨P ++ (vals X ++ D)⟩ T (0, 0))]]
   (fun _ G' u => ∃ Y : List Vr, Y.Perm X ∧ Srt (ltC c) Y ∧ G' = [[(bd, .cells ⟨P ++ (vals Y ++ D)⟩ T (0, 0))]]) := by
 subst ha
 subst hb
 obtain ⟨x0, X1, rfl⟩ : ∃ x0 X1, X = x0 :: X1 := by cases X with | nil => exact absurd hx0 (by decide) | cons x r => exact ⟨x, r, rfl⟩
 refine Ct.enter Tryz.func156 rfl Tryz.ntmps156 rfl fun w0 a S => ?_
 (revert S a; refine go 7 ?_; intro a S)
 refine wpc_loop (fun q a' w' => ∃ (Y Yr : List Vr), q = Yr.length ∧ 0 < Y.length ∧ (Y ++ Yr).Perm (x0 :: X1) ∧ Srt (ltC c) Y ∧ (∀ x ∈ Y ++ Yr, Q x) ∧ St 53 [(0, .slice (some ⟨bd, 0, none⟩) n cap), (1, .int .i64 (P.length : Nat)), (2, .int .i64 ((P.length + (x0 :: X1).length : Nat) : Int)), (3, .func (.func fid) ⟨fi⟩ ⟨ca⟩), (8, .int .i64 ((P.length + Y.length : Nat) : Int))] w0 F (keys [[(bd, .cells ⟨P ++ (vals (x0 :: X1) ++ D)⟩ T (0, 0))]]) F [[(bd, .cells ⟨P ++ (vals Y ++ (vals Yr ++ D))⟩ T (0, 0))]] a' w') ?_ ?_
 ·(refine ⟨X1.length, [x0], X1, rfl, Nat.one_pos, List.Perm.refl _, Srt.one _, hQ, ?_⟩; refine S.keep ?_; exact zk)
 (clear S; rintro q a w ⟨Y, Yr, rfl, hY0, hYZ, hYs, hYQ, S⟩; have hYl := hYZ.length_eq; rw [List.length_append] at hYl)
 (revert S a; refine go 7 ?_; intro Z hZ a S)
 refine wpc_sp S rfl ?_ ?_ <;> intro h
 ·(revert S a; revert hZ Z; refine go 4 ?_; intro Z hZ a S)
  (refine wp_seq_k ?_; intro Z hZ)
  (obtain ⟨xx, Yt, rfl⟩ : ∃ xx Yt, Yr = xx :: Yt := (by cases Yr with | nil => (exfalso; simp only [List.length_nil, List.length_cons] at *; omega) | cons x r => exact ⟨x, r, rfl⟩); have hqx : Q xx := hYQ xx (by simp); simp only [List.length_cons] at hYl hl hl2)
  (revert S a; revert hZ Z; refine go 6 ?_; intro a S)
  refine wpc_loop (fun q a' w' => ∃ (B E : List Vr), q = B.length ∧ B ++ E = Y ∧ (∀ z, E.head? = some z → ltC c z xx = false) ∧ St 53 [(0, .slice (some ⟨bd, 0, none⟩) n cap), (1, .int .i64 (P.length : Nat)), (2, .int .i64 ((P.length + (x0 :: X1).length : Nat) : Int)), (3, .func (.func fid) ⟨fi⟩ ⟨ca⟩), (8, .int .i64 ((P.length + Y.length : Nat) : Int)), (9, .int .i64 ((P.length + B.length : Nat) : Int))] w0 F (keys [[(bd, .cells ⟨P ++ (vals (x0 :: X1) ++ D)⟩ T (0, 0))]]) F [[(bd, .cells ⟨insC P B xx (vals E ++ (vals Yt ++ D))⟩ T (0, 0))]] a' w') ?_ ?_
  ·(refine ⟨Y.length, Y, [], rfl, List.append_nil _, (fun z h => by cases h), ?_⟩; refine S.keep ?_; exact zk)
  (clear S; rintro q a w ⟨B, E, rfl, hBE, hEh, S⟩)
  iterate 2 (refine wp_seq_k ?_; intro Z hZ)
  (obtain ⟨zz, hzz, hzq, hzl⟩ : ∃ zz, B.getLast?.getD xx = zz ∧ Q zz ∧ (0 < B.length → (insC P B xx (vals E ++ (vals Yt ++ D)))[P.length + B.length - 1]? = some zz.1 ∧ B.getLast? = some zz) := insC_last (fun x hx => hYQ x (by rw [← hBE]; simp [hx])) hqx; have hcl := insC_len P B xx (vals E ++ (vals Yt ++ D)); simp only [List.length_append, vals_len] at hcl; have hBl : B.length + E.length = Y.length := (by rw [← hBE, List.length_append]))
  (refine wpc_mixM [0, 1, 2, 3, 4, 5, 6, 7, 8, 9, 10, 11, 12, 13, 15, 16] [8, 13] [] (.one 0 (.one 1 (.one 2 (.one 3 (.one 4 (.one 5 (.one 6 (.one 7 (.one 8 (.one 9 (.one 10 (.one 11 (.one 12 (.one 13 (.one 14 (.one 15 (.one 16 .nil))))))))))))))))) [bd] S mixed (by kernel_rfl) ?_; clear S; intro w S)
  (revert S a; refine go 4 ?_; intro a S)
  refine St.pt 21 true S rfl ?_ ?_ <;> clear S <;> intro h S
  ·(revert S a; refine go 4 ?_; intro a S)
   (refine wpm_lateO bd S rfl rfl rfl (want_yes S rfl rfl rfl) rfl rfl (fun w' S => sv_loadO S rfl rfl (by simpa using insC_x P B xx _)) ?_; clear S a; intro a S)
   (revert S a; refine go 2 ?_; intro a S)
   first | (refine wpm_v S rfl rfl rfl (want_yes S rfl rfl rfl) rfl rfl (fun w' S => sv_subN (q := 1) S rfl rfl rfl (by omega)) ?_; clear S a; intro a S) | (refine wpm_v S rfl rfl rfl (want_yes S rfl rfl rfl) rfl rfl (fun w' S => sv_sub S rfl rfl rfl (by omega)) ?_; clear S a; intro a S)
   (revert S a; refine go 1 ?_; intro a S)
   (refine wpm_lateO bd S rfl rfl rfl (want_yes S rfl rfl rfl) rfl rfl (fun w' S => sv_loadO S rfl rfl (by simpa using (hzl (by omega)).1)) ?_; clear S a; intro a S)
   (revert S a; refine go 2 ?_; intro a S)
   (refine wc0 S (hC.ct xx zz hqx hzq) ?_; clear S a; intro v32 a w hv S; subst hv)
   (revert S a; revert hZ Z; refine go 5 ?_; intro a S)
   refine wpc_sp S rfl ?_ ?_ <;> intro h
   ·(revert S a; revert hZ Z; refine go 4 ?_; intro Z hZ a S)
    (obtain ⟨B2, rfl⟩ : ∃ B2, B = B2 ++ [zz] := List.getLast?_eq_some_iff.1 (hzl (by omega)).2; have hzl2 := hzl (by simp); have hB2 : (B2 ++ [zz]).length = B2.length + 1 := (by simp); simp only [List.length_append, List.length_cons, List.length_nil] at hzl2 hcl hBl)
    (refine wpc_mixM [0, 1, 2, 3, 4, 5, 6, 7, 8, 9, 10, 11, 12, 13, 14, 16] [9, 13] [15, 17] (.one 0 (.one 1 (.one 2 (.one 3 (.one 4 (.one 5 (.one 6 (.one 7 (.one 8 (.one 9 (.one 10 (.one 11 (.one 12 (.one 13 (.one 14 (.one 15 (.one 16 (.one 17 .nil)))))))))))))))))) [bd] S mixed (by kernel_rfl) ?_; clear S; intro w S)
    (revert S a; refine go 4 ?_; intro a S)
    first | (refine wpm_v S rfl rfl rfl (want_none _ rfl) rfl rfl (fun w' S => sv_subN (q := 1) S rfl rfl rfl (by omega)) ?_; clear S a; intro a S) | (refine wpm_v S rfl rfl rfl (want_none _ rfl) rfl rfl (fun w' S => sv_sub S rfl rfl rfl (by omega)) ?_; clear S a; intro a S)
    (revert S a; refine go 2 ?_; intro a S)
    first | (refine wpm_v S rfl rfl rfl (want_none _ rfl) rfl rfl (fun w' S => sv_subN (q := 1) S rfl rfl rfl (by omega)) ?_; clear S a; intro a S) | (refine wpm_v S rfl rfl rfl (want_none _ rfl) rfl rfl (fun w' S => sv_sub S rfl rfl rfl (by omega)) ?_; clear S a; intro a S)
    (revert S a; refine go 1 ?_; intro a S)
    (refine wpm_lateO bd S rfl rfl rfl (want_none _ rfl) rfl rfl (fun w' S => sv_loadO S rfl rfl (by simpa using hzl2.1)) ?_; clear S a; intro a S)
    (revert S a; refine go 3 ?_; intro a S)
    (refine wpm_lateO bd S rfl rfl rfl (want_none _ rfl) rfl rfl (fun w' S => sv_loadO S rfl rfl (by simpa using insC_x P (B2 ++ [zz]) xx _)) ?_; clear S a; intro a S)
    (revert S a; refine go 2 ?_; intro a S)
    (refine wpl_store1 S rfl rfl rfl rfl rfl (hC.one _ hzq) (by omega) ?_; clear S; intro w S)
    (revert S a; refine go 2 ?_; intro a S)
    refine wpm_eff rfl rfl (fun h => absurd h (by decide)) ?_
    (refine wpl_store1 S rfl rfl rfl rfl rfl (hC.one _ hqx) (by rw [List.length_set]; omega) ?_; clear S; intro w S; rw [insC_step P B2 zz xx _ (by omega) (by omega)] at S)
    refine wpList_nil ?_
    refine wpm_nil (fun h => absurd h (by decide)) ?_
    (revert S a; revert hZ Z; refine go 3 ?_; intro a S)
    first | (refine wv S (sv_subN (q := 1) S rfl rfl rfl (by omega)) ?_; clear S a; intro a S) | (refine wv S (sv_sub S rfl rfl rfl (by omega)) ?_; clear S a; intro a S)
    (revert S a; refine go 2 ?_; intro a S)
    change ∃ m', _ ∧ _
    (have e9 : P.length + (B2 ++ [zz]).length - 1 = P.length + B2.length := (by omega); rw [e9] at S; refine ⟨B2.length, by simp, B2, zz :: E, rfl, by rw [← hBE]; simp, (fun w hw => by cases hw; exact hC.ord.asy (decide_eq_true (by assumption))), ?_⟩; (refine S.keep ?_; exact zk))
   (refine wp_exit ?_; conv => whnf)
   clear hZ Z
   (revert S a; revert hZ Z; refine go 6 ?_; intro a S)
   change ∃ m', _ ∧ _
   exact zzSp0
  (revert S a; refine go 10 ?_; intro a S)
  (refine wpm_skipE S rfl rfl (want_no S rfl rfl rfl) (kwa S) rfl rfl ?_; clear S a; intro a S)
  (revert S a; revert hZ Z; refine go 4 ?_; intro a S)
  refine wpc_false S rfl ?_
  (refine wp_exit ?_; conv => whnf)
  clear hZ Z
  (revert S a; revert hZ Z; refine go 6 ?_; intro a S)
  change ∃ m', _ ∧ _
  exact zzSp0
 (refine wp_exit ?_; conv => whnf)
 refine fin_end S (results0 Tryz.results156) ?_
 (have hY9 : Yr.length = 0 := (by omega); obtain rfl := List.length_eq_zero_iff.1 hY9; exact ⟨Y, by simpa using hYZ, hYs, rfl⟩)
section
variable {P : Program} {n : Sz} {L : List (Nat × Value)} {w0 : World} {F0 : Heap} {K0 : List Nat} {F : Heap} {G : List Grp} {a : Act} {w : World} {o : Oper}
theorem sv_cvU {x : Operand} {k' : IntKind} {p : Int} {s t : TypeId} {ks : IntKind} [hs : Und P s (.int ks)] [ht : Und P t (.int .u64)] (S : St n L w0 F0 K0 F G a w) (ho : o.op = .convert s t x) (hx : ev L x = some (.int k' p))
  (hb : 0 ≤ p ∧ p ≤ 18446744073709551615) : SV P o a w (.int .u64 p) := by
 have := sv_conv (P := P) (k := .u64) S ho hx
 rwa [IntWalk.u64_in _ hb] at this
theorem sv_half {x y : Operand} {p : Int} {q : Nat} {t yt : TypeId} (S : St n L w0 F0 K0 F G a w) (ho : o.op = .binOp .shr t x y yt) (hx : ev L x = some (.int .u64 p)) (hy : ev L y = some (.int .u64 1)) (hq : p = (q : Int)) : SV P o a w (.int .u64 ((q / 2 : Nat) : Int)) := by
 subst hq
 have h1 : (eqGuard .shr t x y (.int .u64 (q : Int)) (.int .u64 1)).run P w = .ok () w := by unfold eqGuard; rfl
 unfold SV execOp
 rw [ho]
 simp [S.fr.eval hx, S.fr.eval hy, h1, binOp_shr, shift_shr_u64]
end
theorem insC_up (P : List Value) (B : List Vr) (z x : Vr) (R : List Value) {i j : Nat} (hi : i = P.length + B.length) (hj : j = P.length + B.length + 1) : ((insC P B x (z.1 :: R)).set i z.1).set j x.1 = insC P (B ++ [z]) x R := by
 have e : insC P B x (z.1 :: R) = (P ++ vals B) ++ x.1 :: ([] ++ z.1 :: R) := by unfold insC; simp
 have l : (P ++ vals B).length = P.length + B.length := by rw [List.length_append, vals_len]
 rw [e, swap_at (by omega) (by rw [List.length_nil]; omega)]
 unfold insC; rw [vals_app]; simp [vals]
theorem vals_at {P D : List Value} {X : List Vr} {k : Nat} {z : Vr} (h : X[k]? = some z) : (P ++ (vals X ++ D))[P.length + k]? = some z.1 := by
 have hk := (List.getElem?_eq_some_iff.1 h).1
 rw [List.getElem?_append_right (by omega), List.getElem?_append_left (by rw [vals_len]; omega), show P.length + k - P.length = k by omega]
 unfold vals
 rw [List.getElem?_map, h]; rfl
theorem HalfI.up {X : List Vr} {yes : Vr → Bool} {u v k : Nat} {z : Vr} (h : HalfI X yes u v) (hk : u ≤ k ∧ k < v) (hz : X[k]? = some z) (hy : yes z = true) : HalfI X yes (k + 1) v := ⟨by omega, h.hv, fun _ => ⟨z, hz, hy⟩, h.hi⟩
theorem HalfI.dn {X : List Vr} {yes : Vr → Bool} {u v k : Nat} {z : Vr} (h : HalfI X yes u v) (hk : u ≤ k ∧ k < v) (hz : X[k]? = some z) (hy : yes z = false) : HalfI X yes u k := ⟨by omega, by have := h.hv; omega, h.lo, fun _ => ⟨z, hz, hy⟩⟩
theorem insC_n (P : List Value) (B : List Vr) (x : Vr) (z : Value) (R : List Value) : (insC P B x (z :: R))[P.length + B.length + 1]? = some z := by
 have e : insC P B x (z :: R) = (P ++ vals B ++ [x.1]) ++ z :: R := by unfold insC; simp
 rw [e, List.getElem?_append_right (by simp [vals_len]; omega)]
 simp [vals_len]
 rw [show P.length + B.length + 1 - (P.length + (B.length + 1)) = 0 by omega]; rfl
theorem take_up {B : List Vr} {t : Nat} {z : Vr} (h : B[t]? = some z) : B.take (t + 1) = B.take t ++ [z] ∧ B.drop t = z :: B.drop (t + 1) := by
 obtain ⟨h1, rfl⟩ := List.getElem?_eq_some_iff.1 h
 exact ⟨by rw [List.take_succ_eq_append_getElem h1], List.drop_eq_getElem_cons h1⟩
theorem zzSr0 {p : Prop} (h : p := by (first | (refine ⟨v - ((u + v) / 2 + 1), by omega, (u + v) / 2 + 1, v, rfl, hI.up ⟨by omega, by omega⟩ hz (decide_eq_true (by assumption)), ?_⟩; (refine S.keep ?_; exact zk); done) | (refine ⟨(u + v) / 2 - u, by omega, u, (u + v) / 2, rfl, hI.dn ⟨by omega, by omega⟩ hz (decide_eq_false (by omega)), ?_⟩; (refine S.keep ?_; exact zk); done) | trace_state)) : p := h
theorem sym1Ct (F : Heap) (bd n cap : Nat) (T : TypeId) (fid : FuncId) (fi ca : List Value) [hfn : HasFn Tryz.prog fid] (Q : Vr → Prop) (c : Vr → Vr → Int) (hC : CmpQ F fid fi ca Q c) (P D : List Value) (x : Vr) (B : List Vr) (hx : Q x) (hB : ∀ y ∈ B, Q y) (hs : Srt (ltC c) B) (pa pm pb : Nat) (ha : pa = P.length) (hpm : pm = P.length + 1) (hb : pb = P.length + 1 + B.length) (hl : pb ≤ n) (hl2 : n ≤ P.length + 1 + B.length + D.length) (hm : n ≤ 1000000000000) :
  Ct Tryz.prog 157 [.slice (some ⟨bd, 0, none⟩) n cap, .int .i64 (pa : Nat), .int .i64 (pm : Nat), .int .i64 (pb : Nat), .func (.func fid) ⟨fi⟩ ⟨ca⟩] F [[(bd, .cells ⟨P ++ (x.1 :: (vals B ++ D))⟩ T (0, 0))]]
   (fun _ G' u => ∃ Y : List Vr, Y.Perm (x :: B) ∧ Srt (ltC c) Y ∧ G' = [[(bd, .cells ⟨P ++ (vals Y ++ D)⟩ T (0, 0))]]) := by
 refine Ct.enter Tryz.func157 rfl Tryz.ntmps157 rfl fun w0 a S => ?_
 (revert S a; refine go 4 ?_; intro Z hZ Z hZ a S)
 first | (refine wv S (sv_subN S rfl rfl rfl (by omega)) ?_; clear S a; intro a S) | (refine wv S (sv_sub S rfl rfl rfl (by omega)) ?_; clear S a; intro a S)
 (revert S a; revert hZ Z; refine go 3 ?_; intro a S)
 refine wpc_split S rfl (fun h => ?_) (fun h => ?_)
 ·(skip; (try simp only [tq] at h))
  (revert S a; refine go 12 ?_; intro Z hZ a S)
  refine wpc_loop (fun q a' w' => ∃ (u v : Nat), q = v - u ∧ HalfI B (fun z => ltC c z x) u v ∧ St 220 [(0, .slice (some ⟨bd, 0, none⟩) n cap), (1, .int .i64 (pa : Nat)), (4, .func (.func fid) ⟨fi⟩ ⟨ca⟩), (10, .int .i64 ((pm + u : Nat) : Int)), (11, .int .i64 ((pm + v : Nat) : Int))] w0 F (keys [[(bd, .cells ⟨P ++ (x.1 :: (vals B ++ D))⟩ T (0, 0))]]) F [[(bd, .cells ⟨P ++ (x.1 :: (vals B ++ D))⟩ T (0, 0))]] a' w') ?_ ?_
  ·(have e9 : pb = pm + B.length := (by omega); rw [e9] at S; refine ⟨_, 0, B.length, rfl, HalfI.zero _ _, ?_⟩; refine S.keep ?_; exact zk)
  (clear S; rintro q a w ⟨u, v, rfl, hI, S⟩; have hI1 := hI.uv; have hI2 := hI.hv)
  (revert S a; refine go 7 ?_; intro Z hZ a S)
  refine wpc_sp S rfl ?_ ?_ <;> intro h
  ·(revert S a; revert hZ Z; refine go 7 ?_; intro Z hZ a S)
   (refine wv S (sv_cvU S rfl rfl (by omega)) ?_; clear S a; intro a S)
   (refine wv S (sv_half (q := pm + u + (pm + v)) S rfl rfl rfl (by omega)) ?_; clear S a; intro a S)
   (refine wv S (sv_conv_i64 S rfl rfl (by omega)) ?_; clear S a; intro a S)
   (revert S a; revert hZ Z; refine go 3 ?_; intro a S)
   (refine wp_seq_k ?_; intro Z hZ)
   (have e5 : (pm + u + (pm + v)) / 2 = pm + (u + v) / 2 := (by omega); rw [e5] at S; obtain ⟨z, hz⟩ : ∃ z, B[(u + v) / 2]? = some z := ⟨_, List.getElem?_eq_getElem (by omega)⟩; have hqz : Q z := hB z (List.mem_of_getElem? hz))
   (refine wpc_mixM [0, 1, 2, 3, 4, 5, 6, 7, 8, 10] [4, 8] [] (.one 0 (.one 1 (.one 2 (.one 3 (.one 4 (.one 5 (.one 6 (.one 7 (.one 8 (.one 9 (.one 10 .nil))))))))))) [bd] S mixed (by kernel_rfl) ?_; clear S; intro w S)
   (revert S a; refine go 4 ?_; intro a S)
   (refine wpm_lateO bd S rfl rfl rfl (want_none _ rfl) rfl rfl (fun w' S => sv_loadO S rfl rfl (by have := vals_at (P := P) (D := D) (X := x :: B) (k := (u + v) / 2 + 1) hz; rw [show 0 + (pm + (u + v) / 2) * 1 = P.length + ((u + v) / 2 + 1) by omega]; exact this)) ?_; clear S a; intro a S)
   (revert S a; refine go 3 ?_; intro a S)
   (refine wpm_lateO bd S rfl rfl rfl (want_none _ rfl) rfl rfl (fun w' S => sv_loadO S rfl rfl (by have := vals_at (P := P) (D := D) (X := x :: B) (k := 0) rfl; rw [show 0 + pa * 1 = P.length + 0 by omega]; exact this)) ?_; clear S a; intro a S)
   refine wpm_eff rfl rfl (kwa S) ?_
   (refine wc0 S (hC.ct z x hqz hx) ?_; clear S a; intro v49 a w hv S; subst hv)
   (revert S a; revert hZ Z; refine go 4 ?_; intro a S)
   refine wpc_sp S rfl ?_ ?_ <;> intro h
   ·(revert S a; refine go 5 ?_; intro a S)
    change ∃ m', _ ∧ _
    exact zzSr0
   (revert S a; refine go 4 ?_; intro a S)
   change ∃ m', _ ∧ _
   exact zzSr0
  (refine wp_exit ?_; conv => whnf)
  clear hZ Z
  (revert S a; revert hZ Z; refine go 2 ?_; intro Z hZ a S)
  (refine wp_seq_k ?_; intro Z hZ)
  (obtain rfl : u = v := (by omega); rw [ha] at S)
  (revert S a; revert hZ Z; refine go 6 ?_; intro a S)
  refine wpc_loop (fun q a' w' => ∃ (t : Nat), q = u - t ∧ t ≤ u ∧ St 220 [(0, .slice (some ⟨bd, 0, none⟩) n cap), (10, .int .i64 ((pm + u : Nat) : Int)), (13, .int .i64 ((P.length + t : Nat) : Int))] w0 F (keys [[(bd, .cells ⟨P ++ (x.1 :: (vals B ++ D))⟩ T (0, 0))]]) F [[(bd, .cells ⟨insC P (B.take t) x (vals (B.drop t) ++ D)⟩ T (0, 0))]] a' w') ?_ ?_
  ·(refine ⟨_, 0, rfl, Nat.zero_le _, ?_⟩; refine S.keep ?_; exact zk)
  (clear S; rintro q a w ⟨t, rfl, htu, S⟩)
  (revert S a; refine go 4 ?_; intro Z hZ Z hZ a S)
  first | (refine wv S (sv_subN (q := 1) S rfl rfl rfl (by omega)) ?_; clear S a; intro a S) | (refine wv S (sv_sub S rfl rfl rfl (by omega)) ?_; clear S a; intro a S)
  (revert S a; revert hZ Z; refine go 3 ?_; intro a S)
  refine wpc_sp S rfl ?_ ?_ <;> intro h
  ·(revert S a; revert hZ Z; refine go 4 ?_; intro Z hZ a S)
   (obtain ⟨z, hz⟩ : ∃ z, B[t]? = some z := ⟨_, List.getElem?_eq_getElem (by omega)⟩; have hqz : Q z := hB z (List.mem_of_getElem? hz); obtain ⟨et, ed⟩ := take_up hz; have htl : (B.take t).length = t := (by rw [List.length_take]; omega); have htd : (B.drop (t + 1)).length = B.length - (t + 1) := List.length_drop; rw [show vals (B.drop t) ++ D = z.1 :: (vals (B.drop (t + 1)) ++ D) from (by rw [ed]; rfl)] at S; have hcl := insC_len P (B.take t) x (z.1 :: (vals (B.drop (t + 1)) ++ D)); simp only [List.length_cons, List.length_append, vals_len] at hcl)
   (refine wpc_mixM [0, 1, 2, 3, 4, 5, 6, 7, 8, 9, 10, 11, 12, 13, 14, 16] [9, 13] [15, 17] (.one 0 (.one 1 (.one 2 (.one 3 (.one 4 (.one 5 (.one 6 (.one 7 (.one 8 (.one 9 (.one 10 (.one 11 (.one 12 (.one 13 (.one 14 (.one 15 (.one 16 (.one 17 .nil)))))))))))))))))) [bd] S mixed (by kernel_rfl) ?_; clear S; intro w S)
   (revert S a; refine go 9 ?_; intro a S)
   (refine wpm_lateO bd S rfl rfl rfl (want_none _ rfl) rfl rfl (fun w' S => sv_loadO S rfl rfl (by have := insC_n P (B.take t) x z.1 (vals (B.drop (t + 1)) ++ D); rw [htl] at this; simpa using this)) ?_; clear S a; intro a S)
   (revert S a; refine go 3 ?_; intro a S)
   (refine wpm_lateO bd S rfl rfl rfl (want_none _ rfl) rfl rfl (fun w' S => sv_loadO S rfl rfl (by have := insC_x P (B.take t) x (z.1 :: (vals (B.drop (t + 1)) ++ D)); rw [htl] at this; simpa using this)) ?_; clear S a; intro a S)
   (revert S a; refine go 2 ?_; intro a S)
   (refine wpl_store1 S rfl rfl rfl rfl rfl (hC.one _ hqz) (by omega) ?_; clear S; intro w S)
   (revert S a; refine go 2 ?_; intro a S)
   refine wpm_eff rfl rfl (fun h => absurd h (by decide)) ?_
   (refine wpl_store1 S rfl rfl rfl rfl rfl (hC.one _ hx) (by rw [List.length_set, Nat.zero_add, Nat.mul_one]; show P.length + t + 1 < _; omega) ?_; clear S; intro w S; rw [Nat.zero_add, Nat.mul_one, Nat.zero_add, Nat.mul_one] at S; replace S : St _ _ _ _ _ _ [[(bd, .cells ⟨((insC P (B.take t) x (z.1 :: (vals (B.drop (t + 1)) ++ D))).set (P.length + t) z.1).set (P.length + t + 1) x.1⟩ T (0, 0))]] _ _ := S; rw [insC_up P (B.take t) z x _ (by omega) (by omega), ← et] at S)
   refine wpList_nil ?_
   refine wpm_nil (fun h => absurd h (by decide)) ?_
   (revert S a; revert hZ Z; refine go 6 ?_; intro a S)
   change ∃ m', _ ∧ _
   (refine ⟨u - (t + 1), by omega, t + 1, rfl, by omega, ?_⟩; (refine S.keep ?_; exact zk))
  (refine wp_exit ?_; conv => whnf)
  clear hZ Z
  (refine hZ _ _ ?_; clear hZ Z)
  refine wp_ret (fin_ret S (results0 Tryz.results157) ?_)
  (obtain rfl : t = u := (by omega); refine ⟨B.take t ++ x :: B.drop t, ?_, put_le hC.ord (by rw [List.take_append_drop]; exact hs) (fun z hz => hC.ord.asy (hI.take.1 z hz)) (fun z hz => hI.take.2 z hz), by unfold insC; rw [vals_app]; simp [vals]⟩; have := List.perm_middle (a := x) (l₁ := B.take t) (l₂ := B.drop t); rw [List.take_append_drop] at this; exact this)
 (skip; (try simp only [tq] at h); omega)
theorem zzSs0 {p : Prop} (h : p := by (first | (refine ⟨v - ((u + v) / 2 + 1), by omega, (u + v) / 2 + 1, v, rfl, hI.up ⟨by omega, by omega⟩ hz (by rw [show ltC c x z = false from decide_eq_false (by omega)]; rfl), ?_⟩; (refine S.keep ?_; exact zk); done) | (refine ⟨(u + v) / 2 - u, by omega, u, (u + v) / 2, rfl, hI.dn ⟨by omega, by omega⟩ hz (by rw [show ltC c x z = true from decide_eq_true (by omega)]; rfl), ?_⟩; (refine S.keep ?_; exact zk); done) | trace_state)) : p := h
theorem sym2Ct (F : Heap) (bd n cap : Nat) (T : TypeId) (fid : FuncId) (fi ca : List Value) [hfn : HasFn Tryz.prog fid] (Q : Vr → Prop) (c : Vr → Vr → Int) (hC : CmpQ F fid fi ca Q c) (P D : List Value) (x : Vr) (A : List Vr) (hx : Q x) (hA : ∀ y ∈ A, Q y) (hs : Srt (ltC c) A) (pa pm pb : Nat) (ha : pa = P.length) (hpm : pm = P.length + A.length) (hb : pb = P.length + A.length + 1) (hA1 : A.length ≠ 1) (hl : pb ≤ n) (hl2 : n ≤ P.length + A.length + 1 + D.length) (hm : n ≤ 1000000000000) :
  Ct Tryz.prog 157 [.slice (some ⟨bd, 0, none⟩) n cap, .int .i64 (pa : Nat), .int .i64 (pm : Nat), .int .i64 (pb : Nat), .func (.func fid) ⟨fi⟩ ⟨ca⟩] F [[(bd, .cells ⟨P ++ (vals A ++ (x.1 :: D))⟩ T (0, 0))]]
   (fun _ G' u => ∃ Y : List Vr, Y.Perm (A ++ [x]) ∧ Srt (ltC c) Y ∧ G' = [[(bd, .cells ⟨P ++ (vals Y ++ D)⟩ T (0, 0))]]) := by
 refine Ct.enter Tryz.func157 rfl Tryz.ntmps157 rfl fun w0 a S => ?_
 (revert S a; refine go 4 ?_; intro Z hZ Z hZ a S)
 first | (refine wv S (sv_subN S rfl rfl rfl (by omega)) ?_; clear S a; intro a S) | (refine wv S (sv_sub S rfl rfl rfl (by omega)) ?_; clear S a; intro a S)
 (revert S a; revert hZ Z; refine go 3 ?_; intro a S)
 refine wpc_split S rfl (fun h => ?_) (fun h => ?_)
 ·(skip; (try simp only [tq] at h); omega)
 (skip; (try simp only [tq] at h))
 (revert S a; revert hZ Z; refine go 6 ?_; intro Z hZ Z hZ a S)
 first | (refine wv S (sv_subN S rfl rfl rfl (by omega)) ?_; clear S a; intro a S) | (refine wv S (sv_sub S rfl rfl rfl (by omega)) ?_; clear S a; intro a S)
 (revert S a; revert hZ Z; refine go 3 ?_; intro a S)
 refine wpc_split S rfl (fun h => ?_) (fun h => ?_)
 ·(skip; (try simp only [tq] at h))
  (revert S a; refine go 12 ?_; intro Z hZ a S)
  refine wpc_loop (fun q a' w' => ∃ (u v : Nat), q = v - u ∧ HalfI A (fun z => !ltC c x z) u v ∧ St 220 [(0, .slice (some ⟨bd, 0, none⟩) n cap), (2, .int .i64 (pm : Nat)), (4, .func (.func fid) ⟨fi⟩ ⟨ca⟩), (14, .int .i64 ((pa + u : Nat) : Int)), (15, .int .i64 ((pa + v : Nat) : Int))] w0 F (keys [[(bd, .cells ⟨P ++ (vals A ++ (x.1 :: D))⟩ T (0, 0))]]) F [[(bd, .cells ⟨P ++ (vals A ++ (x.1 :: D))⟩ T (0, 0))]] a' w') ?_ ?_
  ·(have e9 : pm = pa + A.length := (by omega); rw [e9] at S; refine ⟨_, 0, A.length, rfl, HalfI.zero _ _, ?_⟩; rw [e9]; refine S.keep ?_; exact zk)
  (clear S; rintro q a w ⟨u, v, rfl, hI, S⟩; have hI1 := hI.uv; have hI2 := hI.hv)
  (revert S a; refine go 7 ?_; intro Z hZ a S)
  refine wpc_sp S rfl ?_ ?_ <;> intro h
  ·(revert S a; revert hZ Z; refine go 7 ?_; intro Z hZ a S)
   (refine wv S (sv_cvU S rfl rfl (by omega)) ?_; clear S a; intro a S)
   (refine wv S (sv_half (q := pa + u + (pa + v)) S rfl rfl rfl (by omega)) ?_; clear S a; intro a S)
   (refine wv S (sv_conv_i64 S rfl rfl (by omega)) ?_; clear S a; intro a S)
   (revert S a; revert hZ Z; refine go 3 ?_; intro a S)
   (refine wp_seq_k ?_; intro Z hZ)
   (have e5 : (pa + u + (pa + v)) / 2 = pa + (u + v) / 2 := (by omega); rw [e5] at S; obtain ⟨z, hz⟩ : ∃ z, A[(u + v) / 2]? = some z := ⟨_, List.getElem?_eq_getElem (by omega)⟩; have hqz : Q z := hA z (List.mem_of_getElem? hz))
   (refine wpc_mixM [0, 1, 2, 3, 4, 5, 6, 7, 8, 10, 11] [4, 8] [] (.one 0 (.one 1 (.one 2 (.one 3 (.one 4 (.one 5 (.one 6 (.one 7 (.one 8 (.one 9 (.one 10 (.one 11 .nil)))))))))))) [bd] S mixed (by kernel_rfl) ?_; clear S; intro w S)
   (revert S a; refine go 4 ?_; intro a S)
   (refine wpm_lateO bd S rfl rfl rfl (want_none _ rfl) rfl rfl (fun w' S => sv_loadO S rfl rfl (by have := insC_x P A x D; unfold insC at this; rw [show 0 + pm * 1 = P.length + A.length by omega]; exact this)) ?_; clear S a; intro a S)
   (revert S a; refine go 3 ?_; intro a S)
   (refine wpm_lateO bd S rfl rfl rfl (want_none _ rfl) rfl rfl (fun w' S => sv_loadO S rfl rfl (by have := vals_at (P := P) (D := x.1 :: D) (X := A) hz; rw [show 0 + (pa + (u + v) / 2) * 1 = P.length + (u + v) / 2 by omega]; exact this)) ?_; clear S a; intro a S)
   refine wpm_eff rfl rfl (kwa S) ?_
   (refine wc0 S (hC.ct x z hx hqz) ?_; clear S a; intro v101 a w hv S; subst hv)
   (revert S a; revert hZ Z; refine go 5 ?_; intro a S)
   refine wpc_sp S rfl ?_ ?_ <;> intro h
   ·(revert S a; refine go 5 ?_; intro a S)
    change ∃ m', _ ∧ _
    exact zzSs0
   (revert S a; refine go 4 ?_; intro a S)
   change ∃ m', _ ∧ _
   exact zzSs0
  (refine wp_exit ?_; conv => whnf)
  clear hZ Z
  (revert S a; revert hZ Z; refine go 2 ?_; intro Z hZ a S)
  (refine wp_seq_k ?_; intro Z hZ)
  (obtain rfl : u = v := (by omega); rw [hpm] at S)
  (revert S a; revert hZ Z; refine go 6 ?_; intro a S)
  refine wpc_loop (fun q a' w' => ∃ (t : Nat), q = t - u ∧ u ≤ t ∧ t ≤ A.length ∧ St 220 [(0, .slice (some ⟨bd, 0, none⟩) n cap), (14, .int .i64 ((pa + u : Nat) : Int)), (17, .int .i64 ((P.length + t : Nat) : Int))] w0 F (keys [[(bd, .cells ⟨P ++ (vals A ++ (x.1 :: D))⟩ T (0, 0))]]) F [[(bd, .cells ⟨insC P (A.take t) x (vals (A.drop t) ++ D)⟩ T (0, 0))]] a' w') ?_ ?_
  ·(refine ⟨_, A.length, rfl, by omega, Nat.le_refl _, ?_⟩; rw [List.take_length, List.drop_length]; refine S.keep ?_; exact zk)
  (clear S; rintro q a w ⟨t, rfl, htu, htA, S⟩)
  (revert S a; refine go 7 ?_; intro Z hZ a S)
  refine wpc_sp S rfl ?_ ?_ <;> intro h
  ·(revert S a; revert hZ Z; refine go 4 ?_; intro Z hZ a S)
   (obtain ⟨z, hz⟩ : ∃ z, A[t - 1]? = some z := ⟨_, List.getElem?_eq_getElem (by omega)⟩; have hqz : Q z := hA z (List.mem_of_getElem? hz); obtain ⟨et, ed⟩ := take_up hz; rw [show t - 1 + 1 = t by omega] at et ed; have htl : (A.take (t - 1)).length = t - 1 := (by rw [List.length_take]; omega); have htd : (A.drop t).length = A.length - t := List.length_drop; rw [et] at S; have hcl := insC_len P (A.take (t - 1) ++ [z]) x (vals (A.drop t) ++ D); simp only [List.length_cons, List.length_append, List.length_nil, vals_len] at hcl)
   (refine wpc_mixM [0, 1, 2, 3, 4, 5, 6, 7, 8, 9, 10, 11, 12, 13, 14, 16] [9, 13] [15, 17] (.one 0 (.one 1 (.one 2 (.one 3 (.one 4 (.one 5 (.one 6 (.one 7 (.one 8 (.one 9 (.one 10 (.one 11 (.one 12 (.one 13 (.one 14 (.one 15 (.one 16 (.one 17 .nil)))))))))))))))))) [bd] S mixed (by kernel_rfl) ?_; clear S; intro w S)
   (revert S a; refine go 4 ?_; intro a S)
   first | (refine wpm_v S rfl rfl rfl (want_none _ rfl) rfl rfl (fun w' S => sv_subN (q := 1) S rfl rfl rfl (by omega)) ?_; clear S a; intro a S) | (refine wpm_v S rfl rfl rfl (want_none _ rfl) rfl rfl (fun w' S => sv_sub S rfl rfl rfl (by omega)) ?_; clear S a; intro a S)
   (revert S a; refine go 2 ?_; intro a S)
   first | (refine wpm_v S rfl rfl rfl (want_none _ rfl) rfl rfl (fun w' S => sv_subN (q := 1) S rfl rfl rfl (by omega)) ?_; clear S a; intro a S) | (refine wpm_v S rfl rfl rfl (want_none _ rfl) rfl rfl (fun w' S => sv_sub S rfl rfl rfl (by omega)) ?_; clear S a; intro a S)
   (revert S a; refine go 1 ?_; intro a S)
   (refine wpm_lateO bd S rfl rfl rfl (want_none _ rfl) rfl rfl (fun w' S => sv_loadO S rfl rfl (by have := insC_z P (A.take (t - 1)) z x (vals (A.drop t) ++ D); rw [htl] at this; rw [Nat.zero_add, Nat.mul_one, show P.length + t - 1 = P.length + (t - 1) by omega]; exact this)) ?_; clear S a; intro a S)
   (revert S a; refine go 3 ?_; intro a S)
   (refine wpm_lateO bd S rfl rfl rfl (want_none _ rfl) rfl rfl (fun w' S => sv_loadO S rfl rfl (by have := insC_x P (A.take (t - 1) ++ [z]) x (vals (A.drop t) ++ D); rw [List.length_append, htl] at this; rw [Nat.zero_add, Nat.mul_one, show P.length + t = P.length + (t - 1 + [z].length) by simp; omega]; exact this)) ?_; clear S a; intro a S)
   (revert S a; refine go 2 ?_; intro a S)
   (refine wpl_store1 S rfl rfl rfl rfl rfl (hC.one _ hqz) (by omega) ?_; clear S; intro w S)
   (revert S a; refine go 2 ?_; intro a S)
   refine wpm_eff rfl rfl (fun h => absurd h (by decide)) ?_
   (refine wpl_store1 S rfl rfl rfl rfl rfl (hC.one _ hx) (by rw [List.length_set]; omega) ?_; clear S; intro w S; rw [insC_step P (A.take (t - 1)) z x _ (by omega) (by omega), show z.1 :: (vals (A.drop t) ++ D) = vals (A.drop (t - 1)) ++ D from (by rw [ed]; rfl)] at S)
   refine wpList_nil ?_
   refine wpm_nil (fun h => absurd h (by decide)) ?_
   (revert S a; revert hZ Z; refine go 3 ?_; intro a S)
   first | (refine wv S (sv_subN (q := 1) S rfl rfl rfl (by omega)) ?_; clear S a; intro a S) | (refine wv S (sv_sub S rfl rfl rfl (by omega)) ?_; clear S a; intro a S)
   (revert S a; refine go 2 ?_; intro a S)
   change ∃ m', _ ∧ _
   (have e9 : P.length + t - 1 = P.length + (t - 1) := (by omega); rw [e9] at S; refine ⟨t - 1 - u, by omega, t - 1, rfl, by omega, by omega, ?_⟩; (refine S.keep ?_; exact zk))
  (refine wp_exit ?_; conv => whnf)
  clear hZ Z
  (refine hZ _ _ ?_; clear hZ Z)
  refine wp_ret (fin_ret S (results0 Tryz.results157) ?_)
  (obtain rfl : t = u := (by omega); refine ⟨A.take t ++ x :: A.drop t, ?_, put_le hC.ord (by rw [List.take_append_drop]; exact hs) (fun z hz => by have := hI.take.1 z hz; have h9 : ltC c x z = false := (by simpa using this); exact h9) (fun z hz => hC.ord.asy (by have := hI.take.2 z hz; have h9 : ltC c x z = true := (by simpa using this); exact h9)), by unfold insC; rw [vals_app]; simp [vals]⟩; have := List.perm_middle (a := x) (l₁ := A.take t) (l₂ := A.drop t); rw [List.take_append_drop] at this; exact this.trans (List.perm_append_comm (l₁ := [x])))
 (skip; (try simp only [tq] at h); omega)
end Go.Proofs.YtbhipiepfclneaaGreatDoor
