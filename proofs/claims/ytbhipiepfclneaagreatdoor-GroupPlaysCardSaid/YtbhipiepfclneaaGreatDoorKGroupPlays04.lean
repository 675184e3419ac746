/- Walks. -/
import Derived.Test.YtbhipiepfclneaaGreatDoorKGroupPlays03
set_option maxHeartbeats 16000000
namespace Go.Proofs.YtbhipiepfclneaaGreatDoor
open Go Go.Wk Go.Un Go.De Go.Num
set_option linter.unusedSimpArgs false
set_option linter.unusedVariables false
attribute [local irreducible] Go.wpList Go.Code.wp Go.wpStill Go.Wk.q26 Go.bodyPost Go.Calls Go.Wk.Ct Go.Wk.q0u Go.Wk.wpG Go.Wk.wpM
section
variable {P : Program} {n : Sz} {L : List (Nat × Value)} {w0 : World} {F0 : q01} {K0 : List Nat} {F : q01} {G : List Grp} {a : Act} {w : World} {o : Oper}
theorem qin {x : Operand} {k' : IntKind} {p : Int} {s t : TypeId} {ks : IntKind} [hs : Und P s (.int ks)] [ht : Und P t (.int .u64)] (S : St n L w0 F0 K0 F G a w) (ho : o.op = .convert s t x) (hx : ev L x = some (.int k' p))
  (hb : 0 ≤ p ∧ p ≤ 18446744073709551615) : SV P o a w (.int .u64 p) := by
 have := q4s (P := P) (k := .u64) S ho hx
 rwa [IntWalk.u64_in _ hb] at this
theorem qde {x y : Operand} {p : Int} {q : Nat} {t yt : TypeId} (S : St n L w0 F0 K0 F G a w) (ho : o.op = .binOp .shr t x y yt) (hx : ev L x = some (.int .u64 p)) (hy : ev L y = some (.int .u64 1)) (hq : p = (q : Int)) : SV P o a w (.int .u64 ((q / 2 : Nat) : Int)) := by
 subst hq
 have h1 : (eqGuard .shr t x y (.int .u64 (q : Int)) (.int .u64 1)).run P w = .ok () w := by unfold eqGuard; rfl
 unfold SV execOp
 rw [ho]
 simp [S.fr.eval hx, S.fr.eval hy, h1, binOp_shr, shift_shr_u64]
end
theorem qxq (P : List Value) (B : List Vr) (z x : Vr) (R : List Value) {i j : Nat} (hi : i = P.length + B.length) (hj : j = P.length + B.length + 1) : ((q62 P B x (z.1 :: R)).set i z.1).set j x.1 = q62 P (B ++ [z]) x R := by
 have e : q62 P B x (z.1 :: R) = (P ++ q0n B) ++ x.1 :: ([] ++ z.1 :: R) := by unfold q62; simp
 have l : (P ++ q0n B).length = P.length + B.length := by rw [qaA, q0g]
 rw [e, qgi (by omega) (by rw [qaD]; omega)]
 unfold q62; rw [q10]; simp [q0n]
theorem q80 {P D : List Value} {X : List Vr} {k : Nat} {z : Vr} (h : X[k]? = some z) : (P ++ (q0n X ++ D))[P.length + k]? = some z.1 := by
 have hk := (List.getElem?_eq_some_iff.1 h).1
 rw [List.getElem?_append_right (by omega), List.getElem?_append_left (by rw [q0g]; omega), show P.length + k - P.length = k by omega]
 unfold q0n
 rw [List.getElem?_map, h]; rfl
theorem q6n.dn {X : List Vr} {yes : Vr → Bool} {u v k : Nat} {z : Vr} (h : q6n X yes u v) (hk : u ≤ k ∧ k < v) (hz : X[k]? = some z) (hy : yes z = false) : q6n X yes u k := ⟨by omega, by have := h.hv; omega, h.lo, fun _ => ⟨z, hz, hy⟩⟩
theorem u0c (P : List Value) (B : List Vr) (x : Vr) (z : Value) (R : List Value) : (q62 P B x (z :: R))[P.length + B.length + 1]? = some z := by
 have e : q62 P B x (z :: R) = (P ++ q0n B ++ [x.1]) ++ z :: R := by unfold q62; simp
 rw [e, List.getElem?_append_right (by simp [q0g]; omega)]
 simp [q0g]
 rw [show P.length + B.length + 1 - (P.length + (B.length + 1)) = 0 by omega]; rfl
theorem qnj {B : List Vr} {t : Nat} {z : Vr} (h : B[t]? = some z) : B.take (t + 1) = B.take t ++ [z] ∧ B.drop t = z :: B.drop (t + 1) := by
 obtain ⟨h1, rfl⟩ := List.getElem?_eq_some_iff.1 h
 exact ⟨by rw [List.take_succ_eq_append_getElem h1], List.drop_eq_getElem_cons h1⟩
theorem u1t {p : Prop} (h : p := by (first | (refine ⟨v - ((u + v) / 2 + 1), by omega, (u + v) / 2 + 1, v, rfl, hI.up ⟨by omega, by omega⟩ hz (decide_eq_true (by assumption)), ?_⟩; (refine S.keep ?_; exact zk); done) | (refine ⟨(u + v) / 2 - u, by omega, u, (u + v) / 2, rfl, hI.dn ⟨by omega, by omega⟩ hz (decide_eq_false (by omega)), ?_⟩; (refine S.keep ?_; exact zk); done))) : p := h
theorem u2d (F : q01) (bd n cap : Nat) (T : TypeId) (fid : FuncId) (fi ca : List Value) [hfn : q0b Tryz.prog fid] (Q : Vr → Prop) (c : Vr → Vr → Int) (hC : qqp F fid fi ca Q c) (P D : List Value) (x : Vr) (B : List Vr) (hx : Q x) (hB : ∀ y ∈ B, Q y) (hs : Srt (ltC c) B) (pa pm pb : Nat) (ha : pa = P.length) (hpm : pm = P.length + 1) (hb : pb = P.length + 1 + B.length) (hl : pb ≤ n) (hl2 : n ≤ P.length + 1 + B.length + D.length) (hm : n ≤ 1000000000000) :
  Ct Tryz.prog 157 [.slice (some ⟨bd, 0, none⟩) n cap, .int .i64 (pa : Nat), .int .i64 (pm : Nat), .int .i64 (pb : Nat), .func (.func fid) ⟨fi⟩ ⟨ca⟩] F [[(bd, .cells ⟨P ++ (x.1 :: (q0n B ++ D))⟩ T (0, 0))]]
   (fun _ G' u => ∃ Y : List Vr, Y.Perm (x :: B) ∧ Srt (ltC c) Y ∧ G' = [[(bd, .cells ⟨P ++ (q0n Y ++ D)⟩ T (0, 0))]]) := by
 refine Ct.enter Tryz.func157 rfl Tryz.ntmps157 rfl fun w0 a S => ?_
 revert a; refine go 4 ?_; intro Z hZ Z hZ a S
 first | (refine wv S (q12 S rfl rfl rfl (by omega)) ?_; clear S a; intro a S) | (refine wv S (q1a S rfl rfl rfl (by omega)) ?_; clear S a; intro a S)
 revert a; revert Z; refine go 3 ?_; intro a S
 refine q0l S rfl (fun h => ?_) (fun h => ?_)
 ·(try simp only [tq] at h)
  revert a; refine go 12 ?_; intro Z hZ a S
  refine q04 (fun q a' w' => ∃ (u v : Nat), q = v - u ∧ q6n B (fun z => ltC c z x) u v ∧ St 220 [(0, .slice (some ⟨bd, 0, none⟩) n cap), (1, .int .i64 (pa : Nat)), (4, .func (.func fid) ⟨fi⟩ ⟨ca⟩), (10, .int .i64 ((pm + u : Nat) : Int)), (11, .int .i64 ((pm + v : Nat) : Int))] w0 F (keys [[(bd, .cells ⟨P ++ (x.1 :: (q0n B ++ D))⟩ T (0, 0))]]) F [[(bd, .cells ⟨P ++ (x.1 :: (q0n B ++ D))⟩ T (0, 0))]] a' w') ?_ ?_
  ·(have e9 : pb = pm + B.length := (by omega); rw [e9] at S; refine ⟨_, 0, B.length, rfl, q6n.zero _ _, ?_⟩; refine S.keep ?_; exact zk)
  (clear S; rintro q a w ⟨u, v, rfl, hI, S⟩; have hI1 := hI.uv; have hI2 := hI.hv)
  revert a; refine go 7 ?_; intro Z hZ a S
  refine q00 S rfl ?_ ?_ <;> intro h
  ·revert a; revert Z; refine go 7 ?_; intro Z hZ a S
   (refine wv S (qin S rfl rfl (by omega)) ?_; clear S a; intro a S)
   (refine wv S (qde (q := pm + u + (pm + v)) S rfl rfl rfl (by omega)) ?_; clear S a; intro a S)
   (refine wv S (q1l S rfl rfl (by omega)) ?_; clear S a; intro a S)
   revert a; revert Z; refine go 3 ?_; intro a S
   (refine wp_seq_k ?_; intro Z hZ)
   (have e5 : (pm + u + (pm + v)) / 2 = pm + (u + v) / 2 := (by omega); rw [e5] at S; obtain ⟨z, hz⟩ : ∃ z, B[(u + v) / 2]? = some z := ⟨_, List.getElem?_eq_getElem (by omega)⟩; have hqz : Q z := hB z (List.mem_of_getElem? hz))
   (refine q0k [0, 1, 2, 3, 4, 5, 6, 7, 8, 10] [4, 8] [] (.one 0 (.one 1 (.one 2 (.one 3 (.one 4 (.one 5 (.one 6 (.one 7 (.one 8 (.one 9 (.one 10 .nil))))))))))) [bd] S mixed (by kernel_rfl) ?_; clear S; intro w S)
   revert a; refine go 4 ?_; intro a S
   (refine q1g bd S rfl rfl rfl (q06 _ rfl) rfl rfl (fun w' S => q0f S rfl rfl (by have := q80 (P := P) (D := D) (X := x :: B) (k := (u + v) / 2 + 1) hz; rw [show 0 + (pm + (u + v) / 2) * 1 = P.length + ((u + v) / 2 + 1) by omega]; exact this)) ?_; clear S a; intro a S)
   revert a; refine go 3 ?_; intro a S
   (refine q1g bd S rfl rfl rfl (q06 _ rfl) rfl rfl (fun w' S => q0f S rfl rfl (by have := q80 (P := P) (D := D) (X := x :: B) (k := 0) rfl; rw [show 0 + pa * 1 = P.length + 0 by omega]; exact this)) ?_; clear S a; intro a S)
   refine q1q rfl rfl (kwa S) ?_
   (refine wc0 S (hC.ct z x hqz hx) ?_; clear S a; intro v49 a w hv S; subst hv)
   revert a; revert Z; refine go 4 ?_; intro a S
   refine q00 S rfl ?_ ?_ <;> intro h
   ·revert a; refine go 5 ?_; intro a S
    change ∃ m', _ ∧ _
    exact u1t
   revert a; refine go 4 ?_; intro a S
   change ∃ m', _ ∧ _
   exact u1t
  (refine wp_exit ?_; conv => whnf)
  clear hZ Z
  revert a; revert Z; refine go 2 ?_; intro Z hZ a S
  (refine wp_seq_k ?_; intro Z hZ)
  (obtain rfl : u = v := (by omega); rw [ha] at S)
  revert a; revert Z; refine go 6 ?_; intro a S
  refine q04 (fun q a' w' => ∃ (t : Nat), q = u - t ∧ t ≤ u ∧ St 220 [(0, .slice (some ⟨bd, 0, none⟩) n cap), (10, .int .i64 ((pm + u : Nat) : Int)), (13, .int .i64 ((P.length + t : Nat) : Int))] w0 F (keys [[(bd, .cells ⟨P ++ (x.1 :: (q0n B ++ D))⟩ T (0, 0))]]) F [[(bd, .cells ⟨q62 P (B.take t) x (q0n (B.drop t) ++ D)⟩ T (0, 0))]] a' w') ?_ ?_
  ·(refine ⟨_, 0, rfl, Nat.zero_le _, ?_⟩; refine S.keep ?_; exact zk)
  (clear S; rintro q a w ⟨t, rfl, htu, S⟩)
  revert a; refine go 4 ?_; intro Z hZ Z hZ a S
  first | (refine wv S (q12 (q := 1) S rfl rfl rfl (by omega)) ?_; clear S a; intro a S) | (refine wv S (q1a S rfl rfl rfl (by omega)) ?_; clear S a; intro a S)
  revert a; revert Z; refine go 3 ?_; intro a S
  refine q00 S rfl ?_ ?_ <;> intro h
  ·revert a; revert Z; refine go 4 ?_; intro Z hZ a S
   (obtain ⟨z, hz⟩ : ∃ z, B[t]? = some z := ⟨_, List.getElem?_eq_getElem (by omega)⟩; have hqz : Q z := hB z (List.mem_of_getElem? hz); obtain ⟨et, ed⟩ := qnj hz; have htl : (B.take t).length = t := (by rw [qaI]; omega); have htd : (B.drop (t + 1)).length = B.length - (t + 1) := qaJ; rw [show q0n (B.drop t) ++ D = z.1 :: (q0n (B.drop (t + 1)) ++ D) from (by rw [ed]; rfl)] at S; have hcl := qc7 P (B.take t) x (z.1 :: (q0n (B.drop (t + 1)) ++ D)); simp only [qaC, qaA, q0g] at hcl)
   (refine q0k [0, 1, 2, 3, 4, 5, 6, 7, 8, 9, 10, 11, 12, 13, 14, 16] [9, 13] [15, 17] (.one 0 (.one 1 (.one 2 (.one 3 (.one 4 (.one 5 (.one 6 (.one 7 (.one 8 (.one 9 (.one 10 (.one 11 (.one 12 (.one 13 (.one 14 (.one 15 (.one 16 (.one 17 .nil)))))))))))))))))) [bd] S mixed (by kernel_rfl) ?_; clear S; intro w S)
   revert a; refine go 9 ?_; intro a S
   (refine q1g bd S rfl rfl rfl (q06 _ rfl) rfl rfl (fun w' S => q0f S rfl rfl (by have := u0c P (B.take t) x z.1 (q0n (B.drop (t + 1)) ++ D); rw [htl] at this; simpa using this)) ?_; clear S a; intro a S)
   revert a; refine go 3 ?_; intro a S
   (refine q1g bd S rfl rfl rfl (q06 _ rfl) rfl rfl (fun w' S => q0f S rfl rfl (by have := qaz P (B.take t) x (z.1 :: (q0n (B.drop (t + 1)) ++ D)); rw [htl] at this; simpa using this)) ?_; clear S a; intro a S)
   revert a; refine go 2 ?_; intro a S
   (refine q0e S rfl rfl rfl rfl rfl (hC.one _ hqz) (by omega) ?_; clear S; intro w S)
   revert a; refine go 2 ?_; intro a S
   refine q1q rfl rfl (fun h => absurd h (by decide)) ?_
   (refine q0e S rfl rfl rfl rfl rfl (hC.one _ hx) (by rw [List.length_set, Nat.zero_add, Nat.mul_one]; show P.length + t + 1 < _; omega) ?_; clear S; intro w S; rw [Nat.zero_add, Nat.mul_one, Nat.zero_add, Nat.mul_one] at S; replace S : St _ _ _ _ _ _ [[(bd, .cells ⟨((q62 P (B.take t) x (z.1 :: (q0n (B.drop (t + 1)) ++ D))).set (P.length + t) z.1).set (P.length + t + 1) x.1⟩ T (0, 0))]] _ _ := S; rw [qxq P (B.take t) z x _ (by omega) (by omega), ← et] at S)
   refine wpList_nil ?_
   refine q5g (fun h => absurd h (by decide)) ?_
   revert a; revert Z; refine go 6 ?_; intro a S
   change ∃ m', _ ∧ _
   (refine ⟨u - (t + 1), by omega, t + 1, rfl, by omega, ?_⟩; (refine S.keep ?_; exact zk))
  (refine wp_exit ?_; conv => whnf)
  clear hZ Z
  (refine hZ _ _ ?_; clear hZ Z)
  refine wp_ret (q08 S (q0x Tryz.results157) ?_)
  (obtain rfl : t = u := (by omega); refine ⟨B.take t ++ x :: B.drop t, ?_, qnu hC.ord (by rw [List.take_append_drop]; exact hs) (fun z hz => hC.ord.asy (hI.take.1 z hz)) (fun z hz => hI.take.2 z hz), by unfold q62; rw [q10]; simp [q0n]⟩; have := List.perm_middle (a := x) (l₁ := B.take t) (l₂ := B.drop t); rw [List.take_append_drop] at this; exact this)
 (skip; (try simp only [tq] at h); omega)
theorem u3c {p : Prop} (h : p := by (first | (refine ⟨v - ((u + v) / 2 + 1), by omega, (u + v) / 2 + 1, v, rfl, hI.up ⟨by omega, by omega⟩ hz (by rw [show ltC c x z = false from decide_eq_false (by omega)]; rfl), ?_⟩; (refine S.keep ?_; exact zk); done) | (refine ⟨(u + v) / 2 - u, by omega, u, (u + v) / 2, rfl, hI.dn ⟨by omega, by omega⟩ hz (by rw [show ltC c x z = true from decide_eq_true (by omega)]; rfl), ?_⟩; (refine S.keep ?_; exact zk); done))) : p := h
theorem u0e (F : q01) (bd n cap : Nat) (T : TypeId) (fid : FuncId) (fi ca : List Value) [hfn : q0b Tryz.prog fid] (Q : Vr → Prop) (c : Vr → Vr → Int) (hC : qqp F fid fi ca Q c) (P D : List Value) (x : Vr) (A : List Vr) (hx : Q x) (hA : ∀ y ∈ A, Q y) (hs : Srt (ltC c) A) (pa pm pb : Nat) (ha : pa = P.length) (hpm : pm = P.length + A.length) (hb : pb = P.length + A.length + 1) (hA1 : A.length ≠ 1) (hl : pb ≤ n) (hl2 : n ≤ P.length + A.length + 1 + D.length) (hm : n ≤ 1000000000000) :
  Ct Tryz.prog 157 [.slice (some ⟨bd, 0, none⟩) n cap, .int .i64 (pa : Nat), .int .i64 (pm : Nat), .int .i64 (pb : Nat), .func (.func fid) ⟨fi⟩ ⟨ca⟩] F [[(bd, .cells ⟨P ++ (q0n A ++ (x.1 :: D))⟩ T (0, 0))]]
   (fun _ G' u => ∃ Y : List Vr, Y.Perm (A ++ [x]) ∧ Srt (ltC c) Y ∧ G' = [[(bd, .cells ⟨P ++ (q0n Y ++ D)⟩ T (0, 0))]]) := by
 refine Ct.enter Tryz.func157 rfl Tryz.ntmps157 rfl fun w0 a S => ?_
 revert a; refine go 4 ?_; intro Z hZ Z hZ a S
 first | (refine wv S (q12 S rfl rfl rfl (by omega)) ?_; clear S a; intro a S) | (refine wv S (q1a S rfl rfl rfl (by omega)) ?_; clear S a; intro a S)
 revert a; revert Z; refine go 3 ?_; intro a S
 refine q0l S rfl (fun h => ?_) (fun h => ?_)
 ·(skip; (try simp only [tq] at h); omega)
 (try simp only [tq] at h)
 revert a; revert Z; refine go 6 ?_; intro Z hZ Z hZ a S
 first | (refine wv S (q12 S rfl rfl rfl (by omega)) ?_; clear S a; intro a S) | (refine wv S (q1a S rfl rfl rfl (by omega)) ?_; clear S a; intro a S)
 revert a; revert Z; refine go 3 ?_; intro a S
 refine q0l S rfl (fun h => ?_) (fun h => ?_)
 ·(try simp only [tq] at h)
  revert a; refine go 12 ?_; intro Z hZ a S
  refine q04 (fun q a' w' => ∃ (u v : Nat), q = v - u ∧ q6n A (fun z => !ltC c x z) u v ∧ St 220 [(0, .slice (some ⟨bd, 0, none⟩) n cap), (2, .int .i64 (pm : Nat)), (4, .func (.func fid) ⟨fi⟩ ⟨ca⟩), (14, .int .i64 ((pa + u : Nat) : Int)), (15, .int .i64 ((pa + v : Nat) : Int))] w0 F (keys [[(bd, .cells ⟨P ++ (q0n A ++ (x.1 :: D))⟩ T (0, 0))]]) F [[(bd, .cells ⟨P ++ (q0n A ++ (x.1 :: D))⟩ T (0, 0))]] a' w') ?_ ?_
  ·(have e9 : pm = pa + A.length := (by omega); rw [e9] at S; refine ⟨_, 0, A.length, rfl, q6n.zero _ _, ?_⟩; rw [e9]; refine S.keep ?_; exact zk)
  (clear S; rintro q a w ⟨u, v, rfl, hI, S⟩; have hI1 := hI.uv; have hI2 := hI.hv)
  revert a; refine go 7 ?_; intro Z hZ a S
  refine q00 S rfl ?_ ?_ <;> intro h
  ·revert a; revert Z; refine go 7 ?_; intro Z hZ a S
   (refine wv S (qin S rfl rfl (by omega)) ?_; clear S a; intro a S)
   (refine wv S (qde (q := pa + u + (pa + v)) S rfl rfl rfl (by omega)) ?_; clear S a; intro a S)
   (refine wv S (q1l S rfl rfl (by omega)) ?_; clear S a; intro a S)
   revert a; revert Z; refine go 3 ?_; intro a S
   (refine wp_seq_k ?_; intro Z hZ)
   (have e5 : (pa + u + (pa + v)) / 2 = pa + (u + v) / 2 := (by omega); rw [e5] at S; obtain ⟨z, hz⟩ : ∃ z, A[(u + v) / 2]? = some z := ⟨_, List.getElem?_eq_getElem (by omega)⟩; have hqz : Q z := hA z (List.mem_of_getElem? hz))
   (refine q0k [0, 1, 2, 3, 4, 5, 6, 7, 8, 10, 11] [4, 8] [] (.one 0 (.one 1 (.one 2 (.one 3 (.one 4 (.one 5 (.one 6 (.one 7 (.one 8 (.one 9 (.one 10 (.one 11 .nil)))))))))))) [bd] S mixed (by kernel_rfl) ?_; clear S; intro w S)
   revert a; refine go 4 ?_; intro a S
   (refine q1g bd S rfl rfl rfl (q06 _ rfl) rfl rfl (fun w' S => q0f S rfl rfl (by have := qaz P A x D; unfold q62 at this; rw [show 0 + pm * 1 = P.length + A.length by omega]; exact this)) ?_; clear S a; intro a S)
   revert a; refine go 3 ?_; intro a S
   (refine q1g bd S rfl rfl rfl (q06 _ rfl) rfl rfl (fun w' S => q0f S rfl rfl (by have := q80 (P := P) (D := x.1 :: D) (X := A) hz; rw [show 0 + (pa + (u + v) / 2) * 1 = P.length + (u + v) / 2 by omega]; exact this)) ?_; clear S a; intro a S)
   refine q1q rfl rfl (kwa S) ?_
   (refine wc0 S (hC.ct x z hx hqz) ?_; clear S a; intro v101 a w hv S; subst hv)
   revert a; revert Z; refine go 5 ?_; intro a S
   refine q00 S rfl ?_ ?_ <;> intro h
   ·revert a; refine go 5 ?_; intro a S
    change ∃ m', _ ∧ _
    exact u3c
   revert a; refine go 4 ?_; intro a S
   change ∃ m', _ ∧ _
   exact u3c
  (refine wp_exit ?_; conv => whnf)
  clear hZ Z
  revert a; revert Z; refine go 2 ?_; intro Z hZ a S
  (refine wp_seq_k ?_; intro Z hZ)
  (obtain rfl : u = v := (by omega); rw [hpm] at S)
  revert a; revert Z; refine go 6 ?_; intro a S
  refine q04 (fun q a' w' => ∃ (t : Nat), q = t - u ∧ u ≤ t ∧ t ≤ A.length ∧ St 220 [(0, .slice (some ⟨bd, 0, none⟩) n cap), (14, .int .i64 ((pa + u : Nat) : Int)), (17, .int .i64 ((P.length + t : Nat) : Int))] w0 F (keys [[(bd, .cells ⟨P ++ (q0n A ++ (x.1 :: D))⟩ T (0, 0))]]) F [[(bd, .cells ⟨q62 P (A.take t) x (q0n (A.drop t) ++ D)⟩ T (0, 0))]] a' w') ?_ ?_
  ·(refine ⟨_, A.length, rfl, by omega, Nat.le_refl _, ?_⟩; rw [List.take_length, List.drop_length]; refine S.keep ?_; exact zk)
  (clear S; rintro q a w ⟨t, rfl, htu, htA, S⟩)
  revert a; refine go 7 ?_; intro Z hZ a S
  refine q00 S rfl ?_ ?_ <;> intro h
  ·revert a; revert Z; refine go 4 ?_; intro Z hZ a S
   (obtain ⟨z, hz⟩ : ∃ z, A[t - 1]? = some z := ⟨_, List.getElem?_eq_getElem (by omega)⟩; have hqz : Q z := hA z (List.mem_of_getElem? hz); obtain ⟨et, ed⟩ := qnj hz; rw [show t - 1 + 1 = t by omega] at et ed; have htl : (A.take (t - 1)).length = t - 1 := (by rw [qaI]; omega); have htd : (A.drop t).length = A.length - t := qaJ; rw [et] at S; have hcl := qc7 P (A.take (t - 1) ++ [z]) x (q0n (A.drop t) ++ D); simp only [qaC, qaA, qaD, q0g] at hcl)
   (refine q0k [0, 1, 2, 3, 4, 5, 6, 7, 8, 9, 10, 11, 12, 13, 14, 16] [9, 13] [15, 17] (.one 0 (.one 1 (.one 2 (.one 3 (.one 4 (.one 5 (.one 6 (.one 7 (.one 8 (.one 9 (.one 10 (.one 11 (.one 12 (.one 13 (.one 14 (.one 15 (.one 16 (.one 17 .nil)))))))))))))))))) [bd] S mixed (by kernel_rfl) ?_; clear S; intro w S)
   revert a; refine go 4 ?_; intro a S
   first | (refine q19 S rfl rfl rfl (q06 _ rfl) rfl rfl (fun w' S => q12 (q := 1) S rfl rfl rfl (by omega)) ?_; clear S a; intro a S) | (refine q19 S rfl rfl rfl (q06 _ rfl) rfl rfl (fun w' S => q1a S rfl rfl rfl (by omega)) ?_; clear S a; intro a S)
   revert a; refine go 2 ?_; intro a S
   first | (refine q19 S rfl rfl rfl (q06 _ rfl) rfl rfl (fun w' S => q12 (q := 1) S rfl rfl rfl (by omega)) ?_; clear S a; intro a S) | (refine q19 S rfl rfl rfl (q06 _ rfl) rfl rfl (fun w' S => q1a S rfl rfl rfl (by omega)) ?_; clear S a; intro a S)
   revert a; refine go 1 ?_; intro a S
   (refine q1g bd S rfl rfl rfl (q06 _ rfl) rfl rfl (fun w' S => q0f S rfl rfl (by have := qud P (A.take (t - 1)) z x (q0n (A.drop t) ++ D); rw [htl] at this; rw [Nat.zero_add, Nat.mul_one, show P.length + t - 1 = P.length + (t - 1) by omega]; exact this)) ?_; clear S a; intro a S)
   revert a; refine go 3 ?_; intro a S
   (refine q1g bd S rfl rfl rfl (q06 _ rfl) rfl rfl (fun w' S => q0f S rfl rfl (by have := qaz P (A.take (t - 1) ++ [z]) x (q0n (A.drop t) ++ D); rw [qaA, htl] at this; rw [Nat.zero_add, Nat.mul_one, show P.length + t = P.length + (t - 1 + [z].length) by simp; omega]; exact this)) ?_; clear S a; intro a S)
   revert a; refine go 2 ?_; intro a S
   (refine q0e S rfl rfl rfl rfl rfl (hC.one _ hqz) (by omega) ?_; clear S; intro w S)
   revert a; refine go 2 ?_; intro a S
   refine q1q rfl rfl (fun h => absurd h (by decide)) ?_
   (refine q0e S rfl rfl rfl rfl rfl (hC.one _ hx) (by rw [List.length_set]; omega) ?_; clear S; intro w S; rw [qf9 P (A.take (t - 1)) z x _ (by omega) (by omega), show z.1 :: (q0n (A.drop t) ++ D) = q0n (A.drop (t - 1)) ++ D from (by rw [ed]; rfl)] at S)
   refine wpList_nil ?_
   refine q5g (fun h => absurd h (by decide)) ?_
   revert a; revert Z; refine go 3 ?_; intro a S
   first | (refine wv S (q12 (q := 1) S rfl rfl rfl (by omega)) ?_; clear S a; intro a S) | (refine wv S (q1a S rfl rfl rfl (by omega)) ?_; clear S a; intro a S)
   revert a; refine go 2 ?_; intro a S
   change ∃ m', _ ∧ _
   (have e9 : P.length + t - 1 = P.length + (t - 1) := (by omega); rw [e9] at S; refine ⟨t - 1 - u, by omega, t - 1, rfl, by omega, by omega, ?_⟩; (refine S.keep ?_; exact zk))
  (refine wp_exit ?_; conv => whnf)
  clear hZ Z
  (refine hZ _ _ ?_; clear hZ Z)
  refine wp_ret (q08 S (q0x Tryz.results157) ?_)
  (obtain rfl : t = u := (by omega); refine ⟨A.take t ++ x :: A.drop t, ?_, qnu hC.ord (by rw [List.take_append_drop]; exact hs) (fun z hz => by have := hI.take.1 z hz; have h9 : ltC c x z = false := (by simpa using this); exact h9) (fun z hz => hC.ord.asy (by have := hI.take.2 z hz; have h9 : ltC c x z = true := (by simpa using this); exact h9)), by unfold q62; rw [q10]; simp [q0n]⟩; have := List.perm_middle (a := x) (l₁ := A.take t) (l₂ := A.drop t); rw [List.take_append_drop] at this; exact this.trans (List.perm_append_comm (l₁ := [x])))
 (skip; (try simp only [tq] at h); omega)
theorem qtd {P D : List Value} {A B : List Vr} {k : Nat} {z : Vr} (h : B[k]? = some z) : (P ++ (q0n A ++ (q0n B ++ D)))[P.length + A.length + k]? = some z.1 := by
 have := q80 (P := P ++ q0n A) (D := D) h
 rw [qaA, q0g, qaB] at this
 exact this
def u77 (F : q01) (bd n cap : Nat) (T : TypeId) (fid : FuncId) (fi ca : List Value) (Q : Vr → Prop) (c : Vr → Vr → Int) (N : Nat) : Prop :=
 ∀ (P D : List Value) (A B : List Vr) (pa pm pb : Nat), A.length + B.length < N → 0 < A.length → 0 < B.length → (∀ y ∈ A, Q y) → (∀ y ∈ B, Q y) → Srt (ltC c) A → Srt (ltC c) B → pa = P.length → pm = P.length + A.length → pb = P.length + A.length + B.length → pb ≤ n → n ≤ P.length + A.length + B.length + D.length →
  Ct Tryz.prog 157 [.slice (some ⟨bd, 0, none⟩) n cap, .int .i64 (pa : Nat), .int .i64 (pm : Nat), .int .i64 (pb : Nat), .func (.func fid) ⟨fi⟩ ⟨ca⟩] F [[(bd, .cells ⟨P ++ (q0n A ++ (q0n B ++ D))⟩ T (0, 0))]]
   (fun _ G' u => ∃ Y : List Vr, Y.Perm (A ++ B) ∧ Srt (ltC c) Y ∧ G' = [[(bd, .cells ⟨P ++ (q0n Y ++ D)⟩ T (0, 0))]])
theorem qnk {A B : List Vr} {c : Vr → Vr → Int} {pa pm pb mid s0 r0 s : Nat} (h : u2b A B c pa mid s0 r0 s s) (hA : pm = pa + A.length) (hB : pb = pm + B.length) (h2 : 2 ≤ B.length) (hmid : mid = (pa + pb) / 2)
  (hc : (mid < pm ∧ s0 = mid + pm - pb ∧ r0 = mid) ∨ (pm ≤ mid ∧ s0 = pa ∧ r0 = pm)) :
  s - pa ≤ A.length ∧ mid - s ≤ B.length ∧ pa ≤ s ∧ s ≤ mid ∧ (∀ x y, (A.take (s - pa)).getLast? = some x → (B.drop (mid - s)).head? = some y → ltC c y x = false) ∧ (∀ x y, (B.take (mid - s)).getLast? = some x → (A.drop (s - pa)).head? = some y → ltC c x y = true) := by
 obtain ⟨h1, -, h3, hlo, hhi⟩ := h
 have e1 : s - pa ≤ A.length := by omega
 have e2 : mid - s ≤ B.length := by omega
 have e3 : pa ≤ s := by omega
 have e4 : s ≤ mid := by omega
 refine ⟨e1, e2, e3, e4, fun x y hx hy => ?_, fun x y hx hy => ?_⟩
 ·rw [List.head?_drop] at hy
  have hy2 := (List.getElem?_eq_some_iff.1 hy).1
  have hu : 0 < s - pa := Nat.pos_of_ne_zero fun e => by rw [e, List.take_zero] at hx; cases hx
  rw [List.getLast?_eq_getElem?, qaI, Nat.min_eq_left e1, List.getElem?_take, if_pos (by omega)] at hx
  obtain ⟨y', z', a1, a2, a3⟩ := hlo (by omega)
  rw [show s - 1 - pa = s - pa - 1 by omega] at a2
  rw [hy] at a1; rw [hx] at a2
  cases a1; cases a2; exact a3
 ·rw [List.head?_drop] at hy
  have hy2 := (List.getElem?_eq_some_iff.1 hy).1
  have hv : 0 < mid - s := Nat.pos_of_ne_zero fun e => by rw [e, List.take_zero] at hx; cases hx
  rw [List.getLast?_eq_getElem?, qaI, Nat.min_eq_left e2, List.getElem?_take, if_pos (by omega)] at hx
  obtain ⟨y', z', a1, a2, a3⟩ := hhi (by omega)
  rw [show mid - 1 - s = mid - s - 1 by omega] at a1
  rw [hx] at a1; rw [hy] at a2
  cases a1; cases a2; exact a3
theorem ql4 {P D : List Value} {A B A1 A2 B1 B2 : List Vr} (eA : A1 ++ A2 = A) (eB : B1 ++ B2 = B) (h : A2.length = 0 ∨ B1.length = 0) : P ++ (q0n A ++ (q0n B ++ D)) = P ++ (q0n A1 ++ (q0n B1 ++ (q0n A2 ++ (q0n B2 ++ D)))) := by
 subst eA; subst eB
 rw [q10, q10]
 rcases h with h | h
 ·rw [List.length_eq_zero_iff.1 h]; simp [q0n]
 ·rw [List.length_eq_zero_iff.1 h]; simp [q0n]
theorem u3n {P D : List Value} {A B A1 A2 B1 B2 : List Vr} (eA : A1 ++ A2 = A) (eB : B1 ++ B2 = B) : P ++ (q0n A ++ (q0n B ++ D)) = (P ++ q0n A1) ++ (q0n A2 ++ (q0n B1 ++ (q0n B2 ++ D))) := by
 subst eA; subst eB
 rw [q10, q10]
 simp only [qaB]
theorem qbb {lt : Vr → Vr → Bool} {A B : List Vr} (hA : Srt lt A) (hB : Srt lt B) (h : A.length = 0 ∨ B.length = 0) : Srt lt (A ++ B) := by
 rcases h with h | h
 ·rw [List.length_eq_zero_iff.1 h]; exact hB
 ·rw [List.length_eq_zero_iff.1 h, qaE]; exact hA
theorem u18 {p : Prop} (h : p := by (first | (refine ⟨r - (k + 1), by omega, k + 1, r, rfl, ⟨by omega, by omega, hI3, fun _ => ⟨y, z, by rw [show mid - (k + 1) = mid - 1 - k by omega]; exact hy, by rw [show k + 1 - 1 - pa = k - pa by omega]; exact hz, decide_eq_false (by omega)⟩, hI.hi⟩, ?_⟩; (refine S.keep ?_; exact zk); done) | (refine ⟨k - s, by omega, s, k, rfl, ⟨hI1, by omega, by omega, hI.lo, fun _ => ⟨y, z, hy, hz, decide_eq_true (by omega)⟩⟩, ?_⟩; (refine S.keep ?_; exact zk); done))) : p := h
theorem qzv {p : Prop} (h : p := by (first | (have hq1 := hp1; refine ⟨C1, hp1, hs1, ?_⟩; (refine S.keep ?_; exact zk); done) | (have e1 : P ++ (q0n A1 ++ (q0n B1 ++ (q0n A2 ++ (q0n B2 ++ D)))) = P ++ (q0n (A1 ++ B1) ++ (q0n A2 ++ (q0n B2 ++ D))) := (by rw [q10, qaB]); rw [e1] at S; refine ⟨A1 ++ B1, List.Perm.refl _, qbb sA1 sB1 (by omega), ?_⟩; (refine S.keep ?_; exact zk)))) : p := h
theorem u2e {p : Prop} (h : p := by (first | (have hgt : mid < pm := (by omega); refine ⟨mid + pm - pb, mid, .inl ⟨hgt, rfl, rfl⟩, ?_⟩; (refine S.keep ?_; exact zk); done) | (refine ⟨pa, pm, .inr ⟨by omega, rfl, rfl⟩, ?_⟩; (refine S.keep ?_; exact zk); done))) : p := h
theorem u36 (F : q01) (bd n cap : Nat) (T : TypeId) (fid : FuncId) (fi ca : List Value) [hfn : q0b Tryz.prog fid] (Q : Vr → Prop) (c : Vr → Vr → Int) (hC : qqp F fid fi ca Q c) (P D : List Value) (A B : List Vr) (ih : u77 F bd n cap T fid fi ca Q c (A.length + B.length)) (hA : ∀ y ∈ A, Q y) (hB : ∀ y ∈ B, Q y) (hsA : Srt (ltC c) A) (hsB : Srt (ltC c) B) (pa pm pb : Nat) (ha : pa = P.length) (hpm : pm = P.length + A.length) (hb : pb = P.length + A.length + B.length) (hA1 : 2 ≤ A.length) (hB1 : 2 ≤ B.length) (hl : pb ≤ n) (hl2 : n ≤ P.length + A.length + B.length + D.length) (hm : n ≤ 1000000000000) :
    Ct Tryz.prog 157 [.slice (some ⟨bd, 0, none⟩) n cap, .int .i64 (pa : Nat), .int .i64 (pm : Nat), .int .i64 (pb : Nat), .func (.func fid) ⟨fi⟩ ⟨ca⟩] F [[(bd, .cells ⟨P ++ (q0n A ++ (q0n B ++ D))⟩ T (0, 0))]]
      (fun _ G' u => ∃ Y : List Vr, Y.Perm (A ++ B) ∧ Srt (ltC c) Y ∧ G' = [[(bd, .cells ⟨P ++ (q0n Y ++ D)⟩ T (0, 0))]]) := by
  obtain ⟨mid, hmid⟩ : ∃ mid, mid = (pa + pb) / 2 := ⟨_, rfl⟩
  refine Ct.enter Tryz.func157 rfl Tryz.ntmps157 rfl fun w0 a S => ?_
  revert a; refine go 4 ?_; intro Z hZ Z hZ a S
  first | (refine wv S (q12 S rfl rfl rfl (by omega)) ?_; clear S a; intro a S) | (refine wv S (q1a S rfl rfl rfl (by omega)) ?_; clear S a; intro a S)
  revert a; revert Z; refine go 3 ?_; intro a S
  refine q0l S rfl (fun h => ?_) (fun h => ?_)
  · (skip; (try simp only [tq] at h); omega)
  (try simp only [tq] at h)
  revert a; revert Z; refine go 6 ?_; intro Z hZ Z hZ a S
  first | (refine wv S (q12 S rfl rfl rfl (by omega)) ?_; clear S a; intro a S) | (refine wv S (q1a S rfl rfl rfl (by omega)) ?_; clear S a; intro a S)
  revert a; revert Z; refine go 3 ?_; intro a S
  refine q0l S rfl (fun h => ?_) (fun h => ?_)
  · (skip; (try simp only [tq] at h); omega)
  (try simp only [tq] at h)
  revert a; revert Z; refine go 6 ?_; intro Z hZ a S
  (refine wv S (qin S rfl rfl (by omega)) ?_; clear S a; intro a S)
  (refine wv S (qde (q := pa + pb) S rfl rfl rfl (by omega)) ?_; clear S a; intro a S)
  (refine wv S (q1l S rfl rfl (by omega)) ?_; clear S a; intro a S; rw [← hmid] at S)
  revert a; revert Z; refine go 15 ?_; intro a S
  (refine wp_seq_k ?_; intro Z hZ)
  replace hZ : ∀ (a' : Act) (w' : World), (∃ (s0 r0 : Nat), ((mid < pm ∧ s0 = mid + pm - pb ∧ r0 = mid) ∨ (pm ≤ mid ∧ s0 = pa ∧ r0 = pm)) ∧ St 220 [(0, .slice (some ⟨bd, 0, none⟩) n cap), (1, .int .i64 (pa : Nat)), (2, .int .i64 (pm : Nat)), (3, .int .i64 (pb : Nat)), (4, .func (.func fid) ⟨fi⟩ ⟨ca⟩), (18, .int .i64 (mid : Nat)), (19, .int .i64 ((mid + pm : Nat) : Int)), (20, .int .i64 (s0 : Nat)), (21, .int .i64 (r0 : Nat))] w0 F (keys [[(bd, .cells ⟨P ++ (q0n A ++ (q0n B ++ D))⟩ T (0, 0))]]) F [[(bd, .cells ⟨P ++ (q0n A ++ (q0n B ++ D))⟩ T (0, 0))]] a' w') → Z a' w' := (by
   (intro a w hM; refine hZ _ _ ?_; clear hZ Z; clear S; obtain ⟨s0, r0, hsr, S⟩ := hM)
   revert a; refine go 2 ?_; intro Z hZ a S
   first | (refine wv S (q12 (q := 1) S rfl rfl rfl (by omega)) ?_; clear S a; intro a S) | (refine wv S (q1a S rfl rfl rfl (by omega)) ?_; clear S a; intro a S)
   revert a; revert Z; refine go 5 ?_; intro Z hZ a S
   refine q04 (fun q a' w' => ∃ (s r : Nat), q = r - s ∧ u2b A B c pa mid s0 r0 s r ∧ St 220 [(0, .slice (some ⟨bd, 0, none⟩) n cap), (1, .int .i64 (pa : Nat)), (2, .int .i64 (pm : Nat)), (3, .int .i64 (pb : Nat)), (4, .func (.func fid) ⟨fi⟩ ⟨ca⟩), (18, .int .i64 (mid : Nat)), (19, .int .i64 ((mid + pm : Nat) : Int)), (22, .int .i64 ((mid + pm - 1 : Nat) : Int)), (20, .int .i64 (s : Nat)), (21, .int .i64 (r : Nat))] w0 F (keys [[(bd, .cells ⟨P ++ (q0n A ++ (q0n B ++ D))⟩ T (0, 0))]]) F [[(bd, .cells ⟨P ++ (q0n A ++ (q0n B ++ D))⟩ T (0, 0))]] a' w') ?_ ?_
   · (refine ⟨_, s0, r0, rfl, ⟨Nat.le_refl _, by omega, Nat.le_refl _, fun h => absurd h (Nat.lt_irrefl _), fun h => absurd h (Nat.lt_irrefl _)⟩, ?_⟩; refine S.keep ?_; exact zk)
   (clear S; rintro q a w ⟨s, r, rfl, hI, S⟩; have hI1 := hI.ha; have hI2 := hI.hb; have hI3 := hI.hc)
   revert a; refine go 7 ?_; intro Z hZ a S
   refine q00 S rfl ?_ ?_ <;> intro h
   · revert a; revert Z; refine go 7 ?_; intro Z hZ a S
     (refine wv S (qin S rfl rfl (by omega)) ?_; clear S a; intro a S)
     (refine wv S (qde (q := s + r) S rfl rfl rfl (by omega)) ?_; clear S a; intro a S)
     (refine wv S (q1l S rfl rfl (by omega)) ?_; clear S a; intro a S)
     revert a; revert Z; refine go 3 ?_; intro a S
     (refine wp_seq_k ?_; intro Z hZ)
     (obtain ⟨k, hk⟩ : ∃ k, k = (s + r) / 2 := ⟨_, rfl⟩; rw [← hk] at S; obtain ⟨y, hy⟩ : ∃ y, B[mid - 1 - k]? = some y := ⟨_, List.getElem?_eq_getElem (by omega)⟩; obtain ⟨z, hz⟩ : ∃ z, A[k - pa]? = some z := ⟨_, List.getElem?_eq_getElem (by omega)⟩; have hqy : Q y := hB y (List.mem_of_getElem? hy); have hqz : Q z := hA z (List.mem_of_getElem? hz))
     (refine q0k [0, 1, 2, 3, 4, 5, 6, 7, 8, 9, 10, 12, 13] [6, 10] [] (.one 0 (.one 1 (.one 2 (.one 3 (.one 4 (.one 5 (.one 6 (.one 7 (.one 8 (.one 9 (.one 10 (.one 11 (.one 12 (.one 13 .nil)))))))))))))) [bd] S mixed (by kernel_rfl) ?_; clear S; intro w S)
     revert a; refine go 4 ?_; intro a S
     first | (refine q19 S rfl rfl rfl (q06 _ rfl) rfl rfl (fun w' S => q12 S rfl rfl rfl (by omega)) ?_; clear S a; intro a S) | (refine q19 S rfl rfl rfl (q06 _ rfl) rfl rfl (fun w' S => q1a S rfl rfl rfl (by omega)) ?_; clear S a; intro a S)
     revert a; refine go 1 ?_; intro a S
     (refine q1g bd S rfl rfl rfl (q06 _ rfl) rfl rfl (fun w' S => q0f S rfl rfl (by have := qtd (P := P) (D := D) (A := A) hy; rw [Nat.zero_add, Nat.mul_one, show mid + pm - 1 - k = P.length + A.length + (mid - 1 - k) by omega]; exact this)) ?_; clear S a; intro a S)
     revert a; refine go 3 ?_; intro a S
     (refine q1g bd S rfl rfl rfl (q06 _ rfl) rfl rfl (fun w' S => q0f S rfl rfl (by have := q80 (P := P) (D := q0n B ++ D) (X := A) hz; rw [Nat.zero_add, Nat.mul_one, show k = P.length + (k - pa) by omega]; exact this)) ?_; clear S a; intro a S)
     refine q1q rfl rfl (kwa S) ?_
     (refine wc0 S (hC.ct y z hqy hqz) ?_; clear S a; intro v169 a w hv S; subst hv)
     revert a; revert Z; refine go 5 ?_; intro a S
     refine q00 S rfl ?_ ?_ <;> intro h
     · revert a; refine go 5 ?_; intro a S
       change ∃ m', _ ∧ _
       exact u18
     revert a; refine go 4 ?_; intro a S
     change ∃ m', _ ∧ _
     exact u18
   (refine wp_exit ?_; conv => whnf)
   clear hZ Z
   (refine hZ _ _ ?_; clear hZ Z)
   (refine wp_seq_k ?_; intro Z hZ)
   (obtain rfl : s = r := (by omega); obtain ⟨f1, f2, f3, f4, f5, f6⟩ := qnk (pm := pm) (pb := pb) hI (by omega) (by omega) hB1 hmid hsr; have eA : A.take (s - pa) ++ A.drop (s - pa) = A := List.take_append_drop _ _; have eB : B.take (mid - s) ++ B.drop (mid - s) = B := List.take_append_drop _ _; generalize hA1d : A.take (s - pa) = A1 at *; generalize hA2d : A.drop (s - pa) = A2 at *; generalize hB1d : B.take (mid - s) = B1 at *; generalize hB2d : B.drop (mid - s) = B2 at *; have lA1 : A1.length = s - pa := (by rw [← hA1d, qaI]; omega); have lA2 : A2.length = A.length - (s - pa) := (by rw [← hA2d, qaJ]); have lB1 : B1.length = mid - s := (by rw [← hB1d, qaI]; omega); have lB2 : B2.length = B.length - (mid - s) := (by rw [← hB2d, qaJ]); have qA1 : ∀ y ∈ A1, Q y := (fun y h => hA y (by rw [← eA]; exact List.mem_append.2 (.inl h))); have qA2 : ∀ y ∈ A2, Q y := (fun y h => hA y (by rw [← eA]; exact List.mem_append.2 (.inr h))); have qB1 : ∀ y ∈ B1, Q y := (fun y h => hB y (by rw [← eB]; exact List.mem_append.2 (.inl h))); have qB2 : ∀ y ∈ B2, Q y := (fun y h => hB y (by rw [← eB]; exact List.mem_append.2 (.inr h))); have sA1 : Srt (ltC c) A1 := Srt.left (B := A2) (by rw [eA]; exact hsA); have sA2 : Srt (ltC c) A2 := Srt.right (A := A1) (by rw [eA]; exact hsA); have sB1 : Srt (ltC c) B1 := Srt.left (B := B2) (by rw [eB]; exact hsB); have sB2 : Srt (ltC c) B2 := Srt.right (A := B1) (by rw [eB]; exact hsB))
   revert a; refine go 3 ?_; intro a S
   first | (refine wv S (q12 S rfl rfl rfl (by omega)) ?_; clear S a; intro a S) | (refine wv S (q1a S rfl rfl rfl (by omega)) ?_; clear S a; intro a S)
   revert a; revert Z; refine go 3 ?_; intro a S
   (refine wp_seq_k ?_; intro Z hZ)
   replace hZ : ∀ (a' : Act) (w' : World), (s = s ∧ St 220 [(0, .slice (some ⟨bd, 0, none⟩) n cap), (1, .int .i64 (pa : Nat)), (3, .int .i64 (pb : Nat)), (4, .func (.func fid) ⟨fi⟩ ⟨ca⟩), (18, .int .i64 (mid : Nat)), (20, .int .i64 (s : Nat)), (24, .int .i64 ((mid + pm - s : Nat) : Int))] w0 F (keys [[(bd, .cells ⟨P ++ (q0n A ++ (q0n B ++ D))⟩ T (0, 0))]]) F [[(bd, .cells ⟨P ++ (q0n A1 ++ (q0n B1 ++ (q0n A2 ++ (q0n B2 ++ D))))⟩ T (0, 0))]] a' w') → Z a' w' := (by
    (intro a w hM; refine hZ _ _ ?_; clear hZ Z; clear S; obtain ⟨-, S⟩ := hM)
    (refine wp_seq_k ?_; intro Z hZ)
    replace hZ : ∀ (a' : Act) (w' : World), (∃ (C1 : List Vr), C1.Perm (A1 ++ B1) ∧ Srt (ltC c) C1 ∧ St 220 [(0, .slice (some ⟨bd, 0, none⟩) n cap), (3, .int .i64 (pb : Nat)), (4, .func (.func fid) ⟨fi⟩ ⟨ca⟩), (18, .int .i64 (mid : Nat)), (24, .int .i64 ((mid + pm - s : Nat) : Int))] w0 F (keys [[(bd, .cells ⟨P ++ (q0n A ++ (q0n B ++ D))⟩ T (0, 0))]]) F [[(bd, .cells ⟨P ++ (q0n C1 ++ (q0n A2 ++ (q0n B2 ++ D)))⟩ T (0, 0))]] a' w') → Z a' w' := (by
     (intro a w hM; refine hZ _ _ ?_; clear hZ Z; clear S; obtain ⟨C1, hp1, hs1, S⟩ := hM)
     (refine wp_seq_k ?_; intro Z hZ)
     (have lC1 := hp1.length_eq; rw [qaA] at lC1)
     revert a; refine go 5 ?_; intro a S
     refine wgd S ?_ ?_
     · (clear S; intro h S)
       revert a; revert Z; refine go 8 ?_; intro a S
       refine q00 S rfl ?_ ?_ <;> intro h
       · revert a; refine go 6 ?_; intro a S
         (replace S : St _ _ _ _ _ _ [[(bd, .cells ⟨(P ++ q0n C1) ++ (q0n A2 ++ (q0n B2 ++ D))⟩ T (0, 0))]] _ _ := (by rw [qaB P]; exact S); refine q02 (Gs := [[(bd, .cells ⟨(P ++ q0n C1) ++ (q0n A2 ++ (q0n B2 ++ D))⟩ T (0, 0))]]) (Gr := []) S rfl rfl rfl rfl rfl rfl (ih (P ++ q0n C1) D A2 B2 mid (mid + pm - s) pb (by omega) (by omega) (by omega) qA2 qB2 sA2 sB2 (by rw [qaA, q0g]; omega) (by rw [qaA, q0g]; omega) (by rw [qaA, q0g]; omega) (by omega) (by rw [qaA, q0g]; omega)) rfl (by simp) ?_; clear S a; intro v219 G9 a w hv S; obtain ⟨C2, hp2, hs2, rfl⟩ := hv)
         refine wpList_nil ?_
         refine q1m S (q0x Tryz.results157) ?_
         ((first | (have hq2 := hp2; skip) | (obtain ⟨C2, hp2, hs2, e2⟩ : ∃ C2, C2.Perm (A2 ++ B2) ∧ Srt (ltC c) C2 ∧ P ++ (q0n C1 ++ (q0n A2 ++ (q0n B2 ++ D))) = (P ++ q0n C1) ++ (q0n C2 ++ D) := ⟨A2 ++ B2, List.Perm.refl _, qbb sA2 sB2 (by omega), by rw [q10]; simp only [qaB]⟩; rw [e2])); have hmg := qc5 hC.ord (by rw [eA]; exact hsA) (by rw [eB]; exact hsB) f5 f6 hp1 hp2 hs1 hs2; rw [eA, eB] at hmg; exact ⟨C1 ++ C2, hmg.2, hmg.1, by rw [q10]; simp only [qaB, qaE]⟩)
       refine wp_skip ?_
       refine q1m S (q0x Tryz.results157) ?_
       ((first | (have hq2 := hp2; skip) | (obtain ⟨C2, hp2, hs2, e2⟩ : ∃ C2, C2.Perm (A2 ++ B2) ∧ Srt (ltC c) C2 ∧ P ++ (q0n C1 ++ (q0n A2 ++ (q0n B2 ++ D))) = (P ++ q0n C1) ++ (q0n C2 ++ D) := ⟨A2 ++ B2, List.Perm.refl _, qbb sA2 sB2 (by omega), by rw [q10]; simp only [qaB]⟩; rw [e2])); have hmg := qc5 hC.ord (by rw [eA]; exact hsA) (by rw [eB]; exact hsB) f5 f6 hp1 hp2 hs1 hs2; rw [eA, eB] at hmg; exact ⟨C1 ++ C2, hmg.2, hmg.1, by rw [q10]; simp only [qaB, qaE]⟩)
     (clear S a; intro h a S)
     revert a; revert Z; refine go 5 ?_; intro a S
     refine q03 S rfl ?_
     refine wp_skip ?_
     refine q1m S (q0x Tryz.results157) ?_
     ((first | (have hq2 := hp2; skip) | (obtain ⟨C2, hp2, hs2, e2⟩ : ∃ C2, C2.Perm (A2 ++ B2) ∧ Srt (ltC c) C2 ∧ P ++ (q0n C1 ++ (q0n A2 ++ (q0n B2 ++ D))) = (P ++ q0n C1) ++ (q0n C2 ++ D) := ⟨A2 ++ B2, List.Perm.refl _, qbb sA2 sB2 (by omega), by rw [q10]; simp only [qaB]⟩; rw [e2])); have hmg := qc5 hC.ord (by rw [eA]; exact hsA) (by rw [eB]; exact hsB) f5 f6 hp1 hp2 hs1 hs2; rw [eA, eB] at hmg; exact ⟨C1 ++ C2, hmg.2, hmg.1, by rw [q10]; simp only [qaB, qaE]⟩))
    revert a; refine go 5 ?_; intro Z hZ a S
    refine wgd S ?_ ?_
    · (clear S; intro h S)
      revert a; revert Z; refine go 8 ?_; intro a S
      refine q00 S rfl ?_ ?_ <;> intro h
      · revert a; refine go 6 ?_; intro a S
        (refine q02 (Gs := [[(bd, .cells ⟨P ++ (q0n A1 ++ (q0n B1 ++ (q0n A2 ++ (q0n B2 ++ D))))⟩ T (0, 0))]]) (Gr := []) S rfl rfl rfl rfl rfl rfl (ih P (q0n A2 ++ (q0n B2 ++ D)) A1 B1 pa s mid (by omega) (by omega) (by omega) qA1 qB1 sA1 sB1 ha (by omega) (by omega) (by omega) (by rw [qaA, qaA, q0g, q0g]; omega)) rfl (by simp) ?_; clear S a; intro v205 G9 a w hv S; obtain ⟨C1, hp1, hs1, rfl⟩ := hv)
        refine wpList_nil ?_
        (refine hZ _ _ ?_)
        exact qzv
      refine wp_skip ?_
      (refine hZ _ _ ?_)
      exact qzv
    (clear S a; intro h a S)
    revert a; revert Z; refine go 5 ?_; intro a S
    refine q03 S rfl ?_
    refine wp_skip ?_
    (refine hZ _ _ ?_)
    (first | (have hq1 := hp1; refine ⟨C1, hp1, hs1, ?_⟩; (refine S.keep ?_; exact zk); done) | (have e1 : P ++ (q0n A1 ++ (q0n B1 ++ (q0n A2 ++ (q0n B2 ++ D)))) = P ++ (q0n (A1 ++ B1) ++ (q0n A2 ++ (q0n B2 ++ D))) := (by rw [q10, qaB]); rw [e1] at S; refine ⟨A1 ++ B1, List.Perm.refl _, qbb sA1 sB1 (by omega), ?_⟩; (refine S.keep ?_; exact zk))))
   revert a; refine go 5 ?_; intro Z hZ a S
   refine wgd S ?_ ?_
   · (clear S; intro h S)
     revert a; revert Z; refine go 8 ?_; intro a S
     refine q00 S rfl ?_ ?_ <;> intro h
     · revert a; refine go 6 ?_; intro a S
       (rw [u3n eA eB] at S; refine q02 (Gs := [[(bd, .cells ⟨(P ++ q0n A1) ++ (q0n A2 ++ (q0n B1 ++ (q0n B2 ++ D)))⟩ T (0, 0))]]) (Gr := []) S rfl rfl rfl rfl rfl rfl (u5t F bd n cap T (P ++ q0n A1) (q0n A2) (q0n B1) (q0n B2 ++ D) _ _ pm _ (by rw [qaA, q0g]; omega) (by rw [qaA, q0g, q0g, q0g]; omega) hm ⟨by rw [qaA, q0g, q0g]; omega, by rw [q0g]; omega, by rw [q0g]; omega, qje hC qA2, qje hC qB1, by rw [qaA, q0g, q0g, q0g]; omega, by rw [qaA, qaA, q0g, q0g, q0g, q0g]; omega, rfl⟩) rfl (by simp) ?_; clear S a; intro v191 G9 a w hv S; subst hv; replace S : St _ _ _ _ _ _ [[(bd, .cells ⟨P ++ (q0n A1 ++ (q0n B1 ++ (q0n A2 ++ (q0n B2 ++ D))))⟩ T (0, 0))]] _ _ := (by rw [← qaB P]; exact S))
       refine wpList_nil ?_
       (refine hZ _ _ ?_)
       ((first | (rw [ql4 eA eB (by omega)] at S) | skip); refine ⟨rfl, ?_⟩; (refine S.keep ?_; exact zk))
     refine wp_skip ?_
     (refine hZ _ _ ?_)
     ((first | (rw [ql4 eA eB (by omega)] at S) | skip); refine ⟨rfl, ?_⟩; (refine S.keep ?_; exact zk))
   (clear S a; intro h a S)
   revert a; revert Z; refine go 5 ?_; intro a S
   refine q03 S rfl ?_
   refine wp_skip ?_
   (refine hZ _ _ ?_)
   ((first | (rw [ql4 eA eB (by omega)] at S) | skip); refine ⟨rfl, ?_⟩; (refine S.keep ?_; exact zk)))
  revert a; refine go 6 ?_; intro a S
  refine q00 S rfl ?_ ?_ <;> intro h
  · revert a; refine go 3 ?_; intro Z hZ a S
    first | (refine wv S (q12 S rfl rfl rfl (by omega)) ?_; clear S a; intro a S) | (refine wv S (q1a S rfl rfl rfl (by omega)) ?_; clear S a; intro a S)
    revert a; revert Z; refine go 7 ?_; intro a S
    (refine hZ _ _ ?_)
    exact u2e
  revert a; refine go 9 ?_; intro a S
  (refine hZ _ _ ?_)
  exact u2e
theorem u1a (F : q01) (bd n cap : Nat) (T : TypeId) (fid : FuncId) (fi ca : List Value) [hfn : q0b Tryz.prog fid] (Q : Vr → Prop) (c : Vr → Vr → Int) (hC : qqp F fid fi ca Q c) (hm : n ≤ 1000000000000) : ∀ N, u77 F bd n cap T fid fi ca Q c N
 | 0 => fun _ _ _ _ _ _ _ h => absurd h (Nat.not_lt_zero _)
 | N + 1 => fun P D A B pa pm pb hN hA0 hB0 hA hB sA sB ha hpm hb hl hl2 => by
  by_cases h1 : A.length = 1
  ·obtain ⟨x, rfl⟩ : ∃ x, A = [x] := List.length_eq_one_iff.1 h1
   exact u2d F bd n cap T fid fi ca Q c hC P D x B (hA x (List.mem_singleton.2 rfl)) hB sB pa pm pb ha hpm hb hl hl2 hm
  ·by_cases h2 : B.length = 1
   ·obtain ⟨x, rfl⟩ : ∃ x, B = [x] := List.length_eq_one_iff.1 h2
    exact u0e F bd n cap T fid fi ca Q c hC P D x A (hB x (List.mem_singleton.2 rfl)) hA sA pa pm pb ha hpm hb h1 hl hl2 hm
   ·exact u36 F bd n cap T fid fi ca Q c hC P D A B (fun P D A' B' pa pm pb h => u1a F bd n cap T fid fi ca Q c hC hm N P D A' B' pa pm pb (by omega)) hA hB sA sB pa pm pb ha hpm hb (by omega) (by omega) hl hl2 hm
theorem qyf (F : q01) (g : Grp) (v : Value) (f : Value) (pa pb : Nat) (h : pb ≤ pa) (hm : pa ≤ 1000000000000) : Ct Tryz.prog 156 [v, .int .i64 (pa : Nat), .int .i64 (pb : Nat), f] F [g] (fun _ G' u => G' = [g]) := by
 refine Ct.enter Tryz.func156 rfl Tryz.ntmps156 rfl fun w0 a S => ?_
 revert a; refine go 7 ?_; intro a S
 refine q04 (fun q a' w' => q = 0 ∧ St 53 [(2, .int .i64 (pb : Nat)), (8, .int .i64 ((pa + 1 : Nat) : Int))] w0 F (keys [g]) F [g] a' w') ?_ ?_
 ·(refine ⟨0, rfl, ?_⟩; refine S.keep ?_; exact zk)
 (clear S; rintro q a w ⟨rfl, S⟩)
 revert a; refine go 7 ?_; intro Z hZ a S
 refine q0l S rfl (fun h => ?_) (fun h => ?_)
 ·(skip; (try simp only [tq] at h); omega)
 (try simp only [tq] at h)
 (refine wp_exit ?_; conv => whnf)
 refine q1m S (q0x Tryz.results156) ?_
 rfl
theorem qu4 (F : q01) (bd n cap : Nat) (T : TypeId) (fid : FuncId) (fi ca : List Value) [hfn : q0b Tryz.prog fid] (Q : Vr → Prop) (c : Vr → Vr → Int) (hC : qqp F fid fi ca Q c) (P D : List Value) (X : List Vr) (hQ : ∀ x ∈ X, Q x) (pa pb : Nat) (ha : pa = P.length) (hb : pb = P.length + X.length) (hl : pb ≤ n) (hl2 : n ≤ P.length + X.length + D.length) (hm : n ≤ 1000000000000) :
  Ct Tryz.prog 156 [.slice (some ⟨bd, 0, none⟩) n cap, .int .i64 (pa : Nat), .int .i64 (pb : Nat), .func (.func fid) ⟨fi⟩ ⟨ca⟩] F [[(bd, .cells ⟨P ++ (q0n X ++ D)⟩ T (0, 0))]]
   (fun _ G' u => ∃ Y : List Vr, Y.Perm X ∧ Srt (ltC c) Y ∧ G' = [[(bd, .cells ⟨P ++ (q0n Y ++ D)⟩ T (0, 0))]]) := by
 by_cases h : 0 < X.length
 ·exact u3k F bd n cap T fid fi ca Q c hC P D X hQ pa pb ha hb h hl hl2 hm
 ·have hX : X = [] := List.length_eq_zero_iff.1 (by omega)
  subst hX
  exact (qyf F _ _ _ pa pb (by rw [ha, hb]; exact Nat.le_refl _) (by omega)).mono fun _ _ _ e => ⟨[], List.Perm.refl _, List.Pairwise.nil, e⟩
