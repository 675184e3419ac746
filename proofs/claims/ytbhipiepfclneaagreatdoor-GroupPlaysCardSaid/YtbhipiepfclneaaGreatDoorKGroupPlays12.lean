/- Walks. -/
import Derived.Test.YtbhipiepfclneaaGreatDoorKGroupPlays10
import Derived.Test.YtbhipiepfclneaaGreatDoorKGroupPlays11
set_option maxHeartbeats 32000000
set_option maxRecDepth 20000
namespace Go.Proofs.YtbhipiepfclneaaGreatDoor
open Go Go.Wk Go.Un Go.De Go.Num
set_option linter.unusedSimpArgs false
set_option linter.unusedVariables false
attribute [local irreducible] Go.wpList Go.Code.wp Go.wpStill Go.Wk.q26 Go.bodyPost Go.Calls Go.Wk.Ct Go.Wk.q0u Go.Wk.wpG Go.Wk.wpM
def RoQ (F : q01) (_ : q01) (x : Vv) (cs : List Value) : Prop := RoR 4 VhR F x cs
instance {F : q01} : Mon (RoQ F) := ⟨fun _ h => h⟩
def qti (F : q01) (s : List UInt8) (l : List Vv) (u : Value) : Prop := ∃ x cs, u = .tuple ⟨[.agg ⟨cs⟩, .int .i64 (q82 s l).1]⟩ ∧ RoR 4 VhR F x cs ∧ ((q82 s l).1 = 0 → x = (q82 s l).2)
theorem qz1 (F : q01) (n : Int) : RoR 4 VhR F (qmf n) [.int .u8 2, .int .i64 n, .string (bs []), .slice none 0 0] := q7c F 2 n [] (Nat.zero_le _)
theorem u5b (F : q01) (s : List UInt8) (h : s.length ≤ 140737488355328) : RoR 4 VhR F (u5h s) [.int .u8 3, .int .i64 0, .string (bs s), .slice none 0 0] := q7c F 3 0 s h
theorem u55 (F : q01) : RoR 4 VhR F zV [.int .u8 0, .int .i64 0, .string (bs []), .slice none 0 0] := q7c F 0 0 [] (Nat.zero_le _)
theorem qkf (F F4 : q01) (v : Value) (l : List Vv) (hv : LiM F4 4 (RoQ F) v l) (hl : l.length ≤ 1000000) : Ct Tryz.prog 44 [.string (bs q47), v] F4 [] (fun _ _ u => qti F q47 l u) := by
 have e : q82 q47 l = (0, qmf l.length) := by unfold q82; rw [if_pos rfl]
 unfold qti
 rw [e]
 obtain ⟨ao, cap, rfl, hcap, hpos⟩ := hv
 refine Ct.enter Tryz.func44 rfl Tryz.ntmps44 rfl fun w0 a S => ?_
 refine q1i fun Z hZ => ?_
 (refine q0a S rfl rfl rfl rfl ?_; clear S a; intro b4 a w S)
 revert a; revert Z; refine go 10 ?_; intro Z hZ Z hZ a S
 (refine wv S (q0j (c := true) (q09 S rfl) (by rfl)) ?_; clear S a; intro a S)
 revert a; revert Z; refine go 3 ?_; intro a S
 refine q0h S rfl ?_
 revert a; refine go 4 ?_; intro Z hZ a S
 (refine wso S rfl rfl ?_; clear S; intro w S)
 revert a; revert Z; refine go 3 ?_; intro a S
 refine wp_ret (q08 S (q0v Tryz.results44 (RV.cellO S rfl (by rfl)) (RV.tmp S rfl)) ?_)
 exact ⟨_, _, rfl, qz1 F _, fun _ => rfl⟩
theorem qer {M : Nat} : ∀ (l : List Vv), (∀ x ∈ l, (q6w x).natAbs < 10 ^ M) → ((l.map q6w).sum).natAbs < 10 ^ (M + l.length)
 | [], _ => Nat.pow_pos (by decide)
 | x :: r, h => by
  have h1 := qer r fun y hy => h y (List.mem_cons_of_mem _ hy)
  have h2 := q84 h1 (h x (qaH ..))
  rw [List.map_cons, List.sum_cons, qaC]
  refine Nat.lt_of_le_of_lt ?_ h2
  omega
theorem qnp {x : Vv} (h : q8b x) : (q6w x).natAbs < 10 ^ 200 := by
 obtain ⟨h1, h2⟩ := qac h
 obtain ⟨h3, h4, -⟩ := q1h h1
 rw [← h2, qm4]
 exact Nat.lt_of_lt_of_le (q2o _ h3) (qfk h4)
theorem qj8 : ∀ {l : List Vv}, (∀ x ∈ l, q8b x) → qdp (l.map txN) = (l.map q6w).sum
 | [], _ => rfl
 | x :: r, h => by
  rw [List.map_cons, q44, List.map_cons, List.sum_cons, qj8 fun y hy => h y (List.mem_cons_of_mem _ hy), (qac (h x (qaH ..))).2]
theorem qfo : ∀ (l : List Vv), (∀ x ∈ l, q8b x ∧ x.1.k = 2) → ((l.map q6w).sum).natAbs ≤ l.length * 9223372036854775808
 | [], _ => Nat.zero_le _
 | x :: r, h => by
  have h1 := qfo r fun y hy => h y (List.mem_cons_of_mem _ hy)
  obtain ⟨h2, h3⟩ := h x (qaH ..)
  have h4 : i64 (q6w x) := by
   unfold q6w
   rw [if_pos h3]
   rcases h2 with h2 | h2
   ·exact h2.2
   ·omega
  rw [List.map_cons, List.sum_cons, qaC]
  have h5 := h4.1
  have h6 := h4.2
  omega
theorem u2i (z : Int) : qke (zT z) = (Lib.decDigits z.natAbs).length ∧ zT z ≠ [] ∧ (zT z).length ≤ (Lib.decDigits z.natAbs).length + 1 := by
 have hp := q4c z.natAbs
 unfold qke zT
 by_cases hz : z < 0
 ·rw [if_pos hz]
  refine ⟨?_, by simp, by simp⟩
  rw [if_pos (by rfl)]
  simp
 ·rw [if_neg hz, qaG]
  refine ⟨?_, qt6 _, by omega⟩
  rw [if_neg]
  have h1 := q4v (q35 z.natAbs) (k := 0) (by omega)
  unfold isD at h1
  simp only [Bool.and_eq_true, decide_eq_true_eq] at h1
  omega
theorem u24 {z : Int} (h : (Lib.decDigits z.natAbs).length ≤ 200) : qgu (zT z) = if q41 z = true then (z, 0) else (0, 80) := by
 have h1 := qjt.2 h
 obtain ⟨h2, h3⟩ := q42 h1
 rw [qg4 h1] at h2 h3
 unfold qgu
 rw [if_pos h2, h3]
theorem qob {l : List Vv} {x : Vv} (h : l[0]? = some x) : l.headD zV = x := by
 cases l with
 | nil => cases h
 | cons y r => cases h; rfl
theorem u27 {x : Vv} (h : q8b x) (hk : x.1.k = 2) : zT x.1.n = txN x ∧ i64 x.1.n := by
 rcases h with h | h
 ·refine ⟨?_, h.2⟩
  unfold txN
  rw [if_pos hk, qg4 (q3a h.2)]
 ·omega
theorem u4i {x : Vv} (hk : ¬ x.1.k = 2) : x.1.s = txN x := by unfold txN; rw [if_neg hk]
theorem u1u {p : Prop} (h : p := by (refine ⟨trivial, ?_⟩; first | (rw [(u27 hxo (by omega)).1] at S; (refine S.keep ?_; exact zk); done) | (rw [u4i (by omega)] at S; (refine S.keep ?_; exact zk); done))) : p := h
theorem qwt {p : Prop} (h : p := by (unfold qg7; rw [hhd]; first | (rw [if_pos (by omega), if_neg (by rw [hsh]; omega)]; exact ⟨_, _, rfl, u55 F, fun _ => rfl⟩) | (rw [if_pos (by omega), if_pos (by rw [hsh]; omega), qg4 (hsh.2 (by omega))]; exact ⟨_, _, rfl, u5b F _ (by omega), fun _ => rfl⟩) | (rw [if_neg (show ¬ x0.1.k = 3 by omega)]; by_cases hf : q41 (l.map q6w).sum = true <;> first | (simp only [if_pos hf]; exact ⟨_, _, rfl, qz1 F _, fun _ => rfl⟩) | (simp only [if_neg hf]; exact ⟨_, _, rfl, qz1 F _, fun h9 => absurd h9 (show ¬ (80 : Int) = 0 by decide)⟩)))) : p := h
theorem qr3 (F F4 : q01) (v : Value) (l : List Vv) (hv : LiM F4 4 (RoQ F) v l) (h0 : 0 < l.length) (hl : l.length ≤ 100000) (hok : ∀ x ∈ l, q8b x) (hkk : ∀ x ∈ l, ∀ y ∈ l, x.1.k = y.1.k) : Ct Tryz.prog 44 [.string (bs q5u), v] F4 [] (fun _ _ u => qti F q5u l u) := by
  have e : q82 q5u l = qg7 l := by unfold q82; rw [if_neg (by decide), if_pos rfl]
  unfold qti
  rw [e]
  have hzs := qj8 hok
  have hzb := qer l fun x hx => qnp (hok x hx)
  have hzl := q3v hzb (by decide)
  obtain ⟨hd1, hd2, hd3⟩ := u2i (l.map q6w).sum
  have hsh := qjt (z := (l.map q6w).sum)
  have hck : ∀ s ∈ l.map txN, q0p s = 0 := fun s hs => by
    obtain ⟨x, hx, rfl⟩ := List.mem_map.1 hs
    exact (qac (hok x hx)).1
  obtain ⟨ao, cap, rfl, hcap, hps⟩ := hv
  obtain ⟨b0, o0, rfl, x0, cs0, hx0, hcc0, hR0⟩ := LiM.pos hps (k := 0) h0
  obtain ⟨a0, c0, rfl⟩ := q4b hR0
  have hhd := qob hx0
  have hx0m := List.mem_of_getElem? hx0
  refine Ct.enter Tryz.func44 rfl Tryz.ntmps44 rfl fun w0 a S => ?_
  refine q1i fun Z hZ => ?_
  (refine q0a S rfl rfl rfl rfl ?_; clear S a; intro b4 a w S)
  revert a; revert Z; refine go 10 ?_; intro Z hZ Z hZ a S
  (refine wv S (q0j (c := false) (q09 S rfl) (by rfl)) ?_; clear S a; intro a S)
  revert a; revert Z; refine go 3 ?_; intro a S
  refine q03 S rfl ?_
  refine q1i fun Z hZ => ?_
  (refine wv S (q0j (c := true) (q09 S rfl) (by rfl)) ?_; clear S a; intro a S)
  revert a; revert Z; refine go 3 ?_; intro a S
  refine q0h S rfl ?_
  revert a; refine go 10 ?_; intro Z hZ a S
  refine q04 (fun m a w' => ∃ (k : Nat) (v : Value) (g : Grp), m = l.length - k ∧ k ≤ l.length ∧ q0u 9 1 v k (strs ((l.take k).map txN)) g ∧ St 105 [(0, .string (bs q5u)), (1, .slice (some ⟨b0, o0, none⟩) l.length cap), (4, ptr b4), (6, v), (7, .int .i64 (k : Int))] w0 F4 [] F4 [g, [(b4, .cells ⟨[.int .u8 0, .int .i64 0, .string (bs []), .slice none 0 0]⟩ 45 (0, 0))]] a w') ?_ ?_
  · (refine ⟨l.length, 0, _, [], by omega, Nat.zero_le _, q0u.nil _ _, ?_⟩; replace S := S.nilg; refine S.keep ?_; exact zk)
  (clear S; rintro m a w ⟨k, v, g, rfl, hk, hown, S⟩)
  revert a; refine go 8 ?_; intro Z hZ a S
  refine q00 S rfl ?_ ?_ <;> intro h
  · revert a; revert Z; refine go 4 ?_; intro Z hZ a S
    (refine wp_seq_k ?_; intro Z hZ)
    (obtain ⟨b8, o8, e8, x, cs1, hx, hcc, hR1⟩ := LiM.pos hps (k := k) (by omega); cases e8; obtain ⟨ax, cx, rfl⟩ := q4b hR1; have hxm := List.mem_of_getElem? hx; have hxo := hok x hxm)
    revert a; refine go 5 ?_; intro a S
    (refine wv S (q05 S rfl rfl (hcc 2 _ rfl)) ?_; clear S a; intro a S)
    revert a; revert Z; refine go 3 ?_; intro a S
    (refine wp_seq_k ?_; intro Z hZ)
    replace hZ : ∀ (a' : Act) (w' : World), (True ∧ St 105 [(0, .string (bs q5u)), (1, .slice (some ⟨b0, o0, none⟩) l.length cap), (4, ptr b4), (6, v), (7, .int .i64 (k : Int)), (8, .string (bs (txN x)))] w0 F4 [] F4 [g, [(b4, .cells ⟨[.int .u8 0, .int .i64 0, .string (bs []), .slice none 0 0]⟩ 45 (0, 0))]] a' w') → Z a' w' := (by
     (intro a w hM; refine hZ _ _ ?_; clear hZ Z; clear S; obtain ⟨-, S⟩ := hM)
     revert a; refine go 3 ?_; intro a S
     (refine q0s S rfl rfl rfl rfl rfl rfl rfl rfl rfl rfl rfl (fun _ => rfl) hown (by rfl) (by simp [Value.cells, splice, splice]) (by simp [Value.cells, Value.oneCell', splice, splice]) rfl (by rfl) (by rfl) rfl (by omega) (by omega) ?_; clear hown S a; intro v u g a w hown S)
     revert a; revert Z; refine go 8 ?_; intro a S
     change ∃ m', _ ∧ _
     (have hown2 : q0u 9 1 v (k + 1) (strs ((l.take (k + 1)).map txN)) g := (by rw [List.take_add_one, hx, List.map_append, q7g]; exact hown); refine ⟨l.length - (k + 1), by omega, k + 1, v, g, rfl, by omega, hown2, ?_⟩; (refine S.keep ?_; exact zk)))
    revert a; refine go 5 ?_; intro Z hZ a S
    (refine wv S (q05 S rfl rfl (hcc 0 _ rfl)) ?_; clear S a; intro a S)
    revert a; revert Z; refine go 3 ?_; intro a S
    refine q00 S rfl ?_ ?_ <;> intro h
    · revert a; refine go 5 ?_; intro a S
      (refine wv S (q05 S rfl rfl (hcc 1 _ rfl)) ?_; clear S a; intro a S)
      (refine wc0 S (u3y F4 x.1.n (u27 hxo (by omega)).2) ?_; clear S a; intro v a w hv S; subst hv)
      revert a; refine go 2 ?_; intro a S
      (refine hZ _ _ ?_)
      exact u1u
    refine wp_skip ?_
    (refine hZ _ _ ?_)
    exact u1u
  (refine wp_exit ?_; conv => whnf)
  clear hZ Z
  (refine hZ _ _ ?_; clear hZ Z)
  (refine wp_seq_k ?_; intro Z hZ)
  (obtain rfl : k = l.length := (by omega); rw [List.take_of_length_le (Nat.le_refl _)] at hown; have hle5 := q2h (G1 := []) S; replace S := St.freeze (G1 := []) S; (simp only [qaG] at S hle5); have hLt := LiC.lim (F := F4) hown (q5r F4 (l.map txN)) (by rw [List.length_map]) hle5 (by omega); obtain ⟨aV, cV, rfl, -, -⟩ := id hLt)
  revert a; refine go 2 ?_; intro a S
  (refine wc0 S (u28 _ _ (l.map txN) hLt (by rw [List.length_map]; omega) hck) ?_; clear S a; intro v9 a w hv9 S; subst hv9; rw [hzs] at S)
  revert a; revert Z; refine go 8 ?_; intro Z hZ Z hZ a S
  (refine wv S (q05 S rfl rfl ((hcc0.mono hle5) 0 _ rfl)) ?_; clear S a; intro a S)
  revert a; revert Z; refine go 3 ?_; intro a S
  refine q00 S rfl ?_ ?_ <;> intro h
  · revert a; refine go 3 ?_; intro Z hZ Z hZ a S
    (refine wc0 S (qfc _ _ hd2 (by omega)) ?_; clear S a; intro v9 a w hv9 S; subst hv9; rw [hd1] at S)
    revert a; revert Z; refine go 3 ?_; intro a S
    refine q00 S rfl ?_ ?_ <;> intro h
    · revert a; refine go 2 ?_; intro Z hZ a S
      (refine wso S rfl rfl ?_; clear S; intro w S)
      revert a; revert Z; refine go 3 ?_; intro a S
      refine wp_ret (q08 S (q0v Tryz.results44 (RV.cellO S rfl (by rfl)) (RV.tmp S rfl)) ?_)
      exact qwt
    revert a; revert Z; refine go 5 ?_; intro Z hZ a S
    (refine wso S rfl rfl ?_; clear S; intro w S)
    revert a; revert Z; refine go 3 ?_; intro a S
    refine wp_ret (q08 S (q0v Tryz.results44 (RV.cellO S rfl (by rfl)) (RV.tmp S rfl)) ?_)
    exact qwt
  revert a; revert Z; refine go 4 ?_; intro Z hZ a S
  (have hib := qfo l (fun x hx => ⟨hok x hx, by have h9 := hkk x hx x0 hx0m; have h8 := hok x0 hx0m; rcases h8 with h8 | h8 <;> omega⟩); have hi30 : (Lib.decDigits ((l.map q6w).sum).natAbs).length ≤ 30 := (q4f (by decide)).2 (by omega); have hia := u24 (z := (l.map q6w).sum) (by omega); refine wc0 S (u2a (zT (l.map q6w).sum) _ (by omega)) ?_; clear S a; intro v9 a w hv9 S; subst hv9; rw [hia] at S; unfold qqn at S)
  revert a; revert Z; refine go 11 ?_; intro Z hZ a S
  (refine wso S rfl rfl ?_; clear S; intro w S)
  revert a; revert Z; refine go 3 ?_; intro a S
  refine wp_ret (q08 S (q0v Tryz.results44 (RV.cellO S rfl (by rfl)) (RV.tmp S rfl)) ?_)
  exact qwt
theorem qzu {p : Prop} (h : p := by (have hst := q7a (cmp := sgF (-1)) (m := x) hy; first | (rw [if_pos (by unfold sgF; omega)] at hst; refine ⟨l.length - (k + 1), by omega, k + 1, y, _, _, rfl, by omega, by omega, by rw [← hmx9, hst], hRy, hm y hym, hdp y hym, ?_⟩; (refine S.keep ?_; exact zk); done) | (rw [if_neg (by unfold sgF; omega)] at hst; refine ⟨l.length - (k + 1), by omega, k + 1, x, _, _, rfl, by omega, by omega, by rw [← hmx9, hst], hR, hmx, hdx, ?_⟩; (refine S.keep ?_; exact zk); done))) : p := h
theorem u3t {p : Prop} (h : p := by (obtain rfl : k = l.length := (by omega); rw [List.drop_of_length_le (Nat.le_refl _)] at hmx9; (simp only [q52] at hmx9); subst hmx9; exact ⟨_, _, rfl, hR, fun _ => rfl⟩)) : p := h
theorem qqw (F F4 : q01) (hle : ∀ b o, F b = some o → F4 b = some o) (v : Value) (l : List Vv) (hv : LiM F4 4 (RoQ F) v l) (h0 : 0 < l.length) (hl : l.length ≤ 100000) (hm : ∀ x ∈ l, q3q x = true) (hdp : ∀ x ∈ l, dpN x.2 ≤ 900000000) : Ct Tryz.prog 44 [.string (bs qjw), v] F4 [] (fun _ _ u => qti F qjw l u) := by
 have e : q82 qjw l = (0, q52 (sgF (-1)) (l.headD zV) (l.drop 1)) := by unfold q82; rw [if_neg (by decide), if_neg (by decide), if_pos rfl]
 unfold qti
 rw [e]
 obtain ⟨ao, cap, rfl, hcap, hps⟩ := hv
 obtain ⟨b0, o0, rfl, x0, cs0, hx0, hcc0, hR0⟩ := LiM.pos hps (k := 0) h0
 obtain ⟨a0, c0, rfl⟩ := q4b hR0
 rw [qob hx0]
 refine Ct.enter Tryz.func44 rfl Tryz.ntmps44 rfl fun w0 a S => ?_
 refine q1i fun Z hZ => ?_
 (refine q0a S rfl rfl rfl rfl ?_; clear S a; intro b4 a w S)
 revert a; revert Z; refine go 10 ?_; intro Z hZ Z hZ a S
 (refine wv S (q0j (c := false) (q09 S rfl) (by rfl)) ?_; clear S a; intro a S)
 revert a; revert Z; refine go 3 ?_; intro a S
 refine q03 S rfl ?_
 refine q1i fun Z hZ => ?_
 (refine wv S (q0j (c := false) (q09 S rfl) (by rfl)) ?_; clear S a; intro a S)
 revert a; revert Z; refine go 3 ?_; intro a S
 refine q03 S rfl ?_
 revert a; revert Z; refine go 5 ?_; intro Z hZ a S
 (refine wv S (q18 S rfl rfl hcc0 rfl) ?_; clear S a; intro a S)
 (refine q0a S rfl rfl rfl rfl ?_; clear S a; intro b12 a w S)
 (refine wso S rfl rfl ?_; clear S; intro w S)
 revert a; revert Z; refine go 8 ?_; intro Z hZ a S
 refine q04 (fun m a w' => ∃ (k : Nat) (x : Vv) (ax : Option Addr) (cx : Nat), m = l.length - k ∧ 1 ≤ k ∧ k ≤ l.length ∧ q52 (sgF (-1)) x (l.drop k) = q52 (sgF (-1)) x0 (l.drop 1) ∧ RoR 4 VhR F x (vcs x ax cx) ∧ q3q x = true ∧ dpN x.2 ≤ 900000000 ∧ St 105 [(0, .string (bs qjw)), (1, .slice (some ⟨b0, o0, none⟩) l.length cap), (4, ptr b4), (12, ptr b12), (13, .int .i64 (k : Int))] w0 F4 [] F4 [[(b12, .cells ⟨vcs x ax cx⟩ 45 (0, 0))], [(b4, .cells ⟨[.int .u8 0, .int .i64 0, .string (bs []), .slice none 0 0]⟩ 45 (0, 0))]] a w') ?_ ?_
 ·(refine ⟨l.length - 1, 1, x0, a0, c0, rfl, Nat.le_refl _, h0, rfl, hR0, hm x0 (List.mem_of_getElem? hx0), hdp x0 (List.mem_of_getElem? hx0), ?_⟩; refine S.keep ?_; exact zk)
 (clear S; rintro m a w ⟨k, x, ax, cx, rfl, hk1, hkl, hmx9, hR, hmx, hdx, S⟩)
 revert a; refine go 8 ?_; intro Z hZ a S
 refine q00 S rfl ?_ ?_ <;> intro h
 ·revert a; revert Z; refine go 4 ?_; intro Z hZ a S
  (refine wp_seq_k ?_; intro Z hZ)
  (obtain ⟨b8, o8, e8, y, cs1, hy, hcc, hRy⟩ := LiM.pos hps (k := k) (by omega); cases e8; obtain ⟨ay, cy, rfl⟩ := q4b hRy; have hym := List.mem_of_getElem? hy)
  (refine q0k [0, 1, 2, 3, 4] [3, 4] [] (.one 0 (.one 1 (.one 2 (.one 3 (.one 4 (.one 5 (.one 6 .nil))))))) [b12] S mixed (by kernel_rfl) ?_; clear S; intro w S)
  revert a; refine go 3 ?_; intro a S
  (refine wlF S rfl (fun w' S => q18 S rfl rfl hcc rfl) ?_; clear S a; intro a S)
  revert a; refine go 2 ?_; intro a S
  (refine wc0 S (quv F4 y x _ _ ((q6d hRy).mono hle) ((q6d hR).mono hle) (hdp y hym) hdx (hm y hym) hmx) ?_; clear S a; intro v9 a w hv9 S; subst hv9)
  revert a; revert Z; refine go 8 ?_; intro Z hZ a S
  (refine wv S (q0j (c := true) (q09 S rfl) (by rfl)) ?_; clear S a; intro a S)
  revert a; refine go 7 ?_; intro a S
  refine wgd S ?_ ?_
  ·(clear S; intro h S)
   revert a; refine go 2 ?_; intro a S
   (refine wv S (q0j (c := false) (q09 S rfl) (by rfl)) ?_; clear S a; intro a S)
   revert a; revert Z; refine go 9 ?_; intro a S
   refine q03 S rfl ?_
   revert a; revert Z; refine go 7 ?_; intro a S
   change ∃ m', _ ∧ _
   exact qzu
  (clear S a; intro h a S)
  revert a; revert Z; refine go 8 ?_; intro a S
  refine q0h S rfl ?_
  revert a; refine go 4 ?_; intro a S
  (refine wv S (q18 S rfl rfl hcc rfl) ?_; clear S a; intro a S)
  (refine wso S rfl rfl ?_; clear S; intro w S)
  revert a; revert Z; refine go 7 ?_; intro a S
  change ∃ m', _ ∧ _
  exact qzu
 (refine wp_exit ?_; conv => whnf)
 clear hZ Z
 revert a; revert Z; refine go 3 ?_; intro Z hZ a S
 (refine wso S rfl rfl ?_; clear S; intro w S)
 revert a; revert Z; refine go 3 ?_; intro a S
 refine wp_ret (q08 S (q0v Tryz.results44 (RV.cellO S rfl (by rfl)) (RV.tmp S rfl)) ?_)
 exact u3t
theorem qzy {p : Prop} (h : p := by (have hst := q7a (cmp := sgF 1) (m := x) hy; first | (rw [if_pos (by unfold sgF; omega)] at hst; refine ⟨l.length - (k + 1), by omega, k + 1, y, _, _, rfl, by omega, by omega, by rw [← hmx9, hst], hRy, hm y hym, hdp y hym, ?_⟩; (refine S.keep ?_; exact zk); done) | (rw [if_neg (by unfold sgF; omega)] at hst; refine ⟨l.length - (k + 1), by omega, k + 1, x, _, _, rfl, by omega, by omega, by rw [← hmx9, hst], hR, hmx, hdx, ?_⟩; (refine S.keep ?_; exact zk); done))) : p := h
theorem qt3 (F F4 : q01) (hle : ∀ b o, F b = some o → F4 b = some o) (v : Value) (l : List Vv) (hv : LiM F4 4 (RoQ F) v l) (h0 : 0 < l.length) (hl : l.length ≤ 100000) (hm : ∀ x ∈ l, q3q x = true) (hdp : ∀ x ∈ l, dpN x.2 ≤ 900000000) : Ct Tryz.prog 44 [.string (bs qkp), v] F4 [] (fun _ _ u => qti F qkp l u) := by
 have e : q82 qkp l = (0, q52 (sgF 1) (l.headD zV) (l.drop 1)) := by unfold q82; rw [if_neg (by decide), if_neg (by decide), if_neg (by decide)]
 unfold qti
 rw [e]
 obtain ⟨ao, cap, rfl, hcap, hps⟩ := hv
 obtain ⟨b0, o0, rfl, x0, cs0, hx0, hcc0, hR0⟩ := LiM.pos hps (k := 0) h0
 obtain ⟨a0, c0, rfl⟩ := q4b hR0
 rw [qob hx0]
 refine Ct.enter Tryz.func44 rfl Tryz.ntmps44 rfl fun w0 a S => ?_
 refine q1i fun Z hZ => ?_
 (refine q0a S rfl rfl rfl rfl ?_; clear S a; intro b4 a w S)
 revert a; revert Z; refine go 10 ?_; intro Z hZ Z hZ a S
 (refine wv S (q0j (c := false) (q09 S rfl) (by rfl)) ?_; clear S a; intro a S)
 revert a; revert Z; refine go 3 ?_; intro a S
 refine q03 S rfl ?_
 refine q1i fun Z hZ => ?_
 (refine wv S (q0j (c := false) (q09 S rfl) (by rfl)) ?_; clear S a; intro a S)
 revert a; revert Z; refine go 3 ?_; intro a S
 refine q03 S rfl ?_
 revert a; revert Z; refine go 5 ?_; intro Z hZ a S
 (refine wv S (q18 S rfl rfl hcc0 rfl) ?_; clear S a; intro a S)
 (refine q0a S rfl rfl rfl rfl ?_; clear S a; intro b12 a w S)
 (refine wso S rfl rfl ?_; clear S; intro w S)
 revert a; revert Z; refine go 8 ?_; intro Z hZ a S
 refine q04 (fun m a w' => ∃ (k : Nat) (x : Vv) (ax : Option Addr) (cx : Nat), m = l.length - k ∧ 1 ≤ k ∧ k ≤ l.length ∧ q52 (sgF 1) x (l.drop k) = q52 (sgF 1) x0 (l.drop 1) ∧ RoR 4 VhR F x (vcs x ax cx) ∧ q3q x = true ∧ dpN x.2 ≤ 900000000 ∧ St 105 [(0, .string (bs qkp)), (1, .slice (some ⟨b0, o0, none⟩) l.length cap), (4, ptr b4), (12, ptr b12), (13, .int .i64 (k : Int))] w0 F4 [] F4 [[(b12, .cells ⟨vcs x ax cx⟩ 45 (0, 0))], [(b4, .cells ⟨[.int .u8 0, .int .i64 0, .string (bs []), .slice none 0 0]⟩ 45 (0, 0))]] a w') ?_ ?_
 ·(refine ⟨l.length - 1, 1, x0, a0, c0, rfl, Nat.le_refl _, h0, rfl, hR0, hm x0 (List.mem_of_getElem? hx0), hdp x0 (List.mem_of_getElem? hx0), ?_⟩; refine S.keep ?_; exact zk)
 (clear S; rintro m a w ⟨k, x, ax, cx, rfl, hk1, hkl, hmx9, hR, hmx, hdx, S⟩)
 revert a; refine go 8 ?_; intro Z hZ a S
 refine q00 S rfl ?_ ?_ <;> intro h
 ·revert a; revert Z; refine go 4 ?_; intro Z hZ a S
  (refine wp_seq_k ?_; intro Z hZ)
  (obtain ⟨b8, o8, e8, y, cs1, hy, hcc, hRy⟩ := LiM.pos hps (k := k) (by omega); cases e8; obtain ⟨ay, cy, rfl⟩ := q4b hRy; have hym := List.mem_of_getElem? hy)
  (refine q0k [0, 1, 2, 3, 4] [3, 4] [] (.one 0 (.one 1 (.one 2 (.one 3 (.one 4 (.one 5 (.one 6 .nil))))))) [b12] S mixed (by kernel_rfl) ?_; clear S; intro w S)
  revert a; refine go 3 ?_; intro a S
  (refine wlF S rfl (fun w' S => q18 S rfl rfl hcc rfl) ?_; clear S a; intro a S)
  revert a; refine go 2 ?_; intro a S
  (refine wc0 S (quv F4 y x _ _ ((q6d hRy).mono hle) ((q6d hR).mono hle) (hdp y hym) hdx (hm y hym) hmx) ?_; clear S a; intro v9 a w hv9 S; subst hv9)
  revert a; revert Z; refine go 8 ?_; intro Z hZ a S
  (refine wv S (q0j (c := false) (q09 S rfl) (by rfl)) ?_; clear S a; intro a S)
  revert a; refine go 8 ?_; intro a S
  (refine wv S (q0j (c := true) (q09 S rfl) (by rfl)) ?_; clear S a; intro a S)
  revert a; revert Z; refine go 11 ?_; intro a S
  refine q00 S rfl ?_ ?_ <;> intro h
  ·revert a; refine go 4 ?_; intro a S
   (refine wv S (q18 S rfl rfl hcc rfl) ?_; clear S a; intro a S)
   (refine wso S rfl rfl ?_; clear S; intro w S)
   revert a; revert Z; refine go 7 ?_; intro a S
   change ∃ m', _ ∧ _
   exact qzy
  revert a; revert Z; refine go 7 ?_; intro a S
  change ∃ m', _ ∧ _
  exact qzy
 (refine wp_exit ?_; conv => whnf)
 clear hZ Z
 revert a; revert Z; refine go 3 ?_; intro Z hZ a S
 (refine wso S rfl rfl ?_; clear S; intro w S)
 revert a; revert Z; refine go 3 ?_; intro a S
 refine wp_ret (q08 S (q0v Tryz.results44 (RV.cellO S rfl (by rfl)) (RV.tmp S rfl)) ?_)
 exact u3t
theorem u4q (F F4 : q01) (hle : ∀ b o, F b = some o → F4 b = some o) (s : List UInt8) (hs : q31 s = true) (v : Value) (l : List Vv) (hv : LiM F4 4 (RoQ F) v l) (h0 : 0 < l.length) (hl : l.length ≤ 100000) (hm : ∀ x ∈ l, q3q x = true) (hdp : ∀ x ∈ l, dpN x.2 ≤ 900000000) (hok : s = q5u → ∀ x ∈ l, q8b x) (hkk : s = q5u → ∀ x ∈ l, ∀ y ∈ l, x.1.k = y.1.k) : Ct Tryz.prog 44 [.string (bs s), v] F4 [] (fun _ _ u => qti F s l u) := by
 have h := of_decide_eq_true hs
 rcases h with rfl | rfl | rfl | rfl
 ·exact qkf F F4 v l hv (by omega)
 ·exact qr3 F F4 v l hv h0 hl (hok rfl) (hkk rfl)
 ·exact qqw F F4 hle v l hv h0 hl hm hdp
 ·exact qt3 F F4 hle v l hv h0 hl hm hdp
def qrj (W : List WyD) (i : Nat) : List Vv := qaj (W.map fun x => (wT x, x.args)) i
theorem qom {W : List WyD} {i k : Nat} {x : WyD} {z : Vv} (h : W[k]? = some x) (hz : x.args.get? i = some z) : qrj (W.take (k + 1)) i = qrj (W.take k) i ++ [z] := by
 unfold qrj qaj
 rw [List.take_add_one, h, List.map_append, List.map_append, Option.toList_some]
 simp [hz]
theorem qdl (W : List WyD) (i : Nat) : (qrj W i).length = W.length := by unfold qrj qaj; rw [List.length_map, List.length_map]
theorem qls {F F2 : q01} : ∀ {l : List Vv} {xs : List Value}, LiC F 4 (RoR 4 VhR) xs l → LiC F2 4 (RoQ F) xs l
 | [], _, h => h
 | x :: l, xs, ⟨cs, r, h1, h2, h3, h4⟩ => ⟨cs, r, h1, h2, h3, qls h4⟩
def u5i (F : q01) (r : Int × Vf) (G' : List Grp) (u : Value) : Prop := ∃ v g xs, u = .tuple ⟨[v, .int .i64 r.1]⟩ ∧ G' = [g] ∧ q0u 45 4 v r.2.len xs g ∧ LiC F 4 (RoR 4 VhR) xs (kids r.2)
theorem u1p {aggs : List (List UInt8)} {X : List WyD} {key : Vf} (h : q2m key = false) : qqr aggs X key = (4, .nil) := by unfold qqr; rw [if_pos h]
theorem u26 {aggs : List (List UInt8)} {X W : List WyD} {key : Vf} (h : q2m key = true) (hW : ofW X key = W) (h0 : W.length = 0) : qqr aggs X key = (5, .nil) := by
 unfold qqr
 rw [if_neg (by rw [h]; decide), hW, if_pos (List.eq_nil_of_length_eq_zero h0)]
theorem u0y {aggs : List (List UInt8)} {X W : List WyD} {key : Vf} (h : q2m key = true) (hW : ofW X key = W) (h0 : W.length ≠ 0) : qqr aggs X key = qut aggs (W.map fun x => (wT x, x.args)) := by
 unfold qqr
 rw [if_neg (by rw [h]; decide), hW, if_neg (fun e => h0 (by rw [e]; rfl))]
theorem q95 (F : q01) (e : Int) {r : Int × Vf} (h : r = (e, .nil)) : u5i F r [[]] (.tuple ⟨[.slice none 0 0, .int .i64 e]⟩) := by
 subst h
 exact ⟨_, _, _, rfl, rfl, q0u.nil _ _, rfl⟩
theorem qxl {F : q01} {v : Value} {g : Grp} {xs : List Value} {n : Nat} {f : Nat → Vv} {r : Int × Vf} (h : r = (0, q1s ((List.range n).map f))) (hO : q0u 45 4 v n xs g) (hL : LiC F 4 (RoR 4 VhR) xs ((List.range n).map f)) : u5i F r [g] (.tuple ⟨[v, .int .i64 0]⟩) := by
 subst h
 refine ⟨v, g, xs, rfl, rfl, ?_, ?_⟩
 ·rw [q2j, List.length_map, List.length_range]; exact hO
 ·rw [q6a]; exact hL
theorem qs5 {p : Prop} (h : p := by (first | exact q95 F 4 (u1p (by assumption)) | exact q95 F 5 (u26 (by assumption) hW (by omega)) | (have hd9 := u0y (aggs := aggs) (by assumption : q2m key = true) hW (by omega); first | (refine q95 F _ (hd9.trans (qbr hi9 (by rw [hrr]; omega) hall)).trans ?_; rw [hrr]) | (have he9 := qbr hi9 (show (q43 aggs (W.map fun x => (wT x, x.args)) i).1 ≠ 0 by rw [hrr]; assumption) hall; rw [← hrr]; exact q95 F _ (hd9.trans he9)) | exact qxl (hd9.trans (qpo hall)) hO hLO))) : p := h
theorem u1z (F F2 : q01) (bx : Nat) (av v : Value) (X : List WyD) (hX : XF F F2 bx av X v) (hl : X.length ≤ 10000) (aggs : List (List UInt8)) (hA : LiM F 1 StR av aggs) (h8 : aggs.length ≤ 8) (hkn : aggs.all q31 = true) (key : Vf) (v1 : Value) (h1 : TrS F 4 VhR v1 key) (hdk : dpN key ≤ 900000000) (hG : WyG aggs (ofW X key)) :
  Ct Tryz.prog 24 [.pointer (some ⟨bx, 0, none⟩), v1] F2 [] (fun _ G' u => u5i F (qqr aggs X key) G' u) := by
 have hle := hX.le
 have hc0 := hX.c0
 have hof := u3a F F2 bx av v X hX (by omega) key v1 (h1.mono hle)
 have hrw := q8g F2 key v1 hdk (h1.mono hle)
 generalize hW : ofW X key = W at *
 have hWl : W.length ≤ X.length := by rw [← hW]; exact List.length_filter_le _ _
 obtain ⟨aa, ca, rfl, hca, hpa⟩ := id hA
 obtain ⟨a1, c1, rfl, -⟩ := id h1
 refine Ct.enter Tryz.func24 rfl Tryz.ntmps24 rfl fun w0 a S => ?_
 revert a; refine go 8 ?_; intro Z hZ Z hZ a S
 (refine wc0 S hrw ?_; clear S a; intro v9 a w hv9 S; subst hv9)
 revert a; revert Z; refine go 3 ?_; intro a S
 refine q00 S rfl ?_ ?_ <;> intro h
 ·revert a; refine go 5 ?_; intro a S
  refine wp_ret ?_
  (first | (refine (show i = aggs.length → _ from fun hie => ?_) (by omega); subst hie) | (replace S := S.drops.nilg))
  refine q08 S (q0v Tryz.results24 (RV.tmp S rfl) (RV.tmp S rfl)) ?_
  exact qs5
 revert a; revert Z; refine go 5 ?_; intro Z hZ a S
 (refine q17 S rfl rfl rfl rfl rfl rfl hof rfl ?_; clear S a; intro u9 G9 a w hv9 S; obtain ⟨g6, xs6, rfl, hO6, hL6⟩ := hv9; (simp only [List.singleton_append] at S); have hle3 := q2h (G1 := []) S; replace S := St.freeze (G1 := []) S; (simp only [qaG] at S hle3); have hW3 := LiC.lim (F := F2) hO6 (qo1 (F2 := F2) hL6) rfl hle3 (by omega); generalize F2.add g6 = F3 at S hle3 hW3; obtain ⟨aW, cW, rfl, hcW, hpW⟩ := hW3; replace hc0 := hc0.mono hle3; have hl3 : ∀ b o, F b = some o → F3 b = some o := (fun b o h => hle3 _ _ (hle _ _ h)))
 revert a; revert Z; refine go 10 ?_; intro Z hZ a S
 refine q00 S rfl ?_ ?_ <;> intro h
 ·revert a; refine go 5 ?_; intro a S
  refine wp_ret ?_
  (first | (refine (show i = aggs.length → _ from fun hie => ?_) (by omega); subst hie) | (replace S := S.drops.nilg))
  refine q08 S (q0v Tryz.results24 (RV.tmp S rfl) (RV.tmp S rfl)) ?_
  exact qs5
 revert a; revert Z; refine go 12 ?_; intro Z hZ a S
 refine q04 (fun m a w' => ∃ (i : Nat) (vO : Value) (gO : Grp) (xO : List Value), m = aggs.length - i ∧ i ≤ aggs.length ∧ (∀ j, j < i → (q43 aggs (W.map fun x => (wT x, x.args)) j).1 = 0) ∧ q0u 45 4 vO i xO gO ∧ LiC F 4 (RoR 4 VhR) xO ((List.range i).map fun j => (q43 aggs (W.map fun x => (wT x, x.args)) j).2) ∧ St 68 [(0, ptr bx), (6, .slice aW W.length cW), (7, vO), (8, .int .i64 (i : Int))] w0 F2 [] F3 [gO] a w') ?_ ?_
 ·(refine ⟨aggs.length, 0, .slice none 0 0, [], [], by omega, Nat.zero_le _, (fun j h => absurd h (Nat.not_lt_zero _)), q0u.nil _ _, rfl, ?_⟩; replace S := S.nilg; refine S.keep ?_; exact zk)
 (clear S; rintro m a w ⟨i, vO, gO, xO, rfl, hil, hall, hO, hLO, S⟩)
 revert a; refine go 6 ?_; intro Z hZ Z hZ a S
 first | (refine wv S (q0f S rfl rfl (by rfl)) ?_; clear S a; intro a S) | (refine wv S (q05 S rfl rfl (by assumption)) ?_; clear S a; intro a S) | (refine wv S (q05 S rfl rfl hc0) ?_; clear S a; intro a S)
 revert a; revert Z; refine go 4 ?_; intro a S
 refine q00 S rfl ?_ ?_ <;> intro h
 ·revert a; revert Z; refine go 9 ?_; intro Z hZ Z hZ a S
  revert a; refine go 5 ?_; intro a S
  refine q04 (fun m a w' => ∃ (k : Nat) (v : Value) (g : Grp) (xs : List Value), m = W.length - k ∧ k ≤ W.length ∧ q0u 45 4 v k xs g ∧ LiC F 4 (RoR 4 VhR) xs (qrj (W.take k) i) ∧ St 68 [(0, ptr bx), (6, .slice aW W.length cW), (7, vO), (8, .int .i64 (i : Int)), (9, v), (10, .int .i64 (k : Int))] w0 F2 [] F3 [g, gO] a w') ?_ ?_
  ·(refine ⟨W.length, 0, .slice none 0 0, [], [], by omega, Nat.zero_le _, q0u.nil _ _, rfl, ?_⟩; replace S := S.nilg; refine S.keep ?_; exact zk)
  (clear S; rintro m a w ⟨k, v, g, xs, rfl, hk, hown, hxs, S⟩)
  revert a; refine go 8 ?_; intro Z hZ a S
  refine q00 S rfl ?_ ?_ <;> intro h
  ·revert a; revert Z; refine go 4 ?_; intro Z hZ a S
   (obtain ⟨b8, o8, e8, x, cs1, hx, hcc, y1, y2, y3, rfl, hT1, hT2, hT3⟩ := LiM.pos hpW (k := k) (by omega); subst e8; obtain ⟨aQ, cQ, rfl, hcQ, hpQ⟩ := hT3; have hxl := hG.len x (List.mem_of_getElem? hx); obtain ⟨bz, oz, haz, z, csz, vz, hz, hcz, hwz, hTz⟩ := TrM.pos hpQ (k := i) (by omega); subst haz; have hwd := hwz.1; subst hwd; obtain ⟨aZ, cZ, rfl, -⟩ := id hTz; (simp only [List.cons_append, qaG] at hcz); have hRz : RoR 4 VhR F z (vcs z aZ cZ) := ⟨[.int .u8 (z.1.k : Int), .int .i64 z.1.n, .string (bs z.1.s)], _, rfl, rfl, hwz, hTz⟩)
   revert a; refine go 6 ?_; intro a S
   (refine wv S (q05 S rfl rfl (hcc 2 _ rfl)) ?_; clear S a; intro a S)
   revert a; refine go 2 ?_; intro a S
   (refine wv S (q18 S rfl rfl (q2v.mono hl3 hcz) rfl) ?_; clear S a; intro a S)
   (refine q0s S rfl rfl rfl rfl rfl rfl rfl rfl rfl rfl rfl (fun _ => rfl) hown (by rfl) (by simp [Value.cells, splice, splice]) (by simp [Value.cells, Value.oneCell', splice, splice]) rfl (by rfl) (by rfl) rfl (by omega) (by omega) ?_; clear hown S a; intro v u g a w hown S)
   revert a; revert Z; refine go 8 ?_; intro a S
   change ∃ m', _ ∧ _
   (refine ⟨W.length - (k + 1), by omega, k + 1, _, _, _, rfl, by omega, hown, (by rw [qom hx hz]; exact LiC.app hxs (LiC.one rfl hRz)), ?_⟩; (refine S.keep ?_; exact zk))
  (refine wp_exit ?_; conv => whnf)
  clear hZ Z
  (refine hZ _ _ ?_; clear hZ Z)
  (refine wp_seq_k ?_; intro Z hZ)
  (obtain rfl : k = W.length := (by omega); rw [List.take_of_length_le (Nat.le_refl _)] at hxs; have hle4 := q2h (G1 := []) S; replace S := St.freeze (G1 := []) S; (simp only [qaG] at S hle4); have hLv := LiC.lim (F := F3) hown (qls (F2 := F3) hxs) (qdl W i).symm hle4 (by omega); obtain ⟨aV, cV, rfl, -, -⟩ := id hLv; generalize F3.add g = F4 at S hle4 hLv; obtain ⟨bA, oA, haA, s, csA, hsx, hccA, hRs⟩ := LiM.pos hpa (k := i) (by omega); obtain rfl : csA = _ := hRs; have hl4 : ∀ b o, F b = some o → F4 b = some o := (fun b o h => hle4 _ _ (hl3 _ _ h)); have hcA : Cel F4 bA (oA + i * 1) (.string (bs s)) := Cel.mono hl4 (hccA 0 _ rfl); have hc4 := hc0.mono hle4; rw [haA] at hc4; have hsd : aggs.getD i [] = s := (by rw [List.getD_eq_getElem?_getD, hsx]; rfl); have hi9 : i < aggs.length := (by omega); have hrr : q43 aggs (W.map fun x => (wT x, x.args)) i = q82 s (qrj W i) := (by unfold q43 qrj; rw [hsd]))
  revert a; refine go 4 ?_; intro a S
  (refine wv S (q05 S rfl rfl hc4) ?_; clear S a; intro a S)
  revert a; refine go 2 ?_; intro a S
  (refine wv S (q05 S rfl rfl hcA) ?_; clear S a; intro a S)
  revert a; refine go 1 ?_; intro a S
  (refine wc0 S (u4q F F4 hl4 s (qe6 hkn hsx) _ (qrj W i) hLv (by rw [qdl]; omega) (by rw [qdl]; omega) (fun z hz => (hG.may i hi9 z hz).1) (fun z hz => (hG.may i hi9 z hz).2) (fun h => hG.num i hi9 (by rw [hsd]; exact h)) (fun h => hG.kind i hi9 (by rw [hsd]; exact h))) ?_; clear S a; intro v9 a w hv9 S; obtain ⟨z, cz, rfl, hRz, hze⟩ := hv9; obtain ⟨az, c9, rfl⟩ := q4b hRz; replace S := St.shrink S hle4 hle3)
  revert a; refine go 3 ?_; intro a S
  (refine q0a S rfl rfl rfl rfl ?_; clear S a; intro b11 a w S)
  (refine wso S rfl rfl ?_; clear S; intro w S)
  revert a; revert Z; refine go 9 ?_; intro Z hZ a S
  refine q00 S rfl ?_ ?_ <;> intro h
  ·revert a; refine go 6 ?_; intro a S
   refine wp_ret ?_
   (first | (refine (show i = aggs.length → _ from fun hie => ?_) (by omega); subst hie) | (replace S := S.drops.nilg))
   refine q08 S (q0v Tryz.results24 (RV.tmp S rfl) (RV.tmp S rfl)) ?_
   exact qs5
  revert a; revert Z; refine go 5 ?_; intro a S
  (refine q0s S rfl rfl rfl rfl rfl rfl rfl rfl rfl rfl rfl (fun _ => rfl) hO (by rfl) (by simp [Value.cells, splice, splice]) (by simp [Value.cells, Value.oneCell', splice, splice]) rfl (by rfl) (by rfl) rfl (by omega) (by omega) ?_; clear hO S a; intro v u g a w hO S)
  revert a; revert Z; refine go 8 ?_; intro a S
  change ∃ m', _ ∧ _
  (replace S := St.pullB b11 S; replace S := S.drop1; refine ⟨aggs.length - (i + 1), by omega, i + 1, v, g, _, rfl, by omega, (fun j hj => by rcases Nat.lt_or_eq_of_le (Nat.le_of_lt_succ hj) with h9 | h9; exact hall j h9; rw [h9, hrr]; omega), hO, (by rw [qb8, hrr, ← hze (by omega)]; exact LiC.app hLO (LiC.one rfl hRz)), ?_⟩; (refine S.keep ?_; exact zk))
 (refine wp_exit ?_; conv => whnf)
 clear hZ Z
 revert a; revert Z; refine go 7 ?_; intro a S
 refine wp_ret ?_
 (first | (refine (show i = aggs.length → _ from fun hie => ?_) (by omega); subst hie) | (replace S := S.drops.nilg))
 refine q08 S (q0v Tryz.results24 (RV.tmp S rfl) (RV.tmp S rfl)) ?_
 exact qs5
theorem qyx : ∀ l : Vf, dpN l ≤ wtB l ∧ l.size ≤ wtB l
 | .nil => ⟨Nat.le_refl _, Nat.le_refl _⟩
 | .cons h L r => by
  have h1 := qyx L
  have h2 := qyx r
  have e1 : dpN (.cons h L r) = max (dpN L + 1) (dpN r) := rfl
  have e2 : wtB (.cons h L r) = (4 * h.s.length + 40 + wtB L) + wtB r := rfl
  have e3 : (q1d.cons h L r).size = L.size + r.size + 1 := rfl
  omega
theorem q2r.dp {l : Vf} (h : q2r l) : dpN l ≤ 900000000 ∧ l.size ≤ 900000000 := by
 have h1 := qyx l
 have h2 := h.wt
 omega
theorem Rl.rw1 {aggs : List (List UInt8)} {A : GA} {X : List WyD} (h : Rl aggs A X) : ∀ x ∈ X, Rw1 x.key := fun x hx => by
 obtain ⟨h1, h2, h3, h4, h5⟩ := h.ok x hx
 exact ⟨by rw [q3p]; exact h1, (q4p h1).2, h3.dp.1, h3.dp.2⟩
theorem Rl.addX {aggs : List (List UInt8)} {A : GA} {X : List WyD} (h : Rl aggs A X) {key way args : Vf} (b1 : q2r key) (b2 : q2r way) (b3 : q2r args) : Rl aggs (qds aggs A key way args) (addX aggs X key way args) := by
 have hs := qhs h b1 b2 b3
 unfold Go.Proofs.YtbhipiepfclneaaGreatDoor.addX
 rw [hs]
 by_cases h0 : qam aggs A key way args = 0
 ·rw [if_pos h0]; exact h.add b1 b2 b3 h0
 ·rw [if_neg h0]
  unfold qds
  rw [if_neg h0]; exact h
theorem Rl.delY {aggs : List (List UInt8)} {A : GA} {X : List WyD} (h : Rl aggs A X) {key way : Vf} (b1 : q2r key) (b2 : q2r way) : Rl aggs (qfr A key way) (delY X key way) := by
 have hs := qdc h b1 b2
 unfold Go.Proofs.YtbhipiepfclneaaGreatDoor.delY
 rw [hs]
 by_cases h0 : qdo A key way = 0
 ·rw [if_pos h0]
  obtain ⟨Y, hY, hR⟩ := h.del b1 b2 h0
  rw [hY]; exact hR
 ·rw [if_neg h0]
  unfold qfr
  rw [if_neg h0]; exact h
theorem qqs (aggs : List (List UInt8)) (X : List WyD) (key way args : Vf) : (addX aggs X key way args).length ≤ X.length + 1 := by
 unfold addX
 split
 ·rw [qaA]; exact Nat.le_refl _
 ·omega
theorem qtq {key way : Vf} : ∀ {X Y : List WyD}, qak key way X = some Y → Y.length ≤ X.length := fun {X Y} h => by
 obtain ⟨X1, x, X2, rfl, rfl, -⟩ := q94 h
 simp only [qaA, qaC]; omega
theorem qrw (X : List WyD) (key way : Vf) : (delY X key way).length ≤ X.length := by
 unfold delY
 split
 ·cases hd : qak key way X with
  | none => exact Nat.le_refl _
  | some Y => exact qtq hd
 ·exact Nat.le_refl _
theorem Rl.wyg {aggs : List (List UInt8)} {A : GA} {X : List WyD} (h : Rl aggs A X) {key : Vf} (b1 : q2r key) : WyG aggs (ofW X key) := by
 have hlen : ∀ x ∈ ofW X key, x.args.len = aggs.length := fun x hx => h.len x (q63 hx)
 by_cases h0 : ofW X key = []
 ·rw [h0]
  exact ⟨(fun x hx => by cases hx), (fun i hi z hz => by cases hz), (fun i hi _ z hz => by cases hz), (fun i hi _ z hz => by cases hz)⟩
 ·obtain ⟨x, hx⟩ := List.exists_mem_of_ne_nil _ h0
  have hxk : x.key = key := q11.1 (List.mem_filter.1 hx).2
  obtain ⟨k, e, hk, he, -⟩ := h.en (q63 hx)
  rw [hxk] at hk
  have hof := h.of hk b1
  unfold q1z at hof
  rw [he] at hof
  dsimp only at hof
  have hE := h.inv.all (k, e) (q4k he)
  refine ⟨hlen, fun i hi z hz => ?_, fun i hi hs z hz => ?_, fun i hi hs z hz z' hz' => ?_⟩
  ·rw [← hof] at hz
   obtain ⟨w, hw, hg⟩ := qb1 hE hi z hz
   have h5 := qm0 hg
   have h6 := (hE.row w hw).dp.1
   exact ⟨ql8 hE hi z hz, by omega⟩
  ·rw [← hof] at hz
   exact qqh hE hi hs z hz
  ·rw [← hof] at hz hz'
   exact qjd hE hi hs z hz z' hz'
theorem qy0 {aggs : List (List UInt8)} {A : GA} {X : List WyD} (h : Rl aggs A X) {K : List Vf} (hK : K.Perm (A.map (·.2.key))) {r : Vf} (hr : r ∈ K) : ∃ k e, q13 r = some k ∧ alG A k = some e ∧ e.key = r ∧ q2r r ∧ (X.filter fun x => q15 x.key r).length = e.ways.length := by
 obtain ⟨p, hp, rfl⟩ := List.mem_map.1 (hK.mem_iff.1 hr)
 have he := qgn h.inv hp
 exact ⟨p.1, p.2, (h.inv.all p hp).key, he, rfl, (h.inv.all p hp).krow, qlr h he⟩
theorem qpn {X : List WyD} {r : Vf} {j : Nat} {x : WyD} (hx : X[j]? = some x) : ((X.take (j + 1)).filter fun y => q15 y.key r).length = ((X.take j).filter fun y => q15 y.key r).length + (if q15 x.key r = true then 1 else 0) := by
 rw [List.take_add_one, hx, List.filter_append, qaA, Option.toList_some, List.filter_cons, List.filter_nil]
 split <;> rfl
theorem qtz {F F2 : q01} {v : Value} {g gl : Grp} {T : List Gt} (hO : q0u 32 1 v T.length (q0n (rvs T)) g) (hT : u01 T) (hg : ∀ p ∈ g, F2 p.1 = some p.2) (hl : ∀ t ∈ T, ∀ b o, gh t.1 b = some o → F2 b = some o) (hn : T.length ≤ 1000000000) : LiM F2 1 RwR v (rfs T) := by
 have hlen : (rfs T).length = T.length := List.length_map ..
 obtain ⟨ao, cap, rfl, hc1, hc2, -⟩ := hO.at
 refine ⟨ao, cap, by rw [hlen], ⟨by rw [hlen]; exact hc1, by have := hc2; omega⟩, fun h0 => ?_⟩
 have hU := hO
 unfold q0u at hU
 rcases hU.2 with ⟨_, h9, _⟩ | ⟨b, cap', cur, e9, rfl, h1, h2, h3, h4⟩
 ·rw [hlen] at h0; omega
 ·cases e9
  have hb := hg _ (List.mem_singleton.2 rfl)
  refine ⟨b, 0, rfl, fun k r hr => ?_⟩
  obtain ⟨t, ht, rfl⟩ : ∃ t, T[k]? = some t ∧ t.2.2 = r := by
   unfold rfs at hr
   rw [List.getElem?_map] at hr
   obtain ⟨t, ht, e⟩ := Option.map_eq_some_iff.1 hr
   exact ⟨t, ht, e⟩
  have hv : (q0n (rvs T))[k]? = some t.2.1 := by
   unfold q0n rvs; rw [List.getElem?_map, List.getElem?_map, ht]; rfl
  refine ⟨[t.2.1], fun j u hj => ?_, rfl, t.2.1, rfl, TrS.mono (hl t (List.mem_of_getElem? ht)) (hT t (List.mem_of_getElem? ht)).r⟩
  obtain ⟨rfl, rfl⟩ : j = 0 ∧ u = t.2.1 := by
   cases j with
   | zero => exact ⟨rfl, (Option.some.inj hj).symm⟩
   | succ j => simp at hj
  refine ⟨_, _, _, hb, ?_⟩
  rw [← h4] at hv
  have h13 := (List.getElem?_eq_some_iff.1 hv).1
  rw [qaI] at h13
  rw [List.getElem?_take_of_lt (by omega)] at hv
  simpa using hv
theorem qkl (F : q01) (hq : q50 F) (he : qf6 F) (v0 v1 : Value) (aggs : List (List UInt8)) (l : List OpD) (hA : LiM F 1 StR v0 aggs) (hL : LiM F 4 OpR v1 l) (hn : q7y aggs ≠ 0) :
  Ct Tryz.prog 5 [v0, v1] F [] (fun _ _ u => u = .bool true) := by
 have hlg := qos F l v1 hL
 have hAf := hA.flat
 obtain ⟨ao, cap, rfl, hcap, -⟩ := id hA
 refine Ct.enter Tryz.func5 rfl Tryz.ntmps5 rfl fun w0 a S => ?_
 revert a; refine go 7 ?_; intro Z hZ Z hZ a S
 (refine wc0 S hlg ?_; clear S a; intro v21 a w hv S; obtain ⟨bl, rfl, hbl⟩ := hv)
 revert a; refine go 1 ?_; intro a S
 refine wgd S ?_ ?_
 ·(clear S; intro h S)
  revert a; revert Z; refine go 8 ?_; intro a S
  refine q00 S rfl ?_ ?_ <;> intro h
  ·refine q1i fun Z hZ => ?_
   (refine wc0 S (q5w F hq he) ?_; clear S a; intro v28 a w hv S; subst hv)
   revert a; revert Z; refine go 3 ?_; intro a S
   refine wp_ret (fr1 S Tryz.results5 ?_)
   (first | rfl)
  refine wp_skip ?_
  (refine hZ _ _ ?_; clear hZ Z)
  (refine wp_seq_k ?_; intro Z hZ)
  (obtain ⟨aoF, capF, xsF, hxe, hxF, hxp⟩ := hAf; cases hxe; have hxl := hxF.len)
  refine wp_region_lit ?_
  (refine q0d S rfl rfl rfl rfl rfl rfl (by rfl) (by simp [Value.cells, splice, splice]) rfl (by rfl) (by rfl) ?_; clear S a; intro b32 a w hown S)
  revert a; refine go 1 ?_; intro a S
  (refine q1u (news := xsF) S rfl rfl rfl rfl rfl rfl hown (by rfl) (by omega) hxp hxF.one' (by omega) (by omega) ?_; clear hown S a; intro v g a w hown S)
  revert a; revert Z; refine go 5 ?_; intro Z hZ a S
  (refine q3m (gl := g) (Gr := []) (r := .tuple ⟨[.pointer none, .int .i64 (q7y aggs)]⟩) S rfl rfl rfl rfl rfl rfl (fun hle hnd => (qo2 (F.add g) _ aggs (LiC.lim hown hxF (by omega) hle (by omega)) (by omega)).mono fun _ _ u hu => (hu.resolve_right (fun h => hn h.1)).2) rfl (by simp) ?_; clear S a; intro a w S)
  revert a; revert Z; refine go 9 ?_; intro Z hZ a S
  (refine wc0 S ((qu3 F _ aggs hA (by omega)).mono (Post' := fun _ _ u => u = .tuple ⟨[.pointer none, .int .i64 (q7y aggs)]⟩) fun _ _ u hu => (hu.resolve_right (fun h => hn h.1)).2.1) ?_; clear S a; intro v42 a w hv S; subst hv)
  revert a; revert Z; refine go 8 ?_; intro Z hZ a S
  (refine wp_seq_k ?_; intro Z hZ)
  (obtain ⟨aI, cI, rfl, -, -, hpI⟩ := hown.at; rw [Nat.zero_add] at *)
  revert a; revert Z; refine go 5 ?_; intro a S
  refine q04 (fun m a w' => ∃ (k : Nat) (xs : List Value) (g : Grp), m = aggs.length - k ∧ k ≤ aggs.length ∧ q0u 9 1 (.slice aI aggs.length cI) aggs.length xs g ∧ St 263 [(5, .slice aI aggs.length cI), (6, .pointer none), (7, .int .i64 (q7y aggs)), (8, .pointer none), (9, .int .i64 (q7y aggs)), (10, .int .i64 (k : Int))] w0 F [] F [g] a w') ?_ ?_
  ·(refine ⟨aggs.length, 0, _, g, by omega, Nat.zero_le _, hown, ?_⟩; refine S.keep ?_; exact zk)
  (clear S hown; rintro m a w ⟨k, xs, g, rfl, hk, hown, S⟩)
  revert a; refine go 8 ?_; intro Z hZ a S
  refine q00 S rfl ?_ ?_ <;> intro h
  ·revert a; revert Z; refine go 4 ?_; intro Z hZ a S
   (obtain ⟨bI, hbI⟩ := hpI (by omega); rw [hbI] at S hown)
   revert a; refine go 4 ?_; intro a S
   (refine q1o S rfl rfl rfl rfl rfl hown rfl (by omega) ?_; clear hown S; intro g w hown S)
   revert a; revert Z; refine go 7 ?_; intro a S
   change ∃ m', _ ∧ _
   (rw [← hbI] at S hown; refine ⟨aggs.length - (k + 1), by omega, k + 1, _, g, rfl, by omega, hown, ?_⟩; refine S.keep ?_; exact zk)
  (refine wp_exit ?_; conv => whnf)
  clear hZ Z
  revert a; revert Z; refine go 5 ?_; intro Z hZ Z hZ a S
  (refine wv S (q0j (c := false) (q09 S rfl) (by simp)) ?_; clear S a; intro a S)
  revert a; refine go 4 ?_; intro a S
  (refine wv S (q0j (c := true) (q09 S rfl) (by simpa using hn)) ?_; clear S a; intro a S)
  revert a; revert Z; refine go 3 ?_; intro a S
  refine q0h S rfl ?_
  revert a; refine go 3 ?_; intro Z hZ a S
  (refine wv S (q0j (c := true) (q09 S rfl) (by simp)) ?_; clear S a; intro a S)
  revert a; refine go 4 ?_; intro a S
  (refine wv S (q9o S rfl rfl rfl) ?_; clear S a; intro a S)
  revert a; refine go 3 ?_; intro a S
  (refine wc0 S (q5w F hq he) ?_; clear S a; intro v28 a w hv S; subst hv)
  revert a; revert Z; refine go 4 ?_; intro a S
  refine wp_ret (fr1 S Tryz.results5 ?_)
  (first | rfl)
 (clear S a; intro h a S)
 revert a; revert Z; refine go 5 ?_; intro a S
 refine q0h S rfl ?_
 refine q1i fun Z hZ => ?_
 (refine wc0 S (q5w F hq he) ?_; clear S a; intro v28 a w hv S; subst hv)
 revert a; revert Z; refine go 3 ?_; intro a S
 refine wp_ret (fr1 S Tryz.results5 ?_)
 (first | rfl)
theorem qrn (aggs : List (List UInt8)) (A : GA) (key : Vf) : (qna aggs A key).2.len ≤ aggs.length := by
 unfold qna
 split
 ·split
  ·unfold qut
   split
   ·exact Nat.zero_le _
   ·show (q1s _).len ≤ _
    rw [q2j, List.length_map, List.length_range]; exact Nat.le_refl _
  ·exact Nat.zero_le _
 ·exact Nat.zero_le _
theorem qyq {e n : Nat} {v u : Value} {xs : List Value} {g : Grp} {F : q01} (hO : q0u e 1 v n xs g) (hg : ∀ p ∈ g, F p.1 = some p.2) {i : Nat} (hi : xs[i]? = some u) : ∃ b cap, v = .slice (some ⟨b, 0, none⟩) n cap ∧ Cel F b (0 + i * 1) u := by
 have hlt := (List.getElem?_eq_some_iff.1 hi).1
 have hU := hO
 unfold q0u at hU
 rcases hU.2 with ⟨_, h9, h8⟩ | ⟨b, cap, cur, rfl, rfl, h1, h2, h3, h4⟩
 ·have := hU.1; omega
 ·refine ⟨b, cap, rfl, _, _, _, hg _ (List.mem_singleton.2 rfl), ?_⟩
  rw [← h4] at hi
  have h13 := (List.getElem?_eq_some_iff.1 hi).1
  rw [qaI] at h13
  rw [List.getElem?_take_of_lt (by omega)] at hi
  simpa using hi
section
variable {n : Sz} {L : List (Nat × Value)} {w0 : World} {F0 : q01} {K0 : List Nat} {F : q01} {A B C : Grp} {R : List Grp} {a : Act} {w : World}
theorem uci (S : St n L w0 F0 K0 F [A, B, C] a w) : St n L w0 F0 K0 F [B, A] a w := ⟨S.fr, (S.tr.sub (G' := [A, B]) (by simp only [qaF, List.flatten_nil, qaE]; rw [← qaB]; exact List.sublist_append_left _ _)).perm (by simp only [qaF, List.flatten_nil, qaE]; exact List.perm_append_comm)⟩
theorem ubt {D E : Grp} (S : St n L w0 F0 K0 F [A, B, C, D, E] a w) : St n L w0 F0 K0 F [C ++ (B ++ A), D, E] a w := ⟨S.fr, S.tr.perm (by
 simp only [qaF, List.flatten_nil, qaE]
 rw [← qaB, ← qaB]
 have h1 : (A ++ (B ++ C)).Perm (C ++ (B ++ A)) := by
  refine List.perm_append_comm.trans ?_
  rw [qaB]
  refine List.Perm.trans ?_ (List.perm_append_comm (l₁ := B ++ A) (l₂ := C))
  rw [qaB]
  exact List.Perm.append_left _ List.perm_append_comm
 simpa only [qaB] using List.Perm.append_right (D ++ E) h1)⟩
theorem u8a {D E : Grp} (S : St n L w0 F0 K0 F [D, A ++ (B ++ C), E] a w) : St n L w0 F0 K0 F [E, A, B, C, D] a w := ⟨S.fr, S.tr.perm (by
 simp only [qaF, List.flatten_nil, qaE]
 have h1 : (D ++ ((A ++ (B ++ C)) ++ E)).Perm (((A ++ (B ++ C)) ++ E) ++ D) := List.perm_append_comm
 refine h1.trans ?_
 have h2 : ((A ++ (B ++ C)) ++ E).Perm (E ++ (A ++ (B ++ C))) := List.perm_append_comm
 have h3 := List.Perm.append_right D h2
 simpa only [qaB] using h3)⟩
theorem uca {T : List Gt} {i : Nat} {t : Gt} (h : T[i]? = some t) (S : St n L w0 F0 K0 F (rgs (T.drop i) :: R) a w) : St n L w0 F0 K0 F (t.1 :: rgs (T.drop (i + 1)) :: R) a w := by
 have h1 := (List.getElem?_eq_some_iff.1 h).1
 have e : rgs (T.drop i) = t.1 ++ rgs (T.drop (i + 1)) := by
  rw [List.drop_eq_getElem_cons h1, (List.getElem?_eq_some_iff.1 h).2]; rfl
 rw [e] at S
 exact ⟨S.fr, S.tr.perm (by simp)⟩
end
theorem qib {P : Program} {f : FuncId} {args : List Value} {F : q01} {b : Bool} (h : Ct P f args F [] (fun _ _ u => u = .bool b)) (hb : b = true) : Ct P f args F [] (fun _ _ u => u = .bool true) := by subst hb; exact h
theorem q7m (l : Vf) : q15 l l = true := q11.2 rfl
