/- Walks. -/
import Derived.Test.YtbhipiepfclneaaGreatDoorQ15
set_option maxHeartbeats 16000000
set_option maxRecDepth 20000
namespace Go.Proofs.YtbhipiepfclneaaGreatDoor
open Go Go.Wk Go.Un Go.De Go.Num
set_option linter.unusedSimpArgs false
set_option linter.unusedVariables false
attribute [local irreducible] Go.wpList Go.Code.wp Go.wpStill Go.Wk.q26 Go.bodyPost Go.Calls Go.Wk.Ct Go.Wk.q0u Go.Wk.wpG Go.Wk.wpM
def q52 (cmp : Vv → Vv → Int) : Vv → List Vv → Vv
 | m, [] => m
 | m, x :: r => q52 cmp (if 0 < cmp x m then x else m) r
theorem q7a {cmp : Vv → Vv → Int} {m x : Vv} {l : List Vv} {k : Nat} (h : l[k]? = some x) : q52 cmp m (l.drop k) = q52 cmp (if 0 < cmp x m then x else m) (l.drop (k + 1)) := by
 obtain ⟨h1, rfl⟩ := List.getElem?_eq_some_iff.1 h
 rw [List.drop_eq_getElem_cons h1, q52]
abbrev vcs (x : Vv) (a : Option Addr) (c : Nat) : List Value := [.int .u8 (x.1.k : Int), .int .i64 x.1.n, .string (bs x.1.s), .slice a x.2.len c]
theorem q4b {F : q01} {x : Vv} {cs : List Value} (h : RoR 4 VhR F x cs) : ∃ a c, cs = vcs x a c := by
 obtain ⟨_, _, rfl, -, ⟨rfl, -⟩, ⟨a, c, rfl, -⟩⟩ := h
 exact ⟨a, c, rfl⟩
theorem u3r {p : Prop} (h : p := by (first | (refine ⟨l.length - (k + 1), by omega, k + 1, y, _, _, rfl, by omega, by omega, by rw [← hmx, q7a hy, if_pos (by assumption)], hRy, ?_⟩; refine S.keep ?_; exact zk) | (refine ⟨l.length - (k + 1), by omega, k + 1, x, _, _, rfl, by omega, by omega, by rw [← hmx, q7a hy, if_neg (by assumption)], hR, ?_⟩; refine S.keep ?_; exact zk))) : p := h
theorem u5k (F : q01) (v : Value) (l : List Vv) (h : LiM F 4 (RoR 4 VhR) v l) (x0 : Vv) (h0 : l[0]? = some x0) (fid : FuncId) (fi ca : List Value) [hfn : q0b Tryz.prog fid] (cmp : Vv → Vv → Int)
  (hcl : ∀ x y cs cs', RoR 4 VhR F x cs → RoR 4 VhR F y cs' → Ct Tryz.prog fid (fi ++ [.agg ⟨cs⟩, .agg ⟨cs'⟩] ++ ca) F [] (fun _ _ u => u = .int .i64 (cmp x y))) :
  Ct Tryz.prog 50 [v, .func (.func fid) ⟨fi⟩ ⟨ca⟩] F [] (fun _ _ u => ∃ a c, u = .agg ⟨vcs (q52 cmp x0 (l.drop 1)) a c⟩ ∧ RoR 4 VhR F (q52 cmp x0 (l.drop 1)) (vcs (q52 cmp x0 (l.drop 1)) a c)) := by
 obtain ⟨ao, cap, rfl, hcap, hpos⟩ := h
 have hl0 : 0 < l.length := (List.getElem?_eq_some_iff.1 h0).1
 obtain ⟨b0, o0, rfl, x9, cs0, hx9, hc0, hR0⟩ := LiM.pos hpos (k := 0) hl0
 rw [h0] at hx9
 cases hx9
 obtain ⟨a0, c0, rfl⟩ := q4b hR0
 refine Ct.enter Tryz.func50 rfl Tryz.ntmps50 rfl fun w0 a S => ?_
 refine q1i fun Z hZ => ?_
 (refine q0a S rfl rfl rfl rfl ?_; clear S a; intro b4 a w S)
 revert a; revert Z; refine go 6 ?_; intro Z hZ Z hZ a S
 (refine wv S (q0j (c := false) (q09 S rfl) (by simp only [decide_eq_false_iff_not]; omega)) ?_; clear S a; intro a S)
 revert a; revert Z; refine go 2 ?_; intro a S
 refine q03 S rfl ?_
 revert a; revert Z; refine go 5 ?_; intro Z hZ a S
 (refine wv S (q18 S rfl rfl hc0 rfl) ?_; clear S a; intro a S)
 (refine q0a S rfl rfl rfl rfl ?_; clear S a; intro b5 a w S)
 (refine wso S rfl rfl ?_; clear S; intro w S)
 revert a; revert Z; refine go 8 ?_; intro Z hZ a S
 refine q04 (fun m a w' => ∃ (k : Nat) (x : Vv) (ax : Option Addr) (cx : Nat), m = l.length - k ∧ 1 ≤ k ∧ k ≤ l.length ∧ q52 cmp x (l.drop k) = q52 cmp x0 (l.drop 1) ∧ RoR 4 VhR F x (vcs x ax cx) ∧ St 33 [(0, .slice (some ⟨b0, o0, none⟩) l.length cap), (1, .func (.func fid) ⟨fi⟩ ⟨ca⟩), (4, ptr b4), (5, ptr b5), (6, .int .i64 k)] w0 F [] F [[(b5, .cells ⟨vcs x ax cx⟩ 45 (0, 0))], [(b4, .cells ⟨[.int .u8 0, .int .i64 0, .string (bs []), .slice none 0 0]⟩ 45 (0, 0))]] a w') ?_ ?_
 ·(refine ⟨l.length - 1, 1, x0, a0, c0, rfl, Nat.le_refl _, hl0, rfl, hR0, ?_⟩; refine S.keep ?_; exact zk)
 (clear S; rintro m a w ⟨k, x, ax, cx, rfl, hk1, hkl, hmx, hR, S⟩)
 revert a; refine go 8 ?_; intro Z hZ a S
 refine q00 S rfl ?_ ?_ <;> intro h
 ·revert a; revert Z; refine go 4 ?_; intro Z hZ a S
  (refine wp_seq_k ?_; intro Z hZ)
  (obtain ⟨b9, o9, e9, y, csy, hy, hcy, hRy⟩ := LiM.pos hpos (k := k) (by omega); cases e9; obtain ⟨ay, cy, rfl⟩ := q4b hRy)
  (refine q0k [0, 1, 2, 3, 4, 5, 7] [4, 5] [] (.one 0 (.one 1 (.one 2 (.one 3 (.one 4 (.one 5 (.one 6 (.one 7 .nil)))))))) [b5] S mixed (by kernel_rfl) ?_; clear S; intro w S)
  revert a; refine go 7 ?_; intro a S
  (refine wc0 S (hcl y x _ _ hRy hR) ?_; clear S a; intro v a w hv S; subst hv)
  revert a; revert Z; refine go 4 ?_; intro a S
  refine q00 S rfl ?_ ?_ <;> intro h
  ·revert a; refine go 5 ?_; intro a S
   (refine wso S rfl rfl ?_; clear S; intro w S)
   revert a; revert Z; refine go 7 ?_; intro a S
   change ∃ m', _ ∧ _
   exact u3r
  revert a; revert Z; refine go 7 ?_; intro a S
  change ∃ m', _ ∧ _
  exact u3r
 (refine wp_exit ?_; conv => whnf)
 clear hZ Z
 revert a; revert Z; refine go 3 ?_; intro Z hZ a S
 (refine wso S rfl rfl ?_; clear S; intro w S)
 revert a; revert Z; refine go 2 ?_; intro a S
 refine wp_ret (q08 S (q0c Tryz.results50 (RV.cellO S rfl (by rfl))) ?_)
 (have hkk : k = l.length := (by omega); subst hkk; rw [List.drop_of_length_le (Nat.le_refl _)] at hmx; (simp only [q52] at hmx); subst hmx; exact ⟨_, _, rfl, hR⟩)
theorem u1x {c : UInt8} (h : qfw.contains c = true) : ql2 c = true := by
 have : c = 48 ∨ c = 49 ∨ c = 50 ∨ c = 51 ∨ c = 52 ∨ c = 53 ∨ c = 54 ∨ c = 55 ∨ c = 56 ∨ c = 57 := by simpa [qfw] using h
 rcases this with rfl | rfl | rfl | rfl | rfl | rfl | rfl | rfl | rfl | rfl <;> decide
theorem qa3 {α : Type} {p : α → Bool} : ∀ {l : List α}, l.dropWhile p = [] → ∀ x ∈ l, p x = true
 | [], _, x, hx => by cases hx
 | y :: r, h, x, hx => by
  rw [List.dropWhile_cons] at h
  split at h
  ·rename_i hy
   rcases List.mem_cons.1 hx with rfl | hx
   ·exact hy
   ·exact qa3 h x hx
  ·cases h
theorem qbg {α : Type} {p : α → Bool} : ∀ {l : List α} {y : α} {r : List α}, l.dropWhile p = y :: r → p y = false
 | [], y, r, h => by cases h
 | z :: l, y, r, h => by
  rw [List.dropWhile_cons] at h
  split at h
  ·exact qbg h
  ·rename_i hz
   cases h
   simpa using hz
theorem qd5 {d : List UInt8} (h : Lib.trimS d qfw = []) : d.all ql2 = true := by
 have h2 : ∀ x ∈ d.reverse, qfw.contains x = true := by
  cases hr : d.reverse.dropWhile (qfw.contains ·) with
  | nil => exact qa3 hr
  | cons y r =>
   exfalso
   have h1 : (y :: r).reverse.dropWhile (qfw.contains ·) = [] := by rw [← hr]; exact h
   have h3 := qa3 h1 y (by simp)
   have h4 := qbg hr
   rw [h3] at h4
   cases h4
 rw [List.all_eq_true]
 exact fun x hx => u1x (h2 x (List.mem_reverse.2 hx))
theorem qeo (s : List UInt8) : q90 s = q0m s := by
 unfold q90 Lib.trimPrefix q0m
 cases s with
 | nil => rfl
 | cons c r =>
  by_cases hc : c = 45
  ·subst hc; rfl
  ·have e1 : Lib.hasPrefix (c :: r) [45] = false := by
    unfold Lib.hasPrefix
    simp [List.isPrefixOf, hc, Ne.symm hc]
    try (intro h; exact hc h.symm)
   have e2 : ¬ (c :: r).head? = some 45 := by simp [hc]
   rw [e1, if_neg e2]; rfl
theorem qec {s : List UInt8} (h : q30 s = true) (h2 : qeq s ≤ 200) : q0p s = 0 := by
 unfold qeq at h2
 rw [if_pos h, qeo] at h2
 unfold q30 at h
 simp only [Bool.not_eq_true', Bool.or_eq_false_iff, Bool.and_eq_false_iff, decide_eq_false_iff_not, ne_eq, Classical.not_not] at h
 obtain ⟨⟨h1, h3⟩, h4⟩ := h
 have h5 := qd5 h3
 rw [qeo] at h1 h4 h5
 unfold q0p
 rw [if_neg, if_pos, if_neg (by omega)]
 ·rw [List.all_eq_true] at h5 ⊢
  intro x hx
  have := h5 x hx
  unfold ql2 at this
  unfold isD
  simpa using this
 ·rintro (h6 | ⟨h6, h7⟩)
  ·exact h1 h6
  ·rcases h4 with h4 | h4
   ·refine h4 ?_
    cases hb : q0m s with
    | nil => rw [hb] at h6; cases h6
    | cons c r => rw [hb] at h6; cases h6; rfl
   ·exact h7 h4
abbrev i64 (n : Int) : Prop := -9223372036854775808 ≤ n ∧ n ≤ 9223372036854775807
def zV : Vv := (⟨0, 0, []⟩, .nil)
def qmf (n : Int) : Vv := (⟨2, n, []⟩, .nil)
def u5h (s : List UInt8) : Vv := (⟨3, 0, s⟩, .nil)
def txN (x : Vv) : List UInt8 := if x.1.k = 2 then (q1y x.1.n).1 else x.1.s
def q6w (x : Vv) : Int := if x.1.k = 2 then x.1.n else q1w x.1.s
def q8b (x : Vv) : Prop := (x.1.k = 2 ∧ i64 x.1.n) ∨ (x.1.k = 3 ∧ q0p x.1.s = 0)
theorem q3a {n : Int} (h : i64 n) : (q1y n).2 = 0 := by
 have hn := qu5 h.1 h.2
 unfold q1y q3z
 split
 ·rfl
 ·rename_i h0
  rw [if_neg (by rw [u1w h0]; omega)]
theorem qac {x : Vv} (h : q8b x) : q0p (txN x) = 0 ∧ q1w (txN x) = q6w x := by
 unfold txN q6w
 rcases h with ⟨h1, h2⟩ | ⟨h1, h2⟩
 ·rw [if_pos h1, if_pos h1]; exact q42 (q3a h2)
 ·rw [if_neg (by omega), if_neg (by omega)]; exact ⟨h2, rfl⟩
def qgt (s : List UInt8) : Bool := decide ((s.getD 0 0).toNat = 45)
theorem q7e {s : List UInt8} (h : q0p s = 0) : 0 < s.length := by
 have h1 := (q1h h).2.2
 have h2 := q7w s
 have := List.length_pos_iff.2 h1
 omega
theorem q46 {s : List UInt8} (h : q0p s = 0) : s.length ≤ 201 := by
 have h1 := (q1h h).2.1
 have h2 := congrArg List.length (q7k s)
 rw [qaA] at h2
 have : (if q34 s = true then ([45] : List UInt8) else []).length ≤ 1 := by split <;> decide
 omega
theorem u3i {s : List UInt8} (h : q0p s = 0) : qgt s = q34 s := by
 unfold qgt q34
 cases s with
 | nil => exact absurd (q7e h) (by simp)
 | cons c r =>
  rw [decide_eq_decide]
  simp only [List.head?_cons, Option.some.injEq, List.getD_cons_zero]
  exact ⟨fun e => UInt8.toNat_inj.1 e, fun e => by rw [e]; rfl⟩
theorem qcu {s : List UInt8} (h : q0p s = 0) : qgt s = true ↔ q1w s < 0 := by
 rw [u3i h]
 obtain ⟨h1, h2, h3, h4⟩ := q4m h
 constructor
 ·intro hn
  unfold q1w
  rw [hn]
  show -(q14 (q0m s) : Int) < 0
  have : q14 (q0m s) ≠ 0 := fun e => by
   have h0 := (qqq h).1 (by unfold q1w; rw [hn, e]; rfl)
   rw [h0] at hn
   exact absurd hn (by decide)
  omega
 ·intro hv
  cases hn : q34 s with
  | true => rfl
  | false =>
   unfold q1w at hv
   rw [hn] at hv
   have : (0 : Int) ≤ toZ (false, q14 (q0m s)) := Int.natCast_nonneg _
   omega
def qdp (l : List (List UInt8)) : Int := (l.map q1w).sum
def qg7 (l : List Vv) : Int × Vv :=
 if (l.headD zV).1.k = 3 then (if (q1y (l.map q6w).sum).2 = 0 then (0, u5h (q1y (l.map q6w).sum).1) else (80, zV))
 else (if q41 (l.map q6w).sum = true then (0, qmf (l.map q6w).sum) else (80, zV))
structure qdq (tot : Int) (now : List UInt8) (A B : List (List UInt8)) (z : Int) : Prop where
  ok : (q1y z).2 = 0
  now : now = (q1y z).1
  a : ∀ t ∈ A, q0p t = 0 ∧ q1w t < 0
  b : ∀ t ∈ B, q0p t = 0 ∧ 0 ≤ q1w t
  tot : z + qdp A + qdp B = tot
theorem qim : ∀ {A : List (List UInt8)}, (∀ t ∈ A, q0p t = 0 ∧ q1w t < 0) → qdp A ≤ 0
 | [], _ => Int.le_refl _
 | t :: r, h => by
  have h1 := (h t (qaH ..)).2
  have h2 := qim (A := r) fun u hu => h u (List.mem_cons_of_mem _ hu)
  unfold qdp at h2 ⊢
  simp only [List.map_cons, List.sum_cons]
  omega
theorem qhy : ∀ {A : List (List UInt8)}, (∀ t ∈ A, q0p t = 0 ∧ 0 ≤ q1w t) → 0 ≤ qdp A
 | [], _ => Int.le_refl _
 | t :: r, h => by
  have h1 := (h t (qaH ..)).2
  have h2 := qhy (A := r) fun u hu => h u (List.mem_cons_of_mem _ hu)
  unfold qdp at h2 ⊢
  simp only [List.map_cons, List.sum_cons]
  omega
theorem q44 (t : List UInt8) (r : List (List UInt8)) : qdp (t :: r) = q1w t + qdp r := by unfold qdp; rw [List.map_cons, List.sum_cons]
theorem qdq.stepB {tot z : Int} {now t : List UInt8} {A B : List (List UInt8)} (h : qdq tot now A (t :: B) z) (h2 : (q1y (z + q1w t)).2 = 0) : qdq tot (q1y (z + q1w t)).1 A B (z + q1w t) :=
 ⟨h2, rfl, h.a, fun u hu => h.b u (List.mem_cons_of_mem _ hu), by have := h.tot; rw [q44] at this; omega⟩
theorem qdq.stepA {tot z : Int} {now t : List UInt8} {A B : List (List UInt8)} (h : qdq tot now (t :: A) B z) (h2 : (q1y (z + q1w t)).2 = 0) : qdq tot (q1y (z + q1w t)).1 A B (z + q1w t) :=
 ⟨h2, rfl, fun u hu => h.a u (List.mem_cons_of_mem _ hu), h.b, by have := h.tot; rw [q44] at this; omega⟩
theorem qdq.overB {tot z : Int} {now t : List UInt8} {A B : List (List UInt8)} (h : qdq tot now A (t :: B) z) (hc : z < 0 ∨ A = []) (h2 : (q1y (z + q1w t)).2 ≠ 0) : (q1y tot).2 ≠ 0 := by
 generalize hM : (200 : Nat) = M
 have hh := fun z => qai z M hM.symm
 have h1 := (hh _).1 h.ok
 have h3 := qeb (h.b t (qaH ..)).1 M hM.symm
 have h4 := (h.b t (qaH ..)).2
 rw [Ne, hh] at h2 ⊢
 generalize 10 ^ M = N at *
 have h5 := h.tot
 rw [q44] at h5
 have h6 := qhy fun u hu => h.b u (List.mem_cons_of_mem _ hu)
 rcases hc with hc | rfl
 ·exfalso; omega
 ·have : qdp [] = 0 := rfl
  omega
theorem qdq.overA {tot z : Int} {now t : List UInt8} {A B : List (List UInt8)} (h : qdq tot now (t :: A) B z) (hc : 0 ≤ z ∨ B = []) (h2 : (q1y (z + q1w t)).2 ≠ 0) : (q1y tot).2 ≠ 0 := by
 generalize hM : (200 : Nat) = M
 have hh := fun z => qai z M hM.symm
 have h1 := (hh _).1 h.ok
 have h3 := qeb (h.a t (qaH ..)).1 M hM.symm
 have h4 := (h.a t (qaH ..)).2
 rw [Ne, hh] at h2 ⊢
 generalize 10 ^ M = N at *
 have h5 := h.tot
 rw [q44] at h5
 have h6 := qim fun u hu => h.a u (List.mem_cons_of_mem _ hu)
 rcases hc with hc | rfl
 ·exfalso; omega
 ·have : qdp [] = 0 := rfl
  omega
theorem qq3 {z : Int} (h : q41 z = true) : (q1y z).2 = 0 := by
 unfold q41 at h
 simp only [Bool.and_eq_true, decide_eq_true_eq] at h
 exact q3a h
theorem qbt {l : List Vv} (h : (q1y (l.map q6w).sum).2 ≠ 0) : qg7 l = (80, zV) := by
 unfold qg7
 split
 ·first | rfl | rw [if_neg h]
 ·first | rfl | rw [if_neg fun e => h (qq3 e)]
def qfu (l : List Vv) : List (List UInt8) := (l.map txN).filter qgt
def qft (l : List Vv) : List (List UInt8) := (l.map txN).filter fun t => !qgt t
theorem q7i {l : List Vv} {k : Nat} {x : Vv} (h : l[k]? = some x) : qfu (l.take (k + 1)) = qfu (l.take k) ++ (if qgt (txN x) = true then [txN x] else []) := by
 unfold qfu
 rw [List.take_add_one, h]
 simp only [List.map_append, List.filter_append, Option.toList_some, List.map_cons, List.map_nil, List.filter_cons, List.filter_nil]
theorem q6q {l : List Vv} {k : Nat} {x : Vv} (h : l[k]? = some x) : qft (l.take (k + 1)) = qft (l.take k) ++ (if qgt (txN x) = true then [] else [txN x]) := by
 unfold qft
 rw [List.take_add_one, h]
 simp only [List.map_append, List.filter_append, Option.toList_some, List.map_cons, List.map_nil, List.filter_cons, List.filter_nil]
 congr 1
 cases qgt (txN x) <;> rfl
theorem q9j : ∀ {l : List Vv}, (∀ x ∈ l, q8b x) → qdp (qfu l) + qdp (qft l) = (l.map q6w).sum ∧ (qfu l).length + (qft l).length = l.length
 | [], _ => ⟨rfl, rfl⟩
 | x :: r, h => by
  obtain ⟨h1, h2⟩ := q9j (l := r) fun y hy => h y (List.mem_cons_of_mem _ hy)
  have h3 := (qac (h x (qaH ..))).2
  unfold qfu qft qdp at *
  simp only [List.map_cons, List.filter_cons, List.sum_cons, qaC]
  cases qgt (txN x) <;> simp only [Bool.not_true, Bool.not_false, Bool.false_eq_true, if_true, if_false, List.map_cons, List.sum_cons, qaC] <;> omega
theorem qq9 {l : List Vv} (h : ∀ x ∈ l, q8b x) : qdq (l.map q6w).sum [48] (qfu l) (qft l) 0 where
 ok := by decide
 now := by decide
 a t ht := by
  obtain ⟨h1, h2⟩ := List.mem_filter.1 ht
  obtain ⟨x, hx, rfl⟩ := List.mem_map.1 h1
  have := (qac (h x hx)).1
  exact ⟨this, (qcu this).1 h2⟩
 b t ht := by
  obtain ⟨h1, h2⟩ := List.mem_filter.1 ht
  obtain ⟨x, hx, rfl⟩ := List.mem_map.1 h1
  have := (qac (h x hx)).1
  refine ⟨this, ?_⟩
  rw [Bool.not_eq_true'] at h2
  have h3 := mt (qcu this).2 (by rw [h2]; decide)
  omega
 tot := by have := (q9j h).1; omega
theorem qdq.neg {tot z : Int} {now : List UInt8} {A B : List (List UInt8)} (h : qdq tot now A B z) : q0p now = 0 ∧ q1w now = z ∧ (qgt now = true ↔ z < 0) := by
 obtain ⟨h1, h2⟩ := q42 h.ok
 rw [← h.now] at h1 h2
 exact ⟨h1, h2, by rw [qcu h1, h2]⟩
theorem qdq.add {tot z : Int} {now t : List UInt8} {A B : List (List UInt8)} (h : qdq tot now A B z) (ht : q0p t = 0) : qqo now t = q1y (z + q1w t) := by
 obtain ⟨h1, h2, -⟩ := h.neg
 rw [qy2, h2]
 unfold u4l q66
 rw [if_pos (by rw [if_pos h1]; exact ht)]
theorem qdq.fin {tot z : Int} {now : List UInt8} (h : qdq tot now [] [] z) : now = (q1y tot).1 ∧ (q1y tot).2 = 0 ∧ q0p now = 0 ∧ q1w now = tot := by
 have h1 := h.tot
 have : qdp [] = 0 := rfl
 rw [this] at h1
 have : z = tot := by omega
 subst this
 exact ⟨h.now, h.ok, h.neg.1, h.neg.2.1⟩
def u0o (F : q01) (r : Int × Vv) (u : Value) : Prop := ∃ a c, u = .tuple ⟨[.agg ⟨vcs r.2 a c⟩, .int .i64 r.1]⟩ ∧ RoR 4 VhR F r.2 (vcs r.2 a c)
theorem q7c (F : q01) (k : Nat) (n : Int) (s : List UInt8) (hs : s.length ≤ 140737488355328) : RoR 4 VhR F (⟨k, n, s⟩, .nil) [.int .u8 (k : Int), .int .i64 n, .string (bs s), .slice none 0 0] := ⟨[_, _, _], _, rfl, rfl, ⟨rfl, hs⟩, TrS.nil _ _ _⟩
theorem q6v (F : q01) (e : Int) (k : Nat) (n : Int) (s : List UInt8) (hs : s.length ≤ 140737488355328) : u0o F (e, (⟨k, n, s⟩, .nil)) (.tuple ⟨[.agg ⟨[.int .u8 (k : Int), .int .i64 n, .string (bs s), .slice none 0 0]⟩, .int .i64 e]⟩) := ⟨none, 0, rfl, q7c F k n s hs⟩
theorem q6p (z : Int) : (q1y z).1.length ≤ 201 := by
 unfold q1y q3z
 split
 ·decide
 ·split
  ·decide
  ·rename_i h1 h2
   cases decide (z < 0)
   ·simp; omega
   ·simp; omega
def strs (l : List (List UInt8)) : List Value := l.map fun s => .string (bs s)
theorem q7g (l m : List (List UInt8)) : strs (l ++ m) = strs l ++ strs m := List.map_append ..
theorem q5r (F : q01) : ∀ l : List (List UInt8), LiC F 1 StR (strs l) l
 | [] => rfl
 | s :: r => ⟨[.string (bs s)], strs r, rfl, rfl, rfl, q5r F r⟩
theorem qr5 (l : List Vv) (k : Nat) : (qfu (l.take k)).length ≤ l.length := by
 unfold qfu
 refine Nat.le_trans (List.length_filter_le _ _) ?_
 rw [List.length_map, qaI]
 exact Nat.min_le_right _ _
theorem qsx (l : List Vv) (k : Nat) : (qft (l.take k)).length ≤ l.length := by
 unfold qft
 refine Nat.le_trans (List.length_filter_le _ _) ?_
 rw [List.length_map, qaI]
 exact Nat.min_le_right _ _
theorem q3s {F : q01} {ao : Option Addr} {n cap : Nat} {t : List UInt8} {l : List (List UInt8)} (h : LiM F 1 StR (.slice ao n cap) (t :: l)) : ∃ b o, ao = some ⟨b, o, none⟩ ∧ n = l.length + 1 ∧ 1 ≤ cap ∧ Cel F b (o + 0) (.string (bs t)) ∧ LiM F 1 StR (.slice (Wk.cutA (some ⟨b, o, none⟩) 1 cap 1) (n - 1) (cap - 1)) l := by
 obtain ⟨ao', cap', e, ⟨h1, h2⟩, hp⟩ := h
 cases e
 obtain ⟨b, o, rfl, hx⟩ := hp (Nat.succ_pos _)
 obtain ⟨cs, hc, hl, hR⟩ := hx 0 t rfl
 rw [show cs = _ from hR] at hc
 refine ⟨b, o, rfl, rfl, by simp at h1; omega, ?_, ⟨_, _, rfl, ⟨by simp at h1; omega, by simp at h2; omega⟩, fun hl => ⟨b, o + 1 * 1, qcv (m := l.length + 1) (by omega) (by simpa using h1), fun k y hy => ?_⟩⟩⟩
 ·have := hc 0 _ rfl
  simpa using this
 ·obtain ⟨cs, h3, h4, h5⟩ := hx (k + 1) y hy
  exact ⟨cs, by rw [show o + 1 * 1 + k * 1 = o + (k + 1) * 1 by omega]; exact h3, h4, h5⟩
theorem qzz {p : Prop} (h : p := by (replace S := S.drop1; refine ⟨trivial, ?_⟩; unfold txN; first | (rw [if_pos (by omega)]; refine S.keep ?_; exact zk) | (rw [if_neg (by omega)]; refine S.keep ?_; exact zk))) : p := h
theorem qgj {p : Prop} (h : p := by (first | (rw [hno]; exact q6v _ 80 0 0 [] (by decide)) | (have hs9 : qg7 l = (0, u5h (q1y (l.map q6w).sum).1) := (by unfold qg7; rw [if_pos (by rw [hhd]; omega), if_pos hf2]); rw [hs9, ← hf1]; exact q6v _ 0 3 0 now (by omega)) | (have hs9 : qg7 l = (80, zV) := (by unfold qg7; rw [if_neg (by rw [hhd]; omega)]; rcases hia with ⟨h9, h8⟩ | ⟨h9, h8⟩; cases h9; (exfalso; omega); rw [if_neg h8]); rw [hs9]; exact q6v _ 80 0 0 [] (by decide)) | (have hs9 : qg7 l = (0, qmf q1) := (by unfold qg7; rw [if_neg (by rw [hhd]; omega)]; rcases hia with ⟨h9, h8⟩ | ⟨h9, h8⟩; cases h9; rw [if_pos h8]; cases h9; (exfalso; omega)); rw [hs9]; exact q6v _ 0 2 q1 [] (by decide)))) : p := h
theorem qr2 {p : Prop} (h : p := by ((simp only [qaC] at hlk); first | (refine ⟨l.length - (k + 1), by omega, k + 1, A, B, _, _, _, _, _, _, rfl, by omega, hst, by omega, hLA, hLt, ?_⟩; refine S.keep ?_; exact zk) | (refine ⟨l.length - (k + 1), by omega, k + 1, A, B, _, _, _, _, _, _, rfl, by omega, hst, by omega, hLt, hLB, ?_⟩; refine S.keep ?_; exact zk))) : p := h
theorem u5m (F : q01) (hT : q50 F) (hE : qf6 F) (v : Value) (l : List Vv) (h : LiM F 4 (RoR 4 VhR) v l) (h0 : 0 < l.length) (hok : ∀ x ∈ l, q8b x) (hlen : l.length ≤ 1000000000) :
    Ct Tryz.prog 53 [v] F [] (fun _ _ u => u0o F (qg7 l) u) := by
  obtain ⟨ao, cap, rfl, hcap, hpos⟩ := h
  have hl0 : 0 < l.length := h0
  obtain ⟨bz, oz, rfl, x0, cs0, hx0, hc0, hR0⟩ := LiM.pos hpos (k := 0) hl0
  obtain ⟨az, cz, rfl⟩ := q4b hR0
  have hhd : (l.headD zV) = x0 := by
    cases l with
    | nil => cases hx0
    | cons y r => cases hx0; rfl
  have hS := qq9 hok
  have hsp := (q9j hok).2
  refine Ct.enter Tryz.func53 rfl Tryz.ntmps53 rfl fun w0 a S => ?_
  refine q1i fun Z hZ => ?_
  (refine q0a S rfl rfl rfl rfl ?_; clear S a; intro b2 a w S)
  revert a; revert Z; refine go 4 ?_; intro Z hZ a S
  (refine q0a S rfl rfl rfl rfl ?_; clear S a; intro b4 a w S)
  revert a; revert Z; refine go 10 ?_; intro Z hZ a S
  refine q04 (fun m a w' => ∃ (k : Nat) (v0 v1 : Value) (g0 g1 : Grp), m = l.length - k ∧ k ≤ l.length ∧ q0u 9 1 v0 (qfu (l.take k)).length (strs (qfu (l.take k))) g0 ∧ q0u 9 1 v1 (qft (l.take k)).length (strs (qft (l.take k))) g1 ∧ St 97 [(0, .slice (some ⟨bz, oz, none⟩) l.length cap), (2, ptr b2), (4, ptr b4), (14, .slice (some ⟨bz, oz, none⟩) l.length cap), (15, .int .i64 l.length), (16, .int .i64 k)] w0 F [] F [g0, g1, [(b4, .cells ⟨[v0, v1]⟩ 129 (0, 0))], [(b2, .cells ⟨[.int .u8 0, .int .i64 0, .string (bs []), .slice none 0 0]⟩ 45 (0, 0))]] a w') ?_ ?_
  · (refine ⟨l.length, 0, .slice none 0 0, .slice none 0 0, [], [], by omega, Nat.zero_le _, q0u.nil _ _, q0u.nil _ _, ?_⟩; replace S := S.nilg.nilg; refine S.keep ?_; exact zk)
  (clear S; rintro m a w ⟨k, v0, v1, g0, g1, rfl, hkl, hO0, hO1, S⟩; have hn0 := qr5 l k; have hn1 := qsx l k)
  revert a; refine go 5 ?_; intro Z hZ a S
  refine q00 S rfl ?_ ?_ <;> intro h
  · revert a; revert Z; refine go 4 ?_; intro Z hZ a S
    (refine wp_seq_k ?_; intro Z hZ)
    (obtain ⟨b8, o8, e8, x, cs1, hx, hc1, hR1⟩ := LiM.pos hpos (k := k) (by omega); cases e8; obtain ⟨ax, cx, rfl⟩ := q4b hR1; have hxm := List.mem_of_getElem? hx; have hxo := hok x hxm; have hxt := qac hxo; have hxp := q7e hxt.1)
    revert a; refine go 3 ?_; intro a S
    (refine q0a S rfl rfl rfl rfl ?_; clear S a; intro b6 a w S)
    (refine wso S rfl rfl ?_; clear S; intro w S)
    revert a; revert Z; refine go 8 ?_; intro a S
    (refine wp_seq_k ?_; intro Z hZ)
    replace hZ : ∀ (a' : Act) (w' : World), (True ∧ St 97 [(0, .slice (some ⟨bz, oz, none⟩) l.length cap), (2, ptr b2), (4, ptr b4), (7, .string (bs (txN x))), (14, .slice (some ⟨bz, oz, none⟩) l.length cap), (15, .int .i64 l.length), (16, .int .i64 k)] w0 F [] F [g0, g1, [(b4, .cells ⟨[v0, v1]⟩ 129 (0, 0))], [(b2, .cells ⟨[.int .u8 0, .int .i64 0, .string (bs []), .slice none 0 0]⟩ 45 (0, 0))]] a' w') → Z a' w' := (by
     (intro a w hM; refine hZ _ _ ?_; clear hZ Z; clear S; obtain ⟨-, S⟩ := hM)
     revert a; refine go 7 ?_; intro Z hZ Z hZ a S
     (refine wv S (q07 (i := 0) S rfl rfl rfl (by omega)) ?_; clear S a; intro a S)
     revert a; revert Z; refine go 3 ?_; intro a S
     refine q00 S rfl ?_ ?_ <;> intro h
     · (have hown := hO0)
       revert a; revert Z; refine go 4 ?_; intro a S
       (first | (have hq := hown; clear hq) | (have hown := hO1))
       revert a; refine go 3 ?_; intro a S
       (refine wv S (q0i S rfl rfl rfl (by first | omega | (simp only [qaA, qaC, qaD]; omega))) ?_; clear S a; intro a S)
       revert a; refine go 2 ?_; intro a S
       (refine q0s S rfl rfl rfl rfl rfl rfl rfl rfl rfl rfl rfl (fun _ => rfl) hown (by rfl) (by simp [Value.cells, splice, splice]) (by simp [Value.cells, Value.oneCell', splice, splice]) rfl (by rfl) (by rfl) rfl (by omega) (by omega) ?_; clear hown S a; intro v u g a w hown S)
       (refine wv S (q0i S rfl rfl rfl (by first | omega | (simp only [qaA, qaC, qaD]; omega))) ?_; clear S a; intro a S)
       (refine q0e S rfl rfl rfl rfl rfl hown.oneCell (by first | (simp; done) | exact Nat.le_of_ble_eq_true rfl) ?_; clear S; intro w S)
       revert a; revert Z; refine go 6 ?_; intro a S
       change ∃ m', _ ∧ _
       (first | (have hng : qgt (txN x) = true := decide_eq_true (by omega); have hown2 : q0u 9 1 v (qfu (l.take (k + 1))).length (strs (qfu (l.take (k + 1)))) g := (by rw [q7i hx, if_pos hng, q7g, qaA]; exact hown); have e2 := q6q hx; rw [if_pos hng, qaE] at e2; rw [← e2] at hO1; refine ⟨l.length - (k + 1), by omega, k + 1, _, _, _, _, rfl, by omega, hown2, hO1, ?_⟩; refine S.keep ?_; exact zk) | (have hng : ¬ qgt (txN x) = true := (fun h9 => absurd (of_decide_eq_true h9) (by omega)); have hown2 : q0u 9 1 v (qft (l.take (k + 1))).length (strs (qft (l.take (k + 1)))) g := (by rw [q6q hx, if_neg hng, q7g, qaA]; exact hown); have e2 := q7i hx; rw [if_neg hng, qaE] at e2; rw [← e2] at hO0; refine ⟨l.length - (k + 1), by omega, k + 1, _, _, _, _, rfl, by omega, hO0, hown2, ?_⟩; refine S.keep ?_; exact zk))
     revert a; revert Z; refine go 2 ?_; intro a S
     (first | (have hq := hown; clear hq) | (have hown := hO1))
     revert a; refine go 3 ?_; intro a S
     (refine wv S (q0i S rfl rfl rfl (by first | omega | (simp only [qaA, qaC, qaD]; omega))) ?_; clear S a; intro a S)
     revert a; refine go 2 ?_; intro a S
     (refine q0s S rfl rfl rfl rfl rfl rfl rfl rfl rfl rfl rfl (fun _ => rfl) hown (by rfl) (by simp [Value.cells, splice, splice]) (by simp [Value.cells, Value.oneCell', splice, splice]) rfl (by rfl) (by rfl) rfl (by omega) (by omega) ?_; clear hown S a; intro v u g a w hown S)
     (refine wv S (q0i S rfl rfl rfl (by first | omega | (simp only [qaA, qaC, qaD]; omega))) ?_; clear S a; intro a S)
     (refine q0e S rfl rfl rfl rfl rfl hown.oneCell (by first | (simp; done) | exact Nat.le_of_ble_eq_true rfl) ?_; clear S; intro w S)
     revert a; revert Z; refine go 6 ?_; intro a S
     change ∃ m', _ ∧ _
     (first | (have hng : qgt (txN x) = true := decide_eq_true (by omega); have hown2 : q0u 9 1 v (qfu (l.take (k + 1))).length (strs (qfu (l.take (k + 1)))) g := (by rw [q7i hx, if_pos hng, q7g, qaA]; exact hown); have e2 := q6q hx; rw [if_pos hng, qaE] at e2; rw [← e2] at hO1; refine ⟨l.length - (k + 1), by omega, k + 1, _, _, _, _, rfl, by omega, hown2, hO1, ?_⟩; refine S.keep ?_; exact zk) | (have hng : ¬ qgt (txN x) = true := (fun h9 => absurd (of_decide_eq_true h9) (by omega)); have hown2 : q0u 9 1 v (qft (l.take (k + 1))).length (strs (qft (l.take (k + 1)))) g := (by rw [q6q hx, if_neg hng, q7g, qaA]; exact hown); have e2 := q7i hx; rw [if_neg hng, qaE] at e2; rw [← e2] at hO0; refine ⟨l.length - (k + 1), by omega, k + 1, _, _, _, _, rfl, by omega, hO0, hown2, ?_⟩; refine S.keep ?_; exact zk)))
    revert a; refine go 6 ?_; intro a S
    refine q00 S rfl ?_ ?_ <;> intro h
    · revert a; refine go 3 ?_; intro a S
      (refine wc0 S (qzj x.1.n F hT (by rcases hxo with h9 | h9 <;> omega) (by rcases hxo with h9 | h9 <;> omega)) ?_; clear S a; intro v9 a w hv S; subst hv)
      revert a; refine go 2 ?_; intro a S
      (refine hZ _ _ ?_)
      exact qzz
    refine wp_skip ?_
    (refine hZ _ _ ?_)
    exact qzz
  (refine wp_exit ?_; conv => whnf)
  clear hZ Z
  (refine hZ _ _ ?_; clear hZ Z)
  (refine wp_seq_k ?_; intro Z hZ)
  (have hkk : k = l.length := (by omega); subst hkk; rw [List.take_of_length_le (Nat.le_refl _)] at hO0 hO1; have hle0 := q2h (G1 := []) S; replace S := St.freeze (G1 := []) S; (simp only [qaG] at S hle0); have hLA := LiC.lim (F := F) hO0 (q5r F _) rfl hle0 (by omega); have hle1 := q2h (G1 := []) S; replace S := St.freeze (G1 := []) S; (simp only [qaG] at S hle1); have hLB := LiC.lim (F := F.add g0) hO1 (q5r _ _) rfl hle1 (by omega); replace hLA := hLA.mono hle1; have hF2 : ∀ b o, F b = some o → ((F.add g0).add g1) b = some o := fun b o h => hle1 _ _ (hle0 _ _ h); clear hO0 hO1 hle0 hle1; obtain ⟨aA, cA, rfl, -, -⟩ := id hLA; obtain ⟨aB, cB, rfl, -, -⟩ := id hLB; generalize (F.add g0).add g1 = F2 at S hLA hLB hF2; have hT2 := hT.mono hF2; have hE2 := hE.mono hF2; replace hc0 := q2v.mono hF2 hc0)
  revert a; revert Z; refine go 12 ?_; intro Z hZ a S
  refine q04 (fun m a w' => ∃ (k : Nat) (A B : List (List UInt8)) (now : List UInt8) (z : Int) (aA aB : Option Addr) (cA cB : Nat), m = l.length - k ∧ k ≤ l.length ∧ qdq (l.map q6w).sum now A B z ∧ A.length + B.length + k = l.length ∧ LiM F2 1 StR (.slice aA A.length cA) A ∧ LiM F2 1 StR (.slice aB B.length cB) B ∧ St 97 [(0, .slice (some ⟨bz, oz, none⟩) l.length cap), (2, ptr b2), (4, ptr b4), (9, .string (bs now)), (41, .int .i64 l.length), (42, .int .i64 k)] w0 F [] F2 [[(b4, .cells ⟨[.slice aA A.length cA, .slice aB B.length cB]⟩ 129 (0, 0))], [(b2, .cells ⟨[.int .u8 0, .int .i64 0, .string (bs []), .slice none 0 0]⟩ 45 (0, 0))]] a w') ?_ ?_
  · (refine ⟨l.length, 0, qfu l, qft l, [48], 0, _, _, _, _, by omega, Nat.zero_le _, hS, by omega, hLA, hLB, ?_⟩; refine S.keep ?_; exact zk)
  (clear S hLA hLB hS; rintro m a w ⟨k, A, B, now, z, aA, aB, cA, cB, rfl, hkl, hI, hlk, hLA, hLB, S⟩; have hpn := q7e hI.neg.1; have hln := q46 hI.neg.1; have hzn : (now.getD 0 0).toNat = 45 ↔ z < 0 := (by have h9 := hI.neg.2.2; unfold qgt at h9; rw [decide_eq_true_eq] at h9; exact h9))
  revert a; refine go 5 ?_; intro Z hZ a S
  refine q00 S rfl ?_ ?_ <;> intro h
  · revert a; revert Z; refine go 9 ?_; intro Z hZ Z hZ a S
    revert a; refine go 2 ?_; intro Z hZ a S
    (refine wv S (q07 (i := 0) S rfl rfl rfl (by omega)) ?_; clear S a; intro a S)
    revert a; refine go 2 ?_; intro a S
    refine wgd S ?_ ?_
    · (clear S; intro h S)
      (refine wv S (q0i S rfl rfl rfl (by first | omega | (simp only [qaA, qaC, qaD]; omega))) ?_; clear S a; intro a S)
      revert a; revert Z; refine go 9 ?_; intro a S
      refine q00 S rfl ?_ ?_ <;> intro h
      · revert a; revert Z; refine go 7 ?_; intro Z hZ Z hZ a S
        (refine wv S (q0i S rfl rfl rfl (by first | omega | (simp only [qaA, qaC, qaD]; omega))) ?_; clear S a; intro a S)
        revert a; refine go 2 ?_; intro a S
        (refine wv S (q0j (c := false) (q09 S rfl) (by (rw [beq_eq_false_iff_ne]; omega))) ?_; clear S a; intro a S)
        revert a; revert Z; refine go 2 ?_; intro a S
        refine q03 S rfl ?_
        revert a; revert Z; refine go 7 ?_; intro Z hZ a S
        (refine wp_seq_k ?_; intro Z hZ)
        (first | (have hBn : B ≠ [] := (by intro h9; subst h9; (simp only [qaD] at *); omega); have hBc : z < 0 ∨ A = [] := (by first | (left; omega) | (right; exact List.eq_nil_of_length_eq_zero (by omega))); obtain ⟨t, B, rfl⟩ := List.exists_cons_of_ne_nil hBn; have hov := hI.overB hBc; have hst := hI.stepB; have htc := (hI.b t (qaH ..)).1; have hadd := hI.add htc; obtain ⟨bt, ot, rfl, hnt, hcl, hct, hLt⟩ := q3s hLB) | (have hAn : A ≠ [] := (by intro h9; subst h9; (simp only [qaD] at *); omega); have hAc : 0 ≤ z ∨ B = [] := (by first | (left; omega) | (right; exact List.eq_nil_of_length_eq_zero (by omega))); obtain ⟨t, A, rfl⟩ := List.exists_cons_of_ne_nil hAn; have hov := hI.overA hAc; have hst := hI.stepA; have htc := (hI.a t (qaH ..)).1; have hadd := hI.add htc; obtain ⟨bt, ot, rfl, hnt, hcl, hct, hLt⟩ := q3s hLA)); have hlt := q46 htc; replace hct : Cel F2 bt (ot + 0 * 1) (.string (bs t)) := hct
        revert a; refine go 3 ?_; intro a S
        (refine wv S (q0i S rfl rfl rfl (by first | omega | (simp only [qaA, qaC, qaD]; omega))) ?_; clear S a; intro a S)
        revert a; refine go 2 ?_; intro a S
        (refine wv S (q05 S rfl rfl hct) ?_; clear S a; intro a S)
        (refine wc0 S (qjg now t F2 hT2 (by omega) (by omega)) ?_; clear S a; intro v9 a w hv S; rw [hadd] at hv; subst hv; have hzl := q6p (z + q1w t))
        revert a; revert Z; refine go 12 ?_; intro a S
        refine q00 S rfl ?_ ?_ <;> intro h
        · (refine wp_seq_k ?_; intro Z hZ)
          (have hno := qbt (hov (by assumption)))
          revert a; refine go 2 ?_; intro a S
          (refine wso S rfl rfl ?_; clear S; intro w S)
          revert a; revert Z; refine go 3 ?_; intro a S
          refine wp_ret (q08 S (q0v Tryz.results53 (RV.cellO S rfl (by rfl)) (RV.tmp S rfl)) ?_)
          exact qgj
        revert a; revert Z; refine go 2 ?_; intro a S
        (replace hst := hst (by omega))
        revert a; refine go 3 ?_; intro a S
        (refine wv S (q0i S rfl rfl rfl (by first | omega | (simp only [qaA, qaC, qaD]; omega))) ?_; clear S a; intro a S)
        revert a; refine go 1 ?_; intro a S
        (refine wv S (q2l (i := 1) S rfl rfl rfl (by omega)) ?_; clear S a; intro a S)
        (refine wv S (q0i S rfl rfl rfl (by first | omega | (simp only [qaA, qaC, qaD]; omega))) ?_; clear S a; intro a S)
        (refine q0e S rfl rfl rfl rfl rfl rfl (by first | (simp; done) | (simp [Value.cells]; done) | exact Nat.le_of_ble_eq_true rfl) ?_; clear S; intro w S)
        revert a; revert Z; refine go 6 ?_; intro a S
        change ∃ m', _ ∧ _
        exact qr2
      revert a; revert Z; refine go 5 ?_; intro Z hZ Z hZ a S
      (refine wv S (q0i S rfl rfl rfl (by first | omega | (simp only [qaA, qaC, qaD]; omega))) ?_; clear S a; intro a S)
      revert a; refine go 2 ?_; intro a S
      (refine wv S (q0j (c := false) (q09 S rfl) (by (rw [beq_eq_false_iff_ne]; omega))) ?_; clear S a; intro a S)
      revert a; revert Z; refine go 2 ?_; intro a S
      refine q03 S rfl ?_
      revert a; revert Z; refine go 7 ?_; intro Z hZ a S
      (refine wp_seq_k ?_; intro Z hZ)
      (first | (have hBn : B ≠ [] := (by intro h9; subst h9; (simp only [qaD] at *); omega); have hBc : z < 0 ∨ A = [] := (by first | (left; omega) | (right; exact List.eq_nil_of_length_eq_zero (by omega))); obtain ⟨t, B, rfl⟩ := List.exists_cons_of_ne_nil hBn; have hov := hI.overB hBc; have hst := hI.stepB; have htc := (hI.b t (qaH ..)).1; have hadd := hI.add htc; obtain ⟨bt, ot, rfl, hnt, hcl, hct, hLt⟩ := q3s hLB) | (have hAn : A ≠ [] := (by intro h9; subst h9; (simp only [qaD] at *); omega); have hAc : 0 ≤ z ∨ B = [] := (by first | (left; omega) | (right; exact List.eq_nil_of_length_eq_zero (by omega))); obtain ⟨t, A, rfl⟩ := List.exists_cons_of_ne_nil hAn; have hov := hI.overA hAc; have hst := hI.stepA; have htc := (hI.a t (qaH ..)).1; have hadd := hI.add htc; obtain ⟨bt, ot, rfl, hnt, hcl, hct, hLt⟩ := q3s hLA)); have hlt := q46 htc; replace hct : Cel F2 bt (ot + 0 * 1) (.string (bs t)) := hct
      revert a; refine go 3 ?_; intro a S
      (refine wv S (q0i S rfl rfl rfl (by first | omega | (simp only [qaA, qaC, qaD]; omega))) ?_; clear S a; intro a S)
      revert a; refine go 2 ?_; intro a S
      (refine wv S (q05 S rfl rfl hct) ?_; clear S a; intro a S)
      (refine wc0 S (qjg now t F2 hT2 (by omega) (by omega)) ?_; clear S a; intro v9 a w hv S; rw [hadd] at hv; subst hv; have hzl := q6p (z + q1w t))
      revert a; revert Z; refine go 12 ?_; intro a S
      refine q00 S rfl ?_ ?_ <;> intro h
      · (refine wp_seq_k ?_; intro Z hZ)
        (have hno := qbt (hov (by assumption)))
        revert a; refine go 2 ?_; intro a S
        (refine wso S rfl rfl ?_; clear S; intro w S)
        revert a; revert Z; refine go 3 ?_; intro a S
        refine wp_ret (q08 S (q0v Tryz.results53 (RV.cellO S rfl (by rfl)) (RV.tmp S rfl)) ?_)
        exact qgj
      revert a; revert Z; refine go 2 ?_; intro a S
      (replace hst := hst (by omega))
      revert a; refine go 3 ?_; intro a S
      (refine wv S (q0i S rfl rfl rfl (by first | omega | (simp only [qaA, qaC, qaD]; omega))) ?_; clear S a; intro a S)
      revert a; refine go 1 ?_; intro a S
      (refine wv S (q2l (i := 1) S rfl rfl rfl (by omega)) ?_; clear S a; intro a S)
      (refine wv S (q0i S rfl rfl rfl (by first | omega | (simp only [qaA, qaC, qaD]; omega))) ?_; clear S a; intro a S)
      (refine q0e S rfl rfl rfl rfl rfl rfl (by first | (simp; done) | (simp [Value.cells]; done) | exact Nat.le_of_ble_eq_true rfl) ?_; clear S; intro w S)
      revert a; revert Z; refine go 6 ?_; intro a S
      change ∃ m', _ ∧ _
      exact qr2
    (clear S a; intro h a S)
    revert a; revert Z; refine go 6 ?_; intro a S
    refine q0h S rfl ?_
    revert a; revert Z; refine go 7 ?_; intro Z hZ Z hZ a S
    (refine wv S (q0i S rfl rfl rfl (by first | omega | (simp only [qaA, qaC, qaD]; omega))) ?_; clear S a; intro a S)
    revert a; revert Z; refine go 5 ?_; intro a S
    refine q00 S rfl ?_ ?_ <;> intro h
    · revert a; refine go 3 ?_; intro a S
      (rw [show ((1 : Int) - 1) = 0 from rfl] at S)
      revert a; revert Z; refine go 8 ?_; intro Z hZ a S
      (refine wp_seq_k ?_; intro Z hZ)
      (first | (have hBn : B ≠ [] := (by intro h9; subst h9; (simp only [qaD] at *); omega); have hBc : z < 0 ∨ A = [] := (by first | (left; omega) | (right; exact List.eq_nil_of_length_eq_zero (by omega))); obtain ⟨t, B, rfl⟩ := List.exists_cons_of_ne_nil hBn; have hov := hI.overB hBc; have hst := hI.stepB; have htc := (hI.b t (qaH ..)).1; have hadd := hI.add htc; obtain ⟨bt, ot, rfl, hnt, hcl, hct, hLt⟩ := q3s hLB) | (have hAn : A ≠ [] := (by intro h9; subst h9; (simp only [qaD] at *); omega); have hAc : 0 ≤ z ∨ B = [] := (by first | (left; omega) | (right; exact List.eq_nil_of_length_eq_zero (by omega))); obtain ⟨t, A, rfl⟩ := List.exists_cons_of_ne_nil hAn; have hov := hI.overA hAc; have hst := hI.stepA; have htc := (hI.a t (qaH ..)).1; have hadd := hI.add htc; obtain ⟨bt, ot, rfl, hnt, hcl, hct, hLt⟩ := q3s hLA)); have hlt := q46 htc; replace hct : Cel F2 bt (ot + 0 * 1) (.string (bs t)) := hct
      revert a; refine go 3 ?_; intro a S
      (refine wv S (q0i S rfl rfl rfl (by first | omega | (simp only [qaA, qaC, qaD]; omega))) ?_; clear S a; intro a S)
      revert a; refine go 2 ?_; intro a S
      (refine wv S (q05 S rfl rfl hct) ?_; clear S a; intro a S)
      (refine wc0 S (qjg now t F2 hT2 (by omega) (by omega)) ?_; clear S a; intro v9 a w hv S; rw [hadd] at hv; subst hv; have hzl := q6p (z + q1w t))
      revert a; revert Z; refine go 12 ?_; intro a S
      refine q00 S rfl ?_ ?_ <;> intro h
      · (refine wp_seq_k ?_; intro Z hZ)
        (have hno := qbt (hov (by assumption)))
        revert a; refine go 2 ?_; intro a S
        (refine wso S rfl rfl ?_; clear S; intro w S)
        revert a; revert Z; refine go 3 ?_; intro a S
        refine wp_ret (q08 S (q0v Tryz.results53 (RV.cellO S rfl (by rfl)) (RV.tmp S rfl)) ?_)
        exact qgj
      revert a; revert Z; refine go 2 ?_; intro a S
      (replace hst := hst (by omega))
      revert a; refine go 3 ?_; intro a S
      (refine wv S (q0i S rfl rfl rfl (by first | omega | (simp only [qaA, qaC, qaD]; omega))) ?_; clear S a; intro a S)
      revert a; refine go 1 ?_; intro a S
      (refine wv S (q2l (i := 1) S rfl rfl rfl (by omega)) ?_; clear S a; intro a S)
      (refine wv S (q0i S rfl rfl rfl (by first | omega | (simp only [qaA, qaC, qaD]; omega))) ?_; clear S a; intro a S)
      (refine q0e S rfl rfl rfl rfl rfl rfl (by first | (simp; done) | (simp [Value.cells]; done) | exact Nat.le_of_ble_eq_true rfl) ?_; clear S; intro w S)
      revert a; revert Z; refine go 6 ?_; intro a S
      change ∃ m', _ ∧ _
      exact qr2
    revert a; revert Z; refine go 7 ?_; intro Z hZ a S
    (refine wp_seq_k ?_; intro Z hZ)
    (first | (have hBn : B ≠ [] := (by intro h9; subst h9; (simp only [qaD] at *); omega); have hBc : z < 0 ∨ A = [] := (by first | (left; omega) | (right; exact List.eq_nil_of_length_eq_zero (by omega))); obtain ⟨t, B, rfl⟩ := List.exists_cons_of_ne_nil hBn; have hov := hI.overB hBc; have hst := hI.stepB; have htc := (hI.b t (qaH ..)).1; have hadd := hI.add htc; obtain ⟨bt, ot, rfl, hnt, hcl, hct, hLt⟩ := q3s hLB) | (have hAn : A ≠ [] := (by intro h9; subst h9; (simp only [qaD] at *); omega); have hAc : 0 ≤ z ∨ B = [] := (by first | (left; omega) | (right; exact List.eq_nil_of_length_eq_zero (by omega))); obtain ⟨t, A, rfl⟩ := List.exists_cons_of_ne_nil hAn; have hov := hI.overA hAc; have hst := hI.stepA; have htc := (hI.a t (qaH ..)).1; have hadd := hI.add htc; obtain ⟨bt, ot, rfl, hnt, hcl, hct, hLt⟩ := q3s hLA)); have hlt := q46 htc; replace hct : Cel F2 bt (ot + 0 * 1) (.string (bs t)) := hct
    revert a; refine go 3 ?_; intro a S
    (refine wv S (q0i S rfl rfl rfl (by first | omega | (simp only [qaA, qaC, qaD]; omega))) ?_; clear S a; intro a S)
    revert a; refine go 2 ?_; intro a S
    (refine wv S (q05 S rfl rfl hct) ?_; clear S a; intro a S)
    (refine wc0 S (qjg now t F2 hT2 (by omega) (by omega)) ?_; clear S a; intro v9 a w hv S; rw [hadd] at hv; subst hv; have hzl := q6p (z + q1w t))
    revert a; revert Z; refine go 12 ?_; intro a S
    refine q00 S rfl ?_ ?_ <;> intro h
    · (refine wp_seq_k ?_; intro Z hZ)
      (have hno := qbt (hov (by assumption)))
      revert a; refine go 2 ?_; intro a S
      (refine wso S rfl rfl ?_; clear S; intro w S)
      revert a; revert Z; refine go 3 ?_; intro a S
      refine wp_ret (q08 S (q0v Tryz.results53 (RV.cellO S rfl (by rfl)) (RV.tmp S rfl)) ?_)
      exact qgj
    refine wp_skip ?_
    (refine hZ _ _ ?_; clear hZ Z)
    (replace hst := hst (by omega))
    revert a; refine go 3 ?_; intro a S
    (refine wv S (q0i S rfl rfl rfl (by first | omega | (simp only [qaA, qaC, qaD]; omega))) ?_; clear S a; intro a S)
    revert a; refine go 1 ?_; intro a S
    (refine wv S (q2l (i := 1) S rfl rfl rfl (by omega)) ?_; clear S a; intro a S)
    (refine wv S (q0i S rfl rfl rfl (by first | omega | (simp only [qaA, qaC, qaD]; omega))) ?_; clear S a; intro a S)
    (refine q0e S rfl rfl rfl rfl rfl rfl (by first | (simp; done) | (simp [Value.cells]; done) | exact Nat.le_of_ble_eq_true rfl) ?_; clear S; intro w S)
    revert a; revert Z; refine go 6 ?_; intro a S
    change ∃ m', _ ∧ _
    exact qr2
  (refine wp_exit ?_; conv => whnf)
  clear hZ Z
  revert a; revert Z; refine go 2 ?_; intro Z hZ a S
  (refine wp_seq_k ?_; intro Z hZ)
  (have hA0 : A = [] := List.eq_nil_of_length_eq_zero (by omega); have hB0 : B = [] := List.eq_nil_of_length_eq_zero (by omega); subst hA0; subst hB0; obtain ⟨hf1, hf2, hf3, hf4⟩ := hI.fin)
  revert a; refine go 4 ?_; intro a S
  (refine wv S (q05 S rfl rfl (hc0 0 _ rfl)) ?_; clear S a; intro a S)
  revert a; revert Z; refine go 3 ?_; intro a S
  refine q00 S rfl ?_ ?_ <;> intro h
  · revert a; refine go 3 ?_; intro Z hZ a S
    (refine wso S rfl rfl ?_; clear S; intro w S)
    revert a; revert Z; refine go 3 ?_; intro a S
    refine wp_ret (q08 S (q0v Tryz.results53 (RV.cellO S rfl (by rfl)) (RV.tmp S rfl)) ?_)
    exact qgj
  revert a; revert Z; refine go 4 ?_; intro Z hZ a S
  (have hia : (qgu now = ((l.map q6w).sum, 0) ∧ q41 (l.map q6w).sum = true) ∨ (qgu now = (0, 80) ∧ ¬ q41 (l.map q6w).sum = true) := (by unfold qgu; rw [if_pos hf3, hf4]; by_cases h9 : q41 (l.map q6w).sum = true; exact .inl ⟨if_pos h9, h9⟩; exact .inr ⟨if_neg h9, h9⟩); have hbi := u2n now F2 hE2 (by omega); generalize qgu now = q at hbi hia; obtain ⟨q1, q2⟩ := q; refine wc0 S hbi ?_; clear S a; intro v9 a w hv S; subst hv)
  revert a; revert Z; refine go 13 ?_; intro Z hZ a S
  refine q00 S rfl ?_ ?_ <;> intro h
  · revert a; refine go 2 ?_; intro Z hZ a S
    (refine wso S rfl rfl ?_; clear S; intro w S)
    revert a; revert Z; refine go 3 ?_; intro a S
    refine wp_ret (q08 S (q0v Tryz.results53 (RV.cellO S rfl (by rfl)) (RV.tmp S rfl)) ?_)
    exact qgj
  revert a; revert Z; refine go 5 ?_; intro Z hZ a S
  (refine wso S rfl rfl ?_; clear S; intro w S)
  revert a; revert Z; refine go 3 ?_; intro a S
  refine wp_ret (q08 S (q0v Tryz.results53 (RV.cellO S rfl (by rfl)) (RV.tmp S rfl)) ?_)
  exact qgj
