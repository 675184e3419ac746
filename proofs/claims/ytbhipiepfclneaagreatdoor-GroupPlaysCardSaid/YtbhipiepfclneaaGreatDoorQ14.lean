/- Walks. -/
import Derived.Test.YtbhipiepfclneaaGreatDoorQ13
import Derived.Lib.AppendZeros
import Derived.Lib.ItoaLen
set_option maxHeartbeats 4000000
set_option linter.unusedVariables false
set_option linter.unusedSimpArgs false
namespace Go.Proofs.YtbhipiepfclneaaGreatDoor
open Go Go.Wk
attribute [local irreducible] Go.wpList Go.Code.wp Go.wpStill Go.Wk.q26 Go.bodyPost Go.Calls Go.Wk.Ct Go.Wk.q0u Go.Wk.wpG Go.Wk.wpM
def BdO (b : Nat) (l : List UInt8) (p v : Value) (g : Grp) : Prop := qzm b p ∧ q0u 5 1 v l.length (u8c l) g
theorem qhl (b : Nat) (p v : Value) (l : List UInt8) (c : UInt8) (g : Grp) (F : q01) (h : BdO b l p v g) (hk : l.length ≤ 1000000000) :
  Ct Tryz.prog 87 [.pointer (some ⟨b, 0, none⟩), .int .u8 c.toNat] F [g, q1x b p v] (fun _ G' _ => ∃ p' v' g', G' = [g', q1x b p' v'] ∧ BdO b (l ++ [c]) p' v' g') :=
 Ct.mono (qh7 b p v l.length l c g F h.1 h.2 hk) fun _ _ _ ⟨v', g', h1, h2⟩ => ⟨_, v', g', h1, .inr rfl, by rw [qaA]; exact h2⟩
theorem qr0 (b : Nat) (p v : Value) (l s : List UInt8) (g : Grp) (F : q01) (h : BdO b l p v g) (hk : l.length ≤ 1000000000) (hs : s.length ≤ 100000000) (h0 : 0 < s.length) :
  Ct Tryz.prog 63 [.pointer (some ⟨b, 0, none⟩), .string (bs s)] F [g, q1x b p v] (fun _ G' _ => ∃ p' v' g', G' = [g', q1x b p' v'] ∧ BdO b (l ++ s) p' v' g') :=
 Ct.mono (qcr b p v l.length l s g F h.1 h.2 (by omega) hs h0) fun _ _ _ ⟨v', g', h1, h2⟩ => ⟨_, v', g', h1, .inr rfl, by rw [qaA]; exact h2⟩
def qzk : List UInt8 := [48, 49, 50, 51, 52, 53, 54, 55, 56, 57, 97, 98, 99, 100, 101, 102]
def qkd (n : Nat) : UInt8 := (qzk[n]?).getD 0
theorem qhn (n : Nat) : qkd n = qzk.getD n 0 := by unfold qkd; rw [List.getD_eq_getElem?_getD]
def qal (c : UInt8) : List UInt8 := if c.toNat = 34 ∨ c.toNat = 92 then [92, c] else if c.toNat = 10 then [92, 110] else if c.toNat = 9 then [92, 116] else if 32 ≤ c.toNat ∧ c.toNat ≤ 126 then [c] else [92, 120] ++ [qkd (c.toNat / 16)] ++ [qkd (c.toNat % 16)]
def q7s (s : List UInt8) : List UInt8 := [34] ++ s.flatMap qal ++ [34]
theorem BdO.cast {b : Nat} {l m : List UInt8} {p v : Value} {g : Grp} (h : BdO b l p v g) (e : l = m) : BdO b m p v g := by rw [← e]; exact h
theorem u5x {c : UInt8} (h : c.toNat = 34 ∨ c.toNat = 92) : qal c = [92] ++ [c] := by unfold qal; rw [if_pos h]; rfl
theorem u5n {c : UInt8} (h : c.toNat = 10) : qal c = [92, 110] := by unfold qal; rw [if_neg (by omega), if_pos h]
theorem u54 {c : UInt8} (h : c.toNat = 9) : qal c = [92, 116] := by unfold qal; rw [if_neg (by omega), if_neg (by omega), if_pos h]
theorem u4y {c : UInt8} (h : 32 ≤ c.toNat ∧ c.toNat ≤ 126 ∧ c.toNat ≠ 34 ∧ c.toNat ≠ 92) : qal c = [c] := by unfold qal; rw [if_neg (by omega), if_neg (by omega), if_neg (by omega), if_pos (by omega)]
theorem u4e {c : UInt8} (h : ¬ (32 ≤ c.toNat ∧ c.toNat ≤ 126) ∧ c.toNat ≠ 9 ∧ c.toNat ≠ 10) : qal c = [92, 120] ++ [qkd (c.toNat / 16)] ++ [qkd (c.toNat % 16)] := by unfold qal; rw [if_neg (by omega), if_neg (by omega), if_neg (by omega), if_neg (by omega)]
theorem u3q {s : List UInt8} {i : Nat} (h : i < s.length) : (s.take (i + 1)).flatMap qal = (s.take i).flatMap qal ++ qal (s.getD i 0) := by
 rw [List.take_add_one, List.flatMap_append, List.getD_eq_getElem?_getD, List.getElem?_eq_getElem h]
 simp
theorem qru (c : UInt8) : (qal c).length ≤ 4 := by
 unfold qal
 by_cases h1 : c.toNat = 34 ∨ c.toNat = 92
 ·rw [if_pos h1]; exact (by decide : 2 ≤ 4)
 ·rw [if_neg h1]
  by_cases h2 : c.toNat = 10
  ·rw [if_pos h2]; decide
  ·rw [if_neg h2]
   by_cases h3 : c.toNat = 9
   ·rw [if_pos h3]; decide
   ·rw [if_neg h3]
    by_cases h4 : 32 ≤ c.toNat ∧ c.toNat ≤ 126
    ·rw [if_pos h4]; exact (by decide : 1 ≤ 4)
    ·rw [if_neg h4]; simp
theorem qbz : ∀ s : List UInt8, (s.flatMap qal).length ≤ 4 * s.length
 | [] => Nat.le_refl _
 | c :: s => by
  have := qru c
  have := qbz s
  rw [List.flatMap_cons, qaA, qaC]
  omega
theorem qgd {p : Prop} (h : p := by (refine ⟨s.length - (i + 1), by omega, i + 1, p1, v1, g1, rfl, by omega, hown.cast ?_, ?_⟩; rotate_left 1; (refine S.keep ?_; exact zk); (rw [u3q (by omega)]; first | rw [u5x (by omega)] | rw [u5n (by omega)] | rw [u54 (by omega)] | rw [u4y (by omega)] | rw [u4e (by omega)]); simp only [qaB])) : p := h
theorem qz8 (b : Nat) (p v : Value) (l s : List UInt8) (g : Grp) (F : q01) (h : BdO b l p v g) (hk : l.length ≤ 100000000) (hs : s.length ≤ 100000000) :
  Ct Tryz.prog 90 [.pointer (some ⟨b, 0, none⟩), .string (bs s)] F [g, q1x b p v] (fun _ G' _ => ∃ p' v' g', G' = [g', q1x b p' v'] ∧ BdO b (l ++ q7s s) p' v' g') := by
 refine Ct.enter Tryz.func90 rfl Tryz.ntmps90 rfl fun w0 a S => ?_
 revert a; refine go 2 ?_; intro Z hZ a S
 (refine q02 (Gs := [g, q1x b p v]) (Gr := []) S rfl rfl rfl rfl rfl rfl (qhl b p v l 34 g F h (by omega)) rfl (by simp) ?_; clear S a; intro u G1 a w hv1 S; obtain ⟨p0, v0, g0, rfl, hown⟩ := hv1; (simp only [qaE] at S))
 revert a; revert Z; refine go 10 ?_; intro Z hZ a S
 refine q04 (fun m a w' => ∃ (i : Nat) (p1 v1 : Value) (g1 : Grp), m = s.length - i ∧ i ≤ s.length ∧ BdO b (l ++ ([34] ++ (s.take i).flatMap qal)) p1 v1 g1 ∧ St 63 [(0, .pointer (some ⟨b, 0, none⟩)), (1, .string (bs s)), (9, .int .i64 s.length), (10, .int .i64 i)] w0 F (keys [g, q1x b p v]) F [g1, q1x b p1 v1] a w') ?_ ?_
 ·(refine ⟨s.length, 0, p0, v0, g0, by omega, Nat.zero_le _, hown, ?_⟩; refine S.keep ?_; exact zk)
 (clear S; rintro m a w ⟨i, p1, v1, g1, rfl, hil, hown, S⟩)
 revert a; refine go 5 ?_; intro Z hZ a S
 refine q00 S rfl ?_ ?_ <;> intro h
 ·revert a; revert Z; refine go 4 ?_; intro Z hZ a S
  (refine wp_seq_k ?_; intro Z hZ)
  (have hq := qbz (s.take i); rw [qaI] at hq)
  revert a; revert Z; refine go 8 ?_; intro Z hZ a S
  first | (refine wv S (q07 S rfl rfl rfl (by first | omega | (simp only [qaA, qaC, qaD]; omega))) ?_; clear S a; intro a S) | (refine wv S (q0t S rfl rfl rfl (by first | omega | (simp only [qaA, qaC, qaD]; omega))) ?_; clear S a; intro a S)
  revert a; revert Z; refine go 8 ?_; intro Z hZ a S
  refine wgd S ?_ ?_
  ·(clear S; intro h S)
   revert a; revert Z; refine go 7 ?_; intro a S
   refine q00 S rfl ?_ ?_ <;> intro h
   ·revert a; refine go 2 ?_; intro Z hZ a S
    (refine q02 (Gs := [g1, q1x b p1 v1]) (Gr := []) S rfl rfl rfl rfl rfl rfl (qhl b p1 v1 _ (92) g1 F hown (by simp only [qaA, qaC, qaD]; omega)) rfl (by simp) ?_; clear S a hown; intro u G1 a w hv1 S; obtain ⟨p1, v1, g1, rfl, hown⟩ := hv1; (simp only [qaE] at S))
    revert a; revert Z; refine go 5 ?_; intro a S
    (refine q02 (Gs := [g1, q1x b p1 v1]) (Gr := []) S rfl rfl rfl rfl rfl rfl (qhl b p1 v1 _ (s.getD i 0) g1 F hown (by simp only [qaA, qaC, qaD]; omega)) rfl (by simp) ?_; clear S a hown; intro u G1 a w hv1 S; obtain ⟨p1, v1, g1, rfl, hown⟩ := hv1; (simp only [qaE] at S))
    revert a; revert Z; refine go 6 ?_; intro a S
    change ∃ m', _ ∧ _
    exact qgd
   revert a; refine go 6 ?_; intro a S
   refine q00 S rfl ?_ ?_ <;> intro h
   ·revert a; refine go 2 ?_; intro a S
    (refine q02 (Gs := [g1, q1x b p1 v1]) (Gr := []) S rfl rfl rfl rfl rfl rfl (qr0 b p1 v1 _ [92, 110] g1 F hown (by simp only [qaA, qaC, qaD]; omega) (by decide) (by decide)) rfl (by simp) ?_; clear S a hown; intro u G1 a w hv1 S; obtain ⟨p1, v1, g1, rfl, hown⟩ := hv1; (simp only [qaE] at S))
    revert a; revert Z; refine go 6 ?_; intro a S
    change ∃ m', _ ∧ _
    exact qgd
   revert a; refine go 6 ?_; intro a S
   refine q00 S rfl ?_ ?_ <;> intro h
   ·revert a; refine go 2 ?_; intro a S
    (refine q02 (Gs := [g1, q1x b p1 v1]) (Gr := []) S rfl rfl rfl rfl rfl rfl (qr0 b p1 v1 _ [92, 116] g1 F hown (by simp only [qaA, qaC, qaD]; omega) (by decide) (by decide)) rfl (by simp) ?_; clear S a hown; intro u G1 a w hv1 S; obtain ⟨p1, v1, g1, rfl, hown⟩ := hv1; (simp only [qaE] at S))
    revert a; revert Z; refine go 6 ?_; intro a S
    change ∃ m', _ ∧ _
    exact qgd
   revert a; refine go 4 ?_; intro Z hZ a S
   refine wgd S ?_ ?_
   ·(clear S; intro h S)
    revert a; revert Z; refine go 7 ?_; intro a S
    refine q00 S rfl ?_ ?_ <;> intro h
    ·revert a; refine go 3 ?_; intro a S
     (refine q02 (Gs := [g1, q1x b p1 v1]) (Gr := []) S rfl rfl rfl rfl rfl rfl (qhl b p1 v1 _ (s.getD i 0) g1 F hown (by simp only [qaA, qaC, qaD]; omega)) rfl (by simp) ?_; clear S a hown; intro u G1 a w hv1 S; obtain ⟨p1, v1, g1, rfl, hown⟩ := hv1; (simp only [qaE] at S))
     revert a; revert Z; refine go 6 ?_; intro a S
     change ∃ m', _ ∧ _
     exact qgd
    revert a; refine go 2 ?_; intro Z hZ a S
    (refine q02 (Gs := [g1, q1x b p1 v1]) (Gr := []) S rfl rfl rfl rfl rfl rfl (qr0 b p1 v1 _ [92, 120] g1 F hown (by simp only [qaA, qaC, qaD]; omega) (by decide) (by decide)) rfl (by simp) ?_; clear S a hown; intro u G1 a w hv1 S; obtain ⟨p1, v1, g1, rfl, hown⟩ := hv1; (simp only [qaE] at S))
    revert a; revert Z; refine go 5 ?_; intro Z hZ a S
    (refine wv S (ql6 S rfl rfl rfl) ?_; clear S a; intro a S)
    (refine wv S (q07 (s := qzk) S rfl rfl rfl (by have := (s.getD i 0).toNat_lt; show _ < 16; omega)) ?_; clear S a; intro a S; rw [← qhn] at S)
    (refine q02 (Gs := [g1, q1x b p1 v1]) (Gr := []) S rfl rfl rfl rfl rfl rfl (qhl b p1 v1 _ (qkd ((s.getD i 0).toNat / 16)) g1 F hown (by simp only [qaA, qaC, qaD]; omega)) rfl (by simp) ?_; clear S a hown; intro u G1 a w hv1 S; obtain ⟨p1, v1, g1, rfl, hown⟩ := hv1; (simp only [qaE] at S))
    revert a; revert Z; refine go 5 ?_; intro a S
    (refine wv S (qis S rfl rfl rfl (by have := (s.getD i 0).toNat_lt; omega)) ?_; clear S a; intro a S)
    (refine wv S (q07 (s := qzk) S rfl rfl rfl (by show _ < 16; omega)) ?_; clear S a; intro a S; rw [← qhn] at S)
    (refine q02 (Gs := [g1, q1x b p1 v1]) (Gr := []) S rfl rfl rfl rfl rfl rfl (qhl b p1 v1 _ (qkd ((s.getD i 0).toNat % 16)) g1 F hown (by simp only [qaA, qaC, qaD]; omega)) rfl (by simp) ?_; clear S a hown; intro u G1 a w hv1 S; obtain ⟨p1, v1, g1, rfl, hown⟩ := hv1; (simp only [qaE] at S))
    revert a; revert Z; refine go 6 ?_; intro a S
    change ∃ m', _ ∧ _
    exact qgd
   (clear S a; intro h a S)
   revert a; revert Z; refine go 5 ?_; intro a S
   refine q03 S rfl ?_
   revert a; refine go 2 ?_; intro Z hZ a S
   (refine q02 (Gs := [g1, q1x b p1 v1]) (Gr := []) S rfl rfl rfl rfl rfl rfl (qr0 b p1 v1 _ [92, 120] g1 F hown (by simp only [qaA, qaC, qaD]; omega) (by decide) (by decide)) rfl (by simp) ?_; clear S a hown; intro u G1 a w hv1 S; obtain ⟨p1, v1, g1, rfl, hown⟩ := hv1; (simp only [qaE] at S))
   revert a; revert Z; refine go 5 ?_; intro Z hZ a S
   (refine wv S (ql6 S rfl rfl rfl) ?_; clear S a; intro a S)
   (refine wv S (q07 (s := qzk) S rfl rfl rfl (by have := (s.getD i 0).toNat_lt; show _ < 16; omega)) ?_; clear S a; intro a S; rw [← qhn] at S)
   (refine q02 (Gs := [g1, q1x b p1 v1]) (Gr := []) S rfl rfl rfl rfl rfl rfl (qhl b p1 v1 _ (qkd ((s.getD i 0).toNat / 16)) g1 F hown (by simp only [qaA, qaC, qaD]; omega)) rfl (by simp) ?_; clear S a hown; intro u G1 a w hv1 S; obtain ⟨p1, v1, g1, rfl, hown⟩ := hv1; (simp only [qaE] at S))
   revert a; revert Z; refine go 5 ?_; intro a S
   (refine wv S (qis S rfl rfl rfl (by have := (s.getD i 0).toNat_lt; omega)) ?_; clear S a; intro a S)
   (refine wv S (q07 (s := qzk) S rfl rfl rfl (by show _ < 16; omega)) ?_; clear S a; intro a S; rw [← qhn] at S)
   (refine q02 (Gs := [g1, q1x b p1 v1]) (Gr := []) S rfl rfl rfl rfl rfl rfl (qhl b p1 v1 _ (qkd ((s.getD i 0).toNat % 16)) g1 F hown (by simp only [qaA, qaC, qaD]; omega)) rfl (by simp) ?_; clear S a hown; intro u G1 a w hv1 S; obtain ⟨p1, v1, g1, rfl, hown⟩ := hv1; (simp only [qaE] at S))
   revert a; revert Z; refine go 6 ?_; intro a S
   change ∃ m', _ ∧ _
   exact qgd
  (clear S a; intro h a S)
  revert a; revert Z; refine go 5 ?_; intro a S
  refine q0h S rfl ?_
  revert a; refine go 2 ?_; intro Z hZ a S
  (refine q02 (Gs := [g1, q1x b p1 v1]) (Gr := []) S rfl rfl rfl rfl rfl rfl (qhl b p1 v1 _ (92) g1 F hown (by simp only [qaA, qaC, qaD]; omega)) rfl (by simp) ?_; clear S a hown; intro u G1 a w hv1 S; obtain ⟨p1, v1, g1, rfl, hown⟩ := hv1; (simp only [qaE] at S))
  revert a; revert Z; refine go 5 ?_; intro a S
  (refine q02 (Gs := [g1, q1x b p1 v1]) (Gr := []) S rfl rfl rfl rfl rfl rfl (qhl b p1 v1 _ (s.getD i 0) g1 F hown (by simp only [qaA, qaC, qaD]; omega)) rfl (by simp) ?_; clear S a hown; intro u G1 a w hv1 S; obtain ⟨p1, v1, g1, rfl, hown⟩ := hv1; (simp only [qaE] at S))
  revert a; revert Z; refine go 6 ?_; intro a S
  change ∃ m', _ ∧ _
  exact qgd
 (refine wp_exit ?_; conv => whnf)
 clear hZ Z
 (refine hZ _ _ ?_; clear hZ Z)
 (have hq := qbz (s.take i); rw [qaI] at hq)
 revert a; refine go 2 ?_; intro a S
 (refine q02 (Gs := [g1, q1x b p1 v1]) (Gr := []) S rfl rfl rfl rfl rfl rfl (qhl b p1 v1 _ (34) g1 F hown (by simp only [qaA, qaC, qaD]; omega)) rfl (by simp) ?_; clear S a hown; intro u G1 a w hv1 S; obtain ⟨p1, v1, g1, rfl, hown⟩ := hv1; (simp only [qaE] at S))
 refine wpList_nil ?_
 refine q1m S (q0x Tryz.results90) ?_
 exact ⟨_, _, _, rfl, hown.cast (by rw [List.take_of_length_le (by omega)]; unfold q7s; simp only [qaB])⟩
end Go.Proofs.YtbhipiepfclneaaGreatDoor
namespace Go.Wk
open Go
section
variable {P : Program} {ops : Array Oper} {Q : Exit → Act → World → Prop} {rest : List Oper} {n : Sz} {L : List (Nat × Value)} {w0 : World} {F0 : q01} {K0 : List Nat} {F : q01} {G : List Grp} {a : Act} {w : World} {o : Oper}
theorem q8y {A B : Grp} {R : List Grp} : (A :: B :: R).flatten.Perm ([A, B].flatten ++ R.flatten) := by simp
def cutA (ao : Option Addr) (i c sz : Nat) : Option Addr := if c = i then ao else ao.map (fun a : Addr => a.add (i * sz))
theorem qcv {b off i c m sz : Nat} (h : i < m) (hc : m ≤ c) : cutA (some ⟨b, off, none⟩) i c sz = some ⟨b, off + i * sz, none⟩ := by
 unfold cutA; rw [if_neg (by omega)]; simp [Addr.add]
theorem q2l {x y : Operand} {ao : Option Addr} {m c i : Nat} {k : IntKind} {t e : TypeId} {zv : Value} {sz by_ : Nat} [ht : Und P t (.slice e)] [hi : Inf P e zv sz by_] (S : St n L w0 F0 K0 F G a w) (ho : o.op = .slice t x (some y) none none)
  (hx : ev L x = some (.slice ao m c)) (hy : ev L y = some (.int k (Int.ofNat i))) (h1 : i ≤ m) : SV P o a w (.slice (cutA ao i c sz) (m - i) (c - i)) := by
 have hb : (Instr.sliceBounds true m c (some (.int k (Int.ofNat i))) none none).run P w = .ok (i, m, c) w := by
  simp [Instr.sliceBounds, Instr.sliceBound, asIntOf, h1]
 unfold SV execOp
 rw [ho]
 simp only [Option.map_none, Option.map_some, S.fr.eval hx, S.fr.eval hy]
 simp only [Instr.sliceAt, Instr.slice, Sem.run_bind, run_underlying ht.h, Result.andThen_ok, hb, run_sizeOf hi]
 simp [cutA]
end
end Go.Wk
namespace Go.Proofs.YtbhipiepfclneaaGreatDoor
open Go Go.Wk Go.Un Go.De Go.Num
attribute [local irreducible] Go.wpList Go.Code.wp Go.wpStill Go.Wk.q26 Go.bodyPost Go.Calls Go.Wk.Ct Go.Wk.q0u Go.Wk.wpG Go.Wk.wpM
theorem qij (n : Int) : 0 < (Lib.itoa n).length := by
 unfold Lib.itoa
 split
 ·simp
 ·exact q4c _
theorem u0t (n : Int) (F : q01) (hT : q50 F) (h0 : -9223372036854775808 ≤ n ∧ n ≤ 9223372036854775807) : Ct Tryz.prog 36 [.int .i64 n, .int .i64 10] F [] (fun _ _ u => u = .string (bs (Lib.itoa n))) := by
 rw [q2y h0.1 h0.2]
 exact qvl n F hT h0.1 h0.2
def q6c (c : Bool) : List UInt8 := if c = true then q2d else q1f
theorem qxi (F : q01) (c : Bool) : Ct Tryz.prog 128 [.bool c] F [] (fun _ _ u => u = .string (bs (q6c c))) := by
 refine Ct.enter Tryz.func128 rfl Tryz.ntmps128 rfl fun w0 a S => ?_
 revert a; refine go 9 ?_; intro Z hZ a S
 refine q00 S rfl ?_ ?_ <;> intro h
 ·revert a; refine go 4 ?_; intro a S
  refine wp_ret (fr1 S Tryz.results128 ?_)
  (have e9 : c = _ := (by assumption); subst e9; rfl)
 revert a; revert Z; refine go 6 ?_; intro a S
 refine wp_ret (fr1 S Tryz.results128 ?_)
 (have e9 : c = _ := (by assumption); subst e9; rfl)
theorem u29 (F : q01) (c : Bool) : Ct Tryz.prog 89 [.bool c] F [] (fun _ _ u => u = .string (bs (q6c c))) := by
 have h1 := qxi F c
 refine Ct.enter Tryz.func89 rfl Tryz.ntmps89 rfl fun w0 a S => ?_
 revert a; refine go 6 ?_; intro Z hZ a S
 (refine wc0 S (h1) ?_; clear S a; intro v a w hv S; subst hv)
 revert a; revert Z; refine go 3 ?_; intro a S
 refine wp_ret (fr1 S Tryz.results89 ?_)
 rfl
def qg6 (h : VH) (n : Nat) (t : List UInt8) : List UInt8 :=
 if h.k = 1 then q6c (decide (h.n = 1)) else if h.k = 2 then Lib.itoa h.n else if h.k = 3 then h.s ++ [98] else if h.k = 4 then q7s h.s
 else if h.k = 5 then [40] ++ t ++ [41] else h.s ++ (if n = 0 then [] else [40] ++ t ++ [41])
def qc1 : Bool → Vf → List UInt8
 | _, .nil => []
 | c, .cons h L r => (if c = true then [44, 32] else []) ++ qg6 h L.len (qc1 false L) ++ qc1 true r
def q6h (h : VH) (L : Vf) : List UInt8 := qg6 h L.len (qc1 false L)
theorem q7p (c : Bool) (h : VH) (L r : Vf) : qc1 c (.cons h L r) = (if c = true then [44, 32] else []) ++ q6h h L ++ qc1 true r := rfl
def RgF : Vf → Prop
 | .nil => True
 | .cons h L r => (-9223372036854775808 ≤ h.n ∧ h.n ≤ 9223372036854775807) ∧ RgF L ∧ RgF r
theorem RgF.get : ∀ {l : Vf} {k : Nat} {x : VH × Vf}, RgF l → l.get? k = some x → (-9223372036854775808 ≤ x.1.n ∧ x.1.n ≤ 9223372036854775807) ∧ RgF x.2
 | .cons h L r, 0, x, ⟨h1, h2, _⟩, e => by cases e; exact ⟨h1, h2⟩
 | .cons h L r, k + 1, x, ⟨_, _, h3⟩, e => h3.get (k := k) e
theorem q54 : ∀ {l : Vf} {k : Nat} {x : VH × Vf}, q29 l = true → l.get? k = some x → q16 x.1 x.2.len = true ∧ q29 x.2 = true
 | .cons h L r, 0, x, hf, e => by cases e; rw [q24, Bool.and_eq_true, Bool.and_eq_true] at hf; exact hf.1
 | .cons h L r, k + 1, x, hf, e => by rw [q24, Bool.and_eq_true] at hf; exact q54 (k := k) hf.2 e
def wtH (h : VH) : Nat := 4 * h.s.length + 40
def wtB : Vf → Nat
 | .nil => 0
 | .cons h L r => (wtH h + wtB L) + wtB r
def wtV (h : VH) (L : Vf) : Nat := wtH h + wtB L
theorem qf3 (c : Bool) : 0 < (q6c c).length ∧ (q6c c).length ≤ 5 := by unfold q6c; split <;> decide
theorem qi4 {h : VH} {n : Nat} {t : List UInt8} (hn : -9223372036854775808 ≤ h.n ∧ h.n ≤ 9223372036854775807) : (qg6 h n t).length + 10 ≤ wtH h + t.length := by
 unfold qg6 wtH
 split
 ·have := qf3 (decide (h.n = 1)); omega
 ·split
  ·have := Lib.itoa_length_le h.n hn.1 hn.2; omega
  ·split
   ·simp only [qaA, qaC, qaD]; omega
   ·split
    ·have := qbz h.s; unfold q7s; simp only [qaA, qaC, qaD]; omega
    ·split
     ·simp only [qaA, qaC, qaD]; omega
     ·split <;> simp only [qaA, qaC, qaD] <;> omega
theorem qbu : ∀ {l : Vf} (c : Bool), RgF l → (qc1 c l).length ≤ wtB l
 | .nil, _, _ => Nat.le_refl _
 | .cons h L r, c, ⟨h1, h2, h3⟩ => by
  have i1 := qbu (l := L) false h2
  have i2 := qbu (l := r) true h3
  have i3 := qi4 (h := h) (n := L.len) (t := qc1 false L) h1
  have i4 : (if c = true then ([44, 32] : List UInt8) else []).length ≤ 2 := by split <;> decide
  rw [qc1]
  simp only [qaA, wtB]
  omega
theorem qd3 {h : VH} {L : Vf} (hn : -9223372036854775808 ≤ h.n ∧ h.n ≤ 9223372036854775807) (hL : RgF L) : (q6h h L).length + 10 ≤ wtV h L := by
 have i1 := qbu (l := L) false hL
 have i3 := qi4 (h := h) (n := L.len) (t := qc1 false L) hn
 unfold q6h wtV; omega
theorem qjs {l : Vf} {k : Nat} {x : VH × Vf} (h : l.get? k = some x) : wtB (l.drop k) = wtV x.1 x.2 + wtB (l.drop (k + 1)) := by
 rw [q1d.drop_get h]; rfl
theorem qvf {h : VH} {n : Nat} (hf : q16 h n = true) (hk : h.k = 3 ∨ ¬ h.k ≤ 5) : 0 < h.s.length := by
 unfold q16 at hf
 rcases hk with hk | hk
 ·rw [if_neg (by omega), if_neg (by omega), if_pos hk, Bool.and_eq_true] at hf
  have h1 := hf.1
  unfold q30 at h1
  simp only [Bool.not_eq_true', Bool.or_eq_false_iff, decide_eq_false_iff_not] at h1
  cases hs : h.s with
  | nil => exact absurd (by rw [hs]; decide) h1.1.1
  | cons a r => simp
 ·rw [if_neg (by omega), if_neg (by omega), if_neg (by omega), if_neg (by omega), if_neg (by omega)] at hf
  split at hf
  ·rw [Bool.and_eq_true, Bool.and_eq_true] at hf
   have h1 := hf.2.1
   cases hs : h.s with
   | nil => rw [hs] at h1; exact absurd h1 (by decide)
   | cons a r => simp
  ·cases hf
theorem qiw {h : VH} {n : Nat} (hf : q16 h n = true) : 1 ≤ h.k ∧ h.k ≤ 6 := by
 unfold q16 at hf
 repeat (split at hf; · omega)
 cases hf
theorem qxh (n : Int) : (n == 1) = decide (n = 1) := by rw [Bool.eq_iff_iff, beq_iff_eq, decide_eq_true_eq]
def lsV (b bS : Nat) : Value := .func (.func 86) ⟨[]⟩ ⟨[.pointer (some ⟨b, 0, none⟩), .pointer (some ⟨bS, 0, none⟩)]⟩
def shV (b bL : Nat) : Value := .func (.func 88) ⟨[]⟩ ⟨[.pointer (some ⟨b, 0, none⟩), .pointer (some ⟨bL, 0, none⟩)]⟩
def BdQ (b : Nat) (l : List UInt8) (G' : List Grp) : Prop := ∃ p' v' g', G' = [g', q1x b p' v'] ∧ BdO b l p' v' g'
def ShC (F : q01) (b bL : Nat) (h : VH) (L : Vf) : Prop := ∀ (p v : Value) (g : Grp) (l : List UInt8) (cs : List Value), BdO b l p v g → l.length + wtV h L ≤ 100000000 → VaC F cs h L →
 Ct Tryz.prog 88 ([] ++ [.agg ⟨cs⟩] ++ [.pointer (some ⟨b, 0, none⟩), .pointer (some ⟨bL, 0, none⟩)]) F [g, q1x b p v] (fun _ G' _ => BdQ b (l ++ q6h h L) G')
def LsC (F : q01) (b bS : Nat) (L : Vf) : Prop := ∀ (p v : Value) (g : Grp) (l : List UInt8) (x : Value), BdO b l p v g → l.length + wtB L + 30 ≤ 100000000 → TrS F 4 VhR x L →
 Ct Tryz.prog 86 ([] ++ [x] ++ [.pointer (some ⟨b, 0, none⟩), .pointer (some ⟨bS, 0, none⟩)]) F [g, q1x b p v] (fun _ G' _ => BdQ b (l ++ ([40] ++ qc1 false L ++ [41])) G')
theorem qj1 {X A B : Grp} : ([X, A, B] : List Grp).flatten.Perm (([A, B] : List Grp).flatten ++ ([X] : List Grp).flatten) := by
 simp only [qaF, List.flatten_nil, qaE]
 exact List.perm_append_comm
theorem u4x {n : Sz} {L : List (Nat × Value)} {w0 : World} {F0 : q01} {K0 : List Nat} {F : q01} {A B C : Grp} {a : Act} {w : World} (S : St n L w0 F0 K0 F [A, B, C] a w) : St n L w0 F0 K0 F [C, A, B] a w :=
 ⟨S.fr, S.tr.perm (by simp only [qaF, List.flatten_nil, qaE]; rw [← qaB]; exact List.perm_append_comm)⟩
theorem u08 {p : Prop} (h : p := by (rw [← hao] at S; refine ⟨L.len - (k + 1), by omega, k + 1, _, _, _, _, rfl, by omega, ?_, ?_, hbd, ?_⟩; rotate_left 2; (refine S.keep ?_; exact zk); (rw [← heq, hdr, q7p, decide_eq_true (by omega)]; first | (rw [if_neg (fun h9 => by have := of_decide_eq_true h9; omega)]; simp only [qaG, qaB]) | (rw [if_pos (decide_eq_true (by omega))]; simp only [qaB])); (simp only [qaA, qaC, qaD]; omega))) : p := h
theorem u6b (F : q01) (b bS bL : Nat) (hbS : Cel F bS 0 (shV b bL)) (L : Vf) (hR : RgF L) (ih : ∀ k x, L.get? k = some x → ShC F b bL x.1 x.2) : LsC F b bS L := by
 intro p0 v0 g0 l x hbd hk hT
 obtain ⟨ao, cap, rfl, hcap, hpos⟩ := hT
 unfold shV at hbS
 refine Ct.enter Tryz.func86 rfl Tryz.ntmps86 rfl fun w0 a S => ?_
 refine q1i fun Z hZ => ?_
 (refine q02 (Gs := [g0, q1x b p0 v0]) (Gr := []) S rfl rfl rfl rfl rfl rfl (qhl b p0 v0 l 40 g0 F hbd (by omega)) rfl (by simp) ?_; clear S a hbd; intro u G1 a w hv1 S; obtain ⟨p1, v1, g1, rfl, hbd⟩ := hv1; (simp only [qaE] at S))
 revert a; revert Z; refine go 10 ?_; intro Z hZ a S
 refine q04 (fun m a w' => ∃ (k : Nat) (l1 : List UInt8) (p v : Value) (g : Grp), m = L.len - k ∧ k ≤ L.len ∧ l1 ++ qc1 (decide (0 < k)) (L.drop k) = (l ++ [40]) ++ qc1 false L ∧ l1.length + wtB (L.drop k) ≤ l.length + 1 + wtB L ∧ BdO b l1 p v g ∧ St 22 [(1, .pointer (some ⟨b, 0, none⟩)), (2, .pointer (some ⟨bS, 0, none⟩)), (7, .slice ao L.len cap), (8, .int .i64 L.len), (9, .int .i64 k)] w0 F (keys [g0, q1x b p0 v0]) F [g, q1x b p v] a w') ?_ ?_
 ·(refine ⟨L.len, 0, _, _, _, _, by omega, Nat.zero_le _, rfl, by (simp only [qaA, qaC, qaD, q1d.drop]; omega), hbd, ?_⟩; refine S.keep ?_; exact zk)
 (clear S hbd; rintro m a w ⟨k, l1, p, v, g, rfl, hkl, heq, hlen, hbd, S⟩)
 revert a; refine go 5 ?_; intro Z hZ a S
 refine q00 S rfl ?_ ?_ <;> intro h
 ·revert a; revert Z; refine go 4 ?_; intro Z hZ a S
  (refine wp_seq_k ?_; intro Z hZ)
  (obtain ⟨b8, o8, hao, x, cs1, v1, hx, hc1, hw9, hT1⟩ := TrM.pos hpos (k := k) (by omega); rw [hao] at S; have hdr := q1d.drop_get hx; have hwd := qjs hx; have hsl := qd3 (hR.get hx).1 (hR.get hx).2; have hT1c := hT1; obtain ⟨a91, c91, rfl, -⟩ := hT1c; have hw9c := hw9.1; subst hw9c; (simp only [List.cons_append, qaG] at hc1); have hV1 : VaC F [.int .u8 (x.1.k : Int), .int .i64 x.1.n, .string (bs x.1.s), .slice a91 x.2.len c91] x.1 x.2 := ⟨_, rfl, hT1, hw9.2⟩)
  revert a; refine go 4 ?_; intro a S
  (refine q0a S rfl rfl rfl rfl ?_; clear S a; intro b5 a w S)
  revert a; refine go 1 ?_; intro a S
  (refine wso S rfl rfl ?_; clear S; intro w S)
  revert a; revert Z; refine go 8 ?_; intro Z hZ a S
  refine q00 S rfl ?_ ?_ <;> intro h
  ·refine wp_region_lit ?_
   (refine q02 (Gs := [g, q1x b p v]) (Gr := [_]) S rfl rfl rfl rfl rfl rfl (qr0 b p v l1 [44, 32] g F hbd (by omega) (by decide) (by decide)) rfl qj1 ?_; clear S a hbd; intro u G1 a w hv1 S; obtain ⟨p1, v1, g1, rfl, hbd⟩ := hv1; (simp only [List.cons_append, qaG] at S))
   revert a; revert Z; refine go 5 ?_; intro a S
   (have hI := ih k x hx; (first | (refine q02 (Gs := [g1, q1x b p1 v1]) S rfl rfl rfl rfl rfl rfl (hI p1 v1 g1 (l1 ++ [44, 32]) _ hbd (by (simp only [qaA, qaC, qaD]; omega)) hV1) rfl q8y ?_) | (refine q02 (Gs := [g, q1x b p v]) (Gr := [_]) S rfl rfl rfl rfl rfl rfl (hI p v g l1 _ hbd (by omega) hV1) rfl qj1 ?_)); clear S a hbd; intro u G1 a w hv1 S; obtain ⟨p1, v1, g1, rfl, hbd⟩ := hv1; (simp only [List.cons_append, qaG] at S); replace S := u4x S; replace S := S.drop1)
   revert a; revert Z; refine go 6 ?_; intro a S
   change ∃ m', _ ∧ _
   exact u08
  revert a; revert Z; refine go 5 ?_; intro a S
  (have hI := ih k x hx; (first | (refine q02 (Gs := [g1, q1x b p1 v1]) S rfl rfl rfl rfl rfl rfl (hI p1 v1 g1 (l1 ++ [44, 32]) _ hbd (by (simp only [qaA, qaC, qaD]; omega)) hV1) rfl q8y ?_) | (refine q02 (Gs := [g, q1x b p v]) (Gr := [_]) S rfl rfl rfl rfl rfl rfl (hI p v g l1 _ hbd (by omega) hV1) rfl qj1 ?_)); clear S a hbd; intro u G1 a w hv1 S; obtain ⟨p1, v1, g1, rfl, hbd⟩ := hv1; (simp only [List.cons_append, qaG] at S); replace S := u4x S; replace S := S.drop1)
  revert a; revert Z; refine go 6 ?_; intro a S
  change ∃ m', _ ∧ _
  exact u08
 (refine wp_exit ?_; conv => whnf)
 clear hZ Z
 revert a; revert Z; refine go 2 ?_; intro a S
 (have hkk : k = L.len := (by omega); subst hkk; rw [q1d.drop_len (Nat.le_refl _)] at heq; (simp only [qc1, qaE] at heq); refine q02 (Gs := [g, q1x b p v]) (Gr := []) S rfl rfl rfl rfl rfl rfl (qhl b p v l1 41 g F hbd (by omega)) rfl (by simp) ?_; clear S a hbd; intro u G1 a w hv1 S; obtain ⟨p1, v1, g1, rfl, hbd⟩ := hv1; (simp only [qaE] at S))
 refine wpList_nil ?_
 refine q1m S (q0x Tryz.results86) ?_
 (exact ⟨_, _, _, rfl, hbd.cast (by rw [heq]; simp only [qaB])⟩)
theorem u7v (F : q01) (hT : q50 F) (b bS bL : Nat) (hbL : Cel F bL 0 (lsV b bS)) (vh : VH) (L : Vf) (hn : -9223372036854775808 ≤ vh.n ∧ vh.n ≤ 9223372036854775807) (hf : q16 vh L.len = true) (hl : LsC F b bS L) : ShC F b bL vh L := by
 intro p v g l cs hbd hk hV
 obtain ⟨x, rfl, hTr, hsb⟩ := hV
 have hTc := hTr
 obtain ⟨ao, cap, rfl, hcap, -⟩ := hTc
 have hs := fun h => qvf hf h
 have hk6 := qiw hf
 unfold lsV at hbL
 unfold wtV wtH at hk
 refine Ct.enter Tryz.func88 rfl Tryz.ntmps88 rfl fun w0 a S => ?_
 refine q1i fun Z hZ => ?_
 (refine wbx S ?_; clear S a; intro b3 a w S)
 revert a; revert Z; refine go 13 ?_; intro a S
 refine q00 S rfl ?_ ?_ <;> intro h
 ·revert a; refine go 4 ?_; intro a S
  (refine wc0 S (u29 F _) ?_; clear S a; intro v9 a w hv S; subst hv)
  (replace S := S.drop1; refine q02 (Gs := [g, q1x b p v]) (Gr := []) S rfl rfl rfl rfl rfl rfl (qr0 b p v l _ g F hbd (by omega) (by unfold q6c; split <;> decide) (by unfold q6c; split <;> decide)) rfl (by simp) ?_; clear S a; intro u G1 a w hv1 S; obtain ⟨p1, v1, g1, rfl, hown⟩ := hv1; (simp only [qaE] at S))
  refine wpList_nil ?_
  (first | (replace S : St _ _ _ _ _ _ [g1, q1x b p1 v1] _ _ := S) | (replace S : St _ _ _ _ _ _ [g1, q1x b p1 v1] _ _ := S.drop1))
  refine q1m S (q0x Tryz.results88) ?_
  (refine ⟨_, _, _, rfl, hown.cast ?_⟩; unfold q6h qg6; first | (rw [if_pos (by omega), ← qxh]; done) | (rw [if_neg (by omega), if_pos (by omega)]; done) | (rw [if_neg (by omega), if_neg (by omega), if_pos (by omega), qaB]; done) | (rw [if_neg (by omega), if_neg (by omega), if_neg (by omega), if_pos (by omega)]; done) | (rw [if_neg (by omega), if_neg (by omega), if_neg (by omega), if_neg (by omega), if_pos (by omega)]; done) | (rw [if_neg (by omega), if_neg (by omega), if_neg (by omega), if_neg (by omega), if_neg (by omega), if_neg (by omega), qaB]; done) | (rw [if_neg (by omega), if_neg (by omega), if_neg (by omega), if_neg (by omega), if_neg (by omega), if_pos (by omega), qaE]; done))
 revert a; refine go 5 ?_; intro a S
 refine q00 S rfl ?_ ?_ <;> intro h
 ·revert a; refine go 3 ?_; intro a S
  (refine wc0 S (u0t vh.n F hT hn) ?_; clear S a; intro v9 a w hv S; subst hv)
  (replace S := S.drop1; refine q02 (Gs := [g, q1x b p v]) (Gr := []) S rfl rfl rfl rfl rfl rfl (qr0 b p v l _ g F hbd (by omega) (by have := Lib.itoa_length_le vh.n hn.1 hn.2; omega) (qij _)) rfl (by simp) ?_; clear S a; intro u G1 a w hv1 S; obtain ⟨p1, v1, g1, rfl, hown⟩ := hv1; (simp only [qaE] at S))
  refine wpList_nil ?_
  (first | (replace S : St _ _ _ _ _ _ [g1, q1x b p1 v1] _ _ := S) | (replace S : St _ _ _ _ _ _ [g1, q1x b p1 v1] _ _ := S.drop1))
  refine q1m S (q0x Tryz.results88) ?_
  (refine ⟨_, _, _, rfl, hown.cast ?_⟩; unfold q6h qg6; first | (rw [if_pos (by omega), ← qxh]; done) | (rw [if_neg (by omega), if_pos (by omega)]; done) | (rw [if_neg (by omega), if_neg (by omega), if_pos (by omega), qaB]; done) | (rw [if_neg (by omega), if_neg (by omega), if_neg (by omega), if_pos (by omega)]; done) | (rw [if_neg (by omega), if_neg (by omega), if_neg (by omega), if_neg (by omega), if_pos (by omega)]; done) | (rw [if_neg (by omega), if_neg (by omega), if_neg (by omega), if_neg (by omega), if_neg (by omega), if_neg (by omega), qaB]; done) | (rw [if_neg (by omega), if_neg (by omega), if_neg (by omega), if_neg (by omega), if_neg (by omega), if_pos (by omega), qaE]; done))
 revert a; refine go 5 ?_; intro a S
 refine q00 S rfl ?_ ?_ <;> intro h
 ·revert a; refine go 3 ?_; intro Z hZ a S
  (replace S := S.drop1; refine q02 (Gs := [g, q1x b p v]) (Gr := []) S rfl rfl rfl rfl rfl rfl (qr0 b p v l vh.s g F hbd (by omega) (by omega) (hs (by omega))) rfl (by simp) ?_; clear S a; intro u G1 a w hv1 S; obtain ⟨p1, v1, g1, rfl, hown⟩ := hv1; (simp only [qaE] at S))
  revert a; revert Z; refine go 3 ?_; intro a S
  (refine q02 (Gs := [g1, q1x b p1 v1]) (Gr := []) S rfl rfl rfl rfl rfl rfl (qhl b p1 v1 _ (98) g1 F hown (by simp only [qaA]; omega)) rfl (by simp) ?_; clear S a hown; intro u G1 a w hv1 S; obtain ⟨p1, v1, g1, rfl, hown⟩ := hv1; (simp only [qaE] at S))
  refine wpList_nil ?_
  (first | (replace S : St _ _ _ _ _ _ [g1, q1x b p1 v1] _ _ := S) | (replace S : St _ _ _ _ _ _ [g1, q1x b p1 v1] _ _ := S.drop1))
  refine q1m S (q0x Tryz.results88) ?_
  (refine ⟨_, _, _, rfl, hown.cast ?_⟩; unfold q6h qg6; first | (rw [if_pos (by omega), ← qxh]; done) | (rw [if_neg (by omega), if_pos (by omega)]; done) | (rw [if_neg (by omega), if_neg (by omega), if_pos (by omega), qaB]; done) | (rw [if_neg (by omega), if_neg (by omega), if_neg (by omega), if_pos (by omega)]; done) | (rw [if_neg (by omega), if_neg (by omega), if_neg (by omega), if_neg (by omega), if_pos (by omega)]; done) | (rw [if_neg (by omega), if_neg (by omega), if_neg (by omega), if_neg (by omega), if_neg (by omega), if_neg (by omega), qaB]; done) | (rw [if_neg (by omega), if_neg (by omega), if_neg (by omega), if_neg (by omega), if_neg (by omega), if_pos (by omega), qaE]; done))
 revert a; refine go 5 ?_; intro a S
 refine q00 S rfl ?_ ?_ <;> intro h
 ·revert a; refine go 3 ?_; intro a S
  (replace S := S.drop1; refine q02 (Gs := [g, q1x b p v]) (Gr := []) S rfl rfl rfl rfl rfl rfl (qz8 b p v l vh.s g F hbd (by omega) (by omega)) rfl (by simp) ?_; clear S a; intro u G1 a w hv1 S; obtain ⟨p1, v1, g1, rfl, hown⟩ := hv1; (simp only [qaE] at S))
  refine wpList_nil ?_
  (first | (replace S : St _ _ _ _ _ _ [g1, q1x b p1 v1] _ _ := S) | (replace S : St _ _ _ _ _ _ [g1, q1x b p1 v1] _ _ := S.drop1))
  refine q1m S (q0x Tryz.results88) ?_
  (refine ⟨_, _, _, rfl, hown.cast ?_⟩; unfold q6h qg6; first | (rw [if_pos (by omega), ← qxh]; done) | (rw [if_neg (by omega), if_pos (by omega)]; done) | (rw [if_neg (by omega), if_neg (by omega), if_pos (by omega), qaB]; done) | (rw [if_neg (by omega), if_neg (by omega), if_neg (by omega), if_pos (by omega)]; done) | (rw [if_neg (by omega), if_neg (by omega), if_neg (by omega), if_neg (by omega), if_pos (by omega)]; done) | (rw [if_neg (by omega), if_neg (by omega), if_neg (by omega), if_neg (by omega), if_neg (by omega), if_neg (by omega), qaB]; done) | (rw [if_neg (by omega), if_neg (by omega), if_neg (by omega), if_neg (by omega), if_neg (by omega), if_pos (by omega), qaE]; done))
 revert a; refine go 5 ?_; intro a S
 refine q00 S rfl ?_ ?_ <;> intro h
 ·revert a; refine go 4 ?_; intro a S
  (replace S := S.drop1; refine q02 (Gs := [g, q1x b p v]) (Gr := []) S rfl rfl rfl rfl rfl rfl (hl p v g l _ hbd (by omega) hTr) rfl (by simp) ?_; clear S a; intro u G1 a w hv1 S; obtain ⟨p1, v1, g1, rfl, hown⟩ := hv1; (simp only [qaE] at S))
  refine wpList_nil ?_
  (first | (replace S : St _ _ _ _ _ _ [g1, q1x b p1 v1] _ _ := S) | (replace S : St _ _ _ _ _ _ [g1, q1x b p1 v1] _ _ := S.drop1))
  refine q1m S (q0x Tryz.results88) ?_
  (refine ⟨_, _, _, rfl, hown.cast ?_⟩; unfold q6h qg6; first | (rw [if_pos (by omega), ← qxh]; done) | (rw [if_neg (by omega), if_pos (by omega)]; done) | (rw [if_neg (by omega), if_neg (by omega), if_pos (by omega), qaB]; done) | (rw [if_neg (by omega), if_neg (by omega), if_neg (by omega), if_pos (by omega)]; done) | (rw [if_neg (by omega), if_neg (by omega), if_neg (by omega), if_neg (by omega), if_pos (by omega)]; done) | (rw [if_neg (by omega), if_neg (by omega), if_neg (by omega), if_neg (by omega), if_neg (by omega), if_neg (by omega), qaB]; done) | (rw [if_neg (by omega), if_neg (by omega), if_neg (by omega), if_neg (by omega), if_neg (by omega), if_pos (by omega), qaE]; done))
 revert a; refine go 3 ?_; intro Z hZ a S
 (refine q02 (Gs := [g, q1x b p v]) (Gr := [_]) S rfl rfl rfl rfl rfl rfl (qr0 b p v l vh.s g F hbd (by omega) (by omega) (hs (by omega))) rfl qj1 ?_; clear S a; intro u G1 a w hv1 S; obtain ⟨p1, v1, g1, rfl, hown⟩ := hv1; (simp only [List.cons_append, qaG] at S); replace S := u4x S)
 revert a; revert Z; refine go 9 ?_; intro a S
 refine q00 S rfl ?_ ?_ <;> intro h
 ·revert a; refine go 4 ?_; intro a S
  (replace S := S.drop1; refine q02 (Gs := [g1, q1x b p1 v1]) (Gr := []) S rfl rfl rfl rfl rfl rfl (hl p1 v1 g1 _ _ hown (by simp only [qaA]; omega) hTr) rfl (by simp) ?_; clear S a hown; intro u G1 a w hv1 S; obtain ⟨p1, v1, g1, rfl, hown⟩ := hv1; (simp only [qaE] at S))
  refine wpList_nil ?_
  (first | (replace S : St _ _ _ _ _ _ [g1, q1x b p1 v1] _ _ := S) | (replace S : St _ _ _ _ _ _ [g1, q1x b p1 v1] _ _ := S.drop1))
  refine q1m S (q0x Tryz.results88) ?_
  (refine ⟨_, _, _, rfl, hown.cast ?_⟩; unfold q6h qg6; first | (rw [if_pos (by omega), ← qxh]; done) | (rw [if_neg (by omega), if_pos (by omega)]; done) | (rw [if_neg (by omega), if_neg (by omega), if_pos (by omega), qaB]; done) | (rw [if_neg (by omega), if_neg (by omega), if_neg (by omega), if_pos (by omega)]; done) | (rw [if_neg (by omega), if_neg (by omega), if_neg (by omega), if_neg (by omega), if_pos (by omega)]; done) | (rw [if_neg (by omega), if_neg (by omega), if_neg (by omega), if_neg (by omega), if_neg (by omega), if_neg (by omega), qaB]; done) | (rw [if_neg (by omega), if_neg (by omega), if_neg (by omega), if_neg (by omega), if_neg (by omega), if_pos (by omega), qaE]; done))
 refine wp_skip ?_
 (first | (replace S : St _ _ _ _ _ _ [g1, q1x b p1 v1] _ _ := S) | (replace S : St _ _ _ _ _ _ [g1, q1x b p1 v1] _ _ := S.drop1))
 refine q1m S (q0x Tryz.results88) ?_
 (refine ⟨_, _, _, rfl, hown.cast ?_⟩; unfold q6h qg6; first | (rw [if_pos (by omega), ← qxh]; done) | (rw [if_neg (by omega), if_pos (by omega)]; done) | (rw [if_neg (by omega), if_neg (by omega), if_pos (by omega), qaB]; done) | (rw [if_neg (by omega), if_neg (by omega), if_neg (by omega), if_pos (by omega)]; done) | (rw [if_neg (by omega), if_neg (by omega), if_neg (by omega), if_neg (by omega), if_pos (by omega)]; done) | (rw [if_neg (by omega), if_neg (by omega), if_neg (by omega), if_neg (by omega), if_neg (by omega), if_neg (by omega), qaB]; done) | (rw [if_neg (by omega), if_neg (by omega), if_neg (by omega), if_neg (by omega), if_neg (by omega), if_pos (by omega), qaE]; done))
theorem qu1 (F : q01) (hT : q50 F) (b bS bL : Nat) (hbS : Cel F bS 0 (shV b bL)) (hbL : Cel F bL 0 (lsV b bS)) : ∀ (n : Nat) (L : Vf), L.size ≤ n → RgF L → q29 L = true → LsC F b bS L := by
 intro n
 induction n with
 | zero =>
  intro L hn hR hf
  refine u6b F b bS bL hbS L hR fun k x hx => ?_
  have := q1d.size_get hx
  omega
 | succ n ih =>
  intro L hn hR hf
  refine u6b F b bS bL hbS L hR fun k x hx => ?_
  have := q1d.size_get hx
  exact u7v F hT b bS bL hbL x.1 x.2 (hR.get hx).1 (q54 hf hx).1 (ih x.2 (by omega) (hR.get hx).2 (q54 hf hx).2)
def qtn (h : VH) (L : Vf) : List UInt8 := if q2e h L = 0 then q6h h L else []
theorem q38 {h : VH} {L : Vf} (e : q2e h L = 0) : q16 h L.len = true ∧ q29 L = true := by
 unfold q2e at e
 split at e
 ·cases e
 ·split at e
  ·cases e
  ·rename_i h2
   rw [Bool.not_eq_false, Bool.and_eq_true] at h2
   exact h2
theorem qst {h : VH} {L : Vf} (hf : q16 h L.len = true) : 0 < (q6h h L).length := by
 have hk := qiw hf
 have hs := fun h => qvf hf h
 unfold q6h qg6
 split
 ·exact (qf3 _).1
 ·split
  ·exact qij _
  ·split
   ·simp
   ·split
    ·unfold q7s; simp
    ·split
     ·simp
     ·have := hs (by omega)
      rw [qaA]; omega
theorem u1e (F : q01) (hT : q50 F) (vh : VH) (L : Vf) (cs : List Value) (hV : VaC F cs vh L) (hn : -9223372036854775808 ≤ vh.n ∧ vh.n ≤ 9223372036854775807) (hR : RgF L) (hk : wtV vh L ≤ 100000000) : Ct Tryz.prog 56 [.agg ⟨cs⟩] F [] (fun _ _ u => u = .string (bs (qtn vh L))) := by
 have hV0 := hV
 obtain ⟨x, rfl, ⟨ao, cap, rfl, hcap, -⟩, -⟩ := hV
 have hck := qcd F vh L _ hV0
 refine Ct.enter Tryz.func56 rfl Tryz.ntmps56 rfl fun w0 a S => ?_
 refine q1i fun Z hZ => ?_
 (refine wbx S ?_; clear S a; intro b1 a w S)
 revert a; revert Z; refine go 6 ?_; intro Z hZ Z hZ a S
 (refine wc0 S (hck) ?_; clear S a; intro v a w hv S; subst hv)
 revert a; revert Z; refine go 3 ?_; intro a S
 refine q00 S rfl ?_ ?_ <;> intro h
 ·revert a; refine go 4 ?_; intro a S
  refine wp_ret (fr1 S Tryz.results56 ?_)
  (unfold qtn; first | (rw [if_pos he]; done) | (rw [if_neg (by omega)]; rfl))
 revert a; revert Z; refine go 3 ?_; intro Z hZ a S
 (refine q0a S rfl rfl rfl rfl ?_; clear S a; intro b3 a w S)
 revert a; revert Z; refine go 3 ?_; intro Z hZ a S
 (refine q0a S rfl rfl rfl rfl ?_; clear S a; intro b4 a w S)
 revert a; revert Z; refine go 4 ?_; intro Z hZ a S
 (refine q0a S rfl rfl rfl rfl ?_; clear S a; intro b5 a w S)
 (refine q0e S rfl rfl rfl rfl rfl rfl (by first | (simp; done) | (simp [Value.cells]; done) | exact Nat.le_of_ble_eq_true rfl) ?_; clear S; intro w S)
 revert a; revert Z; refine go 4 ?_; intro Z hZ a S
 (refine q0e S rfl rfl rfl rfl rfl rfl (by first | (simp; done) | (simp [Value.cells]; done) | exact Nat.le_of_ble_eq_true rfl) ?_; clear S; intro w S)
 revert a; revert Z; refine go 2 ?_; intro a S
 (refine wp_seq_k ?_; intro Z hZ)
 (have he : q2e vh L = 0 := (by omega); have hf := q38 he; have hl := qst hf.1; replace S := St.pullB b4 S; have S' := qfp S; clear S; obtain ⟨F4, hF4, hb4, S⟩ := S'; replace S := St.pullB b5 S; have S' := qfp S; clear S; obtain ⟨F5, hF5, hb5, S⟩ := S'; have hc4 : Cel F5 b4 0 (shV b3 b5) := ⟨_, _, _, hF5 _ _ hb4, rfl⟩; have hc5 : Cel F5 b5 0 (lsV b3 b4) := ⟨_, _, _, hb5, rfl⟩; have hmm : ∀ b o, F b = some o → F5 b = some o := fun b o h => hF5 _ _ (hF4 _ _ h); have hsh := u7v F5 (hT.mono hmm) b3 b4 b5 hc5 vh L hn hf.1 (qu1 F5 (hT.mono hmm) b3 b4 b5 hc4 hc5 L.size L (Nat.le_refl _) hR hf.2); replace hV0 := hV0.mono hmm; have hc4' : Cel F5 b4 0 (.func (.func 88) ⟨[]⟩ ⟨[.pointer (some ⟨b3, 0, none⟩), .pointer (some ⟨b5, 0, none⟩)]⟩) := hc4)
 revert a; refine go 3 ?_; intro a S
 (replace S := St.pullB b3 S; replace S := S.nilg; refine q02 (Gs := [[], q1x b3 (.pointer none) (.slice none 0 0)]) S rfl rfl rfl rfl rfl rfl (hsh (.pointer none) (.slice none 0 0) [] [] _ ⟨.inl rfl, q0u.nil _ _⟩ (by simpa using hk) hV0) rfl q8y ?_; clear S a; intro u G1 a w hv1 S; obtain ⟨p1, v1, g1, rfl, hbd⟩ := hv1; (simp only [List.cons_append, qaG] at S hbd))
 revert a; revert Z; refine go 3 ?_; intro Z hZ a S
 (refine q02 (Gs := [g1, q1x b3 p1 v1]) S rfl rfl rfl rfl rfl rfl (qhg b3 p1 v1 (q6h vh L) g1 F5 (by have := qd3 hn hR; omega) (fun h9 => by rw [h9] at hl; exact absurd hl (by decide)) hbd.2) rfl q8y ?_; clear S a; intro u9 G9 a w hv S; subst hv)
 revert a; revert Z; refine go 3 ?_; intro a S
 refine wp_ret (fr1 S Tryz.results56 ?_)
 (unfold qtn; first | (rw [if_pos he]; done) | (rw [if_neg (by omega)]; rfl))
def gh (g : Grp) : q01 := q01.add (fun _ => none) g
theorem q7d (g h : Grp) : gh (g ++ h) = (gh h).add g := by
 funext b
 unfold gh q01.add
 rw [List.find?_append]
 cases List.find? (fun p => Nat.beq p.1 b) g <;> rfl
theorem q5i {g h : Grp} {b : Nat} {o : Obj} (e : gh g b = some o) : gh (g ++ h) b = some o := by
 unfold gh q01.add at *
 rw [List.find?_append]
 cases hf : List.find? (fun p => Nat.beq p.1 b) g with
 | none => rw [hf] at e; cases e
 | some p => rw [hf] at e; exact e
theorem q5e {g : Grp} {b : Nat} {o : Obj} (e : gh g b = some o) : (b, o) ∈ g := by
 rcases q01.add_some e with h | h
 ·exact h
 ·cases h
theorem q4u {g h : Grp} (hn : ((g ++ h).map (·.1)).Nodup) {b : Nat} {o : Obj} (e : gh h b = some o) : gh (g ++ h) b = some o := by
 rw [q7d, q01.add_none (fun hm => ?_)]
 ·exact e
 ·rw [List.map_append, List.nodup_append] at hn
  exact hn.2.2 b hm b (List.mem_map.2 ⟨(b, o), q5e e, rfl⟩) rfl
def OwR (g : Grp) (v : Value) (l : Vf) : Prop := TrS (gh g) 4 VhR v l
section
variable {n : Sz} {L : List (Nat × Value)} {w0 : World} {F0 : q01} {K0 : List Nat} {F : q01} {A B C : Grp} {R : List Grp} {a : Act} {w : World}
theorem nd2 (S : St n L w0 F0 K0 F (A :: B :: R) a w) : ((A ++ B).map (·.1)).Nodup := by
 have h := S.tr.nd
 unfold keys at h
 rw [qaF, qaF, ← qaB, List.map_append] at h
 exact (List.nodup_append.1 h).1
theorem qc6 (S : St n L w0 F0 K0 F (A :: B :: R) a w) : St n L w0 F0 K0 F ((A ++ B) :: R) a w := ⟨S.fr, S.tr.perm (by rw [qaF, qaF, qaF, qaB])⟩
theorem qaq (S : St n L w0 F0 K0 F (A :: B :: R) a w) : St n L w0 F0 K0 F (B :: A :: R) a w := ⟨S.fr, S.tr.perm (by rw [qaF, qaF, qaF, qaF, ← qaB, ← qaB]; exact List.Perm.append_right _ List.perm_append_comm)⟩
theorem qw9 (S : St n L w0 F0 K0 F [A, B, C] a w) : St n L w0 F0 K0 F [B, A ++ C] a w := ⟨S.fr, S.tr.perm (by simp only [qaF, List.flatten_nil, qaE]; rw [← qaB, ← qaB]; exact List.Perm.append_right _ List.perm_append_comm)⟩
theorem qj2 (S : St n L w0 F0 K0 F [A, B] a w) : (B.map (·.1)).Nodup := by
 have h := S.tr.nd
 unfold keys at h
 simp only [qaF, List.flatten_nil, qaE, List.map_append] at h
 exact (List.nodup_append.1 h).2.1
end
theorem qic {xa cs xb ex : List Value} {m j : Nat} (hx : xa.length = m) (hj : j < cs.length) : (xa ++ (cs ++ xb) ++ ex)[0 + m + j]? = cs[j]? := by
 rw [qaB, qaB, List.getElem?_append_right (by omega), List.getElem?_append_left (by omega)]
 congr 1; omega
theorem set_mid {xa cs xb ex : List Value} {m j : Nat} {u : Value} (hx : xa.length = m) (hj : j < cs.length) : (xa ++ (cs ++ xb) ++ ex).set (0 + m + j) u = ((xa ++ cs.set j u) ++ xb) ++ ex := by
 rw [qaB, qaB, List.set_append_right _ _ (by omega), List.set_append_left _ _ (by omega), show 0 + m + j - xa.length = j by omega]
 simp only [qaB]
theorem q9c {L : Vf} (h : L.len = 0) : L = .nil := by
 cases L with
 | nil => rfl
 | cons h L r => exact absurd h (Nat.succ_ne_zero _)
