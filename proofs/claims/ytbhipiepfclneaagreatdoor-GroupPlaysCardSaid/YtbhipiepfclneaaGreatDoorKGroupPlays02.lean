/- Walks. -/
import Derived.Test.YtbhipiepfclneaaGreatDoorKGroupPlaysTy
import Derived.Test.YtbhipiepfclneaaGreatDoorQ13
set_option maxHeartbeats 16000000
set_option maxRecDepth 20000
set_option linter.unusedVariables false
set_option linter.unusedSimpArgs false
namespace Go.Wk
open Go
set_option linter.unusedSectionVars false
section
variable {α : Type} [DecidableEq α]
variable {P : Program} {n : Sz} {L : List (Nat × Value)} {w0 : World} {F0 : q01} {K0 : List Nat} {F : q01} {G : List Grp} {a : Act} {w : World} {ops : Array Oper} {Q : Exit → Act → World → Prop} {rest : List Oper} {o : Oper}
theorem Ct.lend {f : FuncId} {args : List Value} {g : Grp} {Post : Value → Prop} (C : Ct P f args (F.add g) [] (fun _ _ v => Post v)) : Ct P f args F [g] (fun _ G' v => G' = [g] ∧ Post v) := by
 intro w hw
 have hT : Tr w F (keys [g]) w (F.add g) ([] ++ []) := Tr.freeze (G1 := []) (G2 := []) hw.tr
 have hA : At w (F.add g) [] := hT.at
 refine (C w hA).mono fun e w' ⟨v, F', G', he, ht, hp⟩ => ⟨v, F, [g], he, ?_, rfl, hp⟩
 refine ⟨ht.os, ht.tape, ht.output, ht.size, fun b hb _ => ht.old b hb (by simp [keys]), fun b o hb => ?_, fun _ _ h => h, fun _ _ h => .inl h, fun p hq => ?_, hw.nd⟩
 ·have h1 := hw.frz b o hb
  rw [ht.old b (q37 h1) (by simp [keys])]; exact h1
 ·have h1 := hw.own p hq
  refine ⟨?_, h1.2, .inr (q5x hq)⟩
  rw [ht.old p.1 (q37 h1.1) (by simp [keys])]; exact h1.1
end
end Go.Wk
namespace Go.Un
open Go Go.Wk
namespace Fo
theorem len_size : ∀ l : Fo, l.len ≤ l.size
 | nil => Nat.le_refl _
 | cons _ ar r => by have := len_size r; simp only [len, size]; omega
end Fo
end Go.Un
namespace Go.De
open Go Go.Wk Go.Un
namespace q1d
variable {α : Type}
theorem len_size : ∀ l : q1d α, l.len ≤ l.size
 | nil => Nat.le_refl _
 | cons _ L r => by have := len_size r; simp only [len, size]; omega
end q1d
end Go.De
namespace Go.Proofs.YtbhipiepfclneaaGreatDoor
open Go Go.Wk Go.Un Go.De
theorem qnd {x y : Vv} : qhd x y = true ↔ x = y := by
 unfold qhd
 rw [Bool.and_eq_true, qef, q11]
 exact ⟨fun h => Prod.ext h.1 h.2, fun h => by rw [h]; exact ⟨rfl, rfl⟩⟩
end Go.Proofs.YtbhipiepfclneaaGreatDoor
namespace Go.Wk
open Go
section
variable {P : Program} {n : Sz} {L : List (Nat × Value)} {w0 : World} {F0 : q01} {K0 : List Nat} {F : q01} {G : List Grp} {a : Act} {w : World} {o : Oper}
theorem qyb {x y : Operand} {k : IntKind} {p q : Int} {t yt : TypeId} (S : St n L w0 F0 K0 F G a w) (ho : o.op = .binOp .add t x y yt) (hx : ev L x = some (.int k p)) (hy : ev L y = some (.int k q)) : SV P o a w (.int k (k.wrap (p + q))) :=
 q3l S ho hx hy (by simp [binOp, Op.intArith])
end
end Go.Wk
namespace Go.Proofs.YtbhipiepfclneaaGreatDoor
open Go Go.Wk Go.Un Go.De Go.Num
attribute [local irreducible] Go.wpList Go.Code.wp Go.wpStill Go.Wk.q26 Go.bodyPost Go.Calls Go.Wk.Ct Go.Wk.q0u Go.Wk.wpG Go.Wk.wpM
theorem qxp {F : q01} {xs : List Value} {h : VH} {L : Vf} (hX : VaC F xs h L) : ∃ ao cap, xs = [.int .u8 (h.k : Int), .int .i64 h.n, .string (bs h.s), .slice ao L.len cap] ∧ TrS F 4 VhR (.slice ao L.len cap) L ∧ h.s.length ≤ 140737488355328 := by
 obtain ⟨v, rfl, h2, h3⟩ := hX
 have h2c := h2
 obtain ⟨a1, c1, rfl, -⟩ := h2c
 exact ⟨a1, c1, rfl, h2, h3⟩
theorem qed (F : q01) (c : Nat) : Ct Tryz.prog 182 [.int .u8 (c : Int)] F [] (fun _ _ u => u = .bool (decide (97 ≤ c ∧ c ≤ 122))) := by
 refine Ct.enter Tryz.func182 rfl Tryz.ntmps182 rfl fun w0 a S => ?_
 revert a; refine go 8 ?_; intro Z hZ a S
 refine wgd S ?_ ?_
 ·(clear S; intro h S)
  revert a; revert Z; refine go 7 ?_; intro a S
  refine wp_ret (fr1 S Tryz.results182 ?_)
  (congr 1; first | (exact decide_eq_decide.2 (by omega)) | (exact (decide_eq_false (by omega)).symm))
 (clear S a; intro h a S)
 revert a; revert Z; refine go 5 ?_; intro a S
 refine wp_ret (fr1 S Tryz.results182 ?_)
 (congr 1; first | (exact decide_eq_decide.2 (by omega)) | (exact (decide_eq_false (by omega)).symm))
theorem q8n {p : Prop} (h : p := by (congr 1; first | (exact (qhu (k := k) (by omega) (decide_eq_false (by omega))).symm) | (exact (qhk ⟨by assumption, by omega, by omega, by omega⟩ (fun j hj => hall j (by omega))).symm) | (exact (qjf (by rintro ⟨h1, h2, h3, h4⟩; first | omega | exact h1 (by assumption))).symm))) : p := h
theorem q8p {p : Prop} (h : p := by (refine ⟨s.length - (k + 1), by omega, k + 1, rfl, by omega, ?_, ?_⟩; rotate_left 1; (refine S.keep ?_; exact zk); intro j hj; rcases Nat.lt_or_eq_of_le (Nat.le_of_lt_succ hj) with h6 | h6; exact hall j h6; subst h6; exact decide_eq_true (by omega))) : p := h
theorem qgm (F : q01) (s : List UInt8) : Ct Tryz.prog 167 [.string (bs s)] F [] (fun _ _ u => u = .bool (q3y s)) := by
 refine Ct.enter Tryz.func167 rfl Tryz.ntmps167 rfl fun w0 a S => ?_
 revert a; refine go 9 ?_; intro Z hZ Z hZ a S
 refine wgd S ?_ ?_
 ·(clear S; intro h S)
  revert a; refine go 7 ?_; intro a S
  refine wgd S ?_ ?_
  ·(clear S; intro h S)
   revert a; refine go 2 ?_; intro a S
   (refine wv S (q07 (i := 0) S rfl rfl rfl (by first | omega | (have h9 : 0 < s.length := List.length_pos_iff.2 (by assumption); omega))) ?_; clear S a; intro a S)
   refine q1j S rfl rfl rfl ?_
   (refine wc0 S (qed F _) ?_; clear S a; intro v a w hv S; subst hv)
   revert a; revert Z; refine go 5 ?_; intro a S
   refine q00 S rfl ?_ ?_ <;> intro h
   ·revert a; refine go 4 ?_; intro a S
    refine wp_ret (fr1 S Tryz.results167 ?_)
    exact q8n
   revert a; revert Z; refine go 8 ?_; intro Z hZ a S
   refine q04 (fun m a w' => ∃ (k : Nat), m = s.length - k ∧ k ≤ s.length ∧ (∀ j, j < k → qew (s.getD j 0).toNat = true) ∧ St 52 [(0, .string (bs s)), (3, .int .i64 (k : Int))] w0 F [] F [] a w') ?_ ?_
   ·(refine ⟨s.length, 0, by omega, Nat.zero_le _, fun j h => absurd h (Nat.not_lt_zero _), ?_⟩; refine S.keep ?_; exact zk)
   (clear S; rintro m a w ⟨k, rfl, hkl, hall, S⟩)
   revert a; refine go 8 ?_; intro Z hZ a S
   refine q00 S rfl ?_ ?_ <;> intro h
   ·revert a; revert Z; refine go 7 ?_; intro Z hZ Z hZ a S
    first | (refine wv S (q07 S rfl rfl rfl (by first | omega | (have h9 : 0 < s.length := List.length_pos_iff.2 (by assumption); omega))) ?_; clear S a; intro a S) | (refine wv S (q0t S rfl rfl rfl (by first | omega | (have h9 : 0 < s.length := List.length_pos_iff.2 (by assumption); omega))) ?_; clear S a; intro a S)
    revert a; revert Z; refine go 5 ?_; intro Z hZ a S
    (refine wc0 S (qed F _) ?_; clear S a; intro v a w hv S; subst hv)
    revert a; refine go 2 ?_; intro a S
    refine wgd S ?_ ?_
    ·(clear S; intro h S)
     revert a; refine go 5 ?_; intro a S
     refine wgd S ?_ ?_
     ·(clear S; intro h S)
      revert a; refine go 9 ?_; intro a S
      refine wgd S ?_ ?_
      ·(clear S; intro h S)
       revert a; refine go 5 ?_; intro a S
       refine wgd S ?_ ?_
       ·(clear S; intro h S)
        revert a; refine go 9 ?_; intro a S
        refine wgd S ?_ ?_
        ·(clear S; intro h S)
         revert a; revert Z; refine go 6 ?_; intro a S
         refine q00 S rfl ?_ ?_ <;> intro h
         ·revert a; refine go 4 ?_; intro a S
          refine wp_ret (fr1 S Tryz.results167 ?_)
          exact q8n
         revert a; revert Z; refine go 4 ?_; intro a S
         (refine wv S (q20 S rfl rfl rfl (by first | omega | (have h9 : 0 < s.length := List.length_pos_iff.2 (by assumption); omega))) ?_; clear S a; intro a S)
         revert a; refine go 2 ?_; intro a S
         change ∃ m', _ ∧ _
         exact q8p
        (clear S a; intro h a S)
        revert a; revert Z; refine go 4 ?_; intro a S
        refine q03 S rfl ?_
        revert a; revert Z; refine go 4 ?_; intro a S
        (refine wv S (q20 S rfl rfl rfl (by first | omega | (have h9 : 0 < s.length := List.length_pos_iff.2 (by assumption); omega))) ?_; clear S a; intro a S)
        revert a; refine go 2 ?_; intro a S
        change ∃ m', _ ∧ _
        exact q8p
       (clear S a; intro h a S)
       revert a; revert Z; refine go 14 ?_; intro a S
       refine q00 S rfl ?_ ?_ <;> intro h
       ·revert a; refine go 4 ?_; intro a S
        refine wp_ret (fr1 S Tryz.results167 ?_)
        exact q8n
       revert a; revert Z; refine go 4 ?_; intro a S
       (refine wv S (q20 S rfl rfl rfl (by first | omega | (have h9 : 0 < s.length := List.length_pos_iff.2 (by assumption); omega))) ?_; clear S a; intro a S)
       revert a; refine go 2 ?_; intro a S
       change ∃ m', _ ∧ _
       exact q8p
      (clear S a; intro h a S)
      revert a; revert Z; refine go 13 ?_; intro a S
      refine q03 S rfl ?_
      revert a; revert Z; refine go 4 ?_; intro a S
      (refine wv S (q20 S rfl rfl rfl (by first | omega | (have h9 : 0 < s.length := List.length_pos_iff.2 (by assumption); omega))) ?_; clear S a; intro a S)
      revert a; refine go 2 ?_; intro a S
      change ∃ m', _ ∧ _
      exact q8p
     (clear S a; intro h a S)
     revert a; refine go 13 ?_; intro a S
     refine wgd S ?_ ?_
     ·(clear S; intro h S)
      revert a; refine go 9 ?_; intro a S
      refine wgd S ?_ ?_
      ·(clear S; intro h S)
       revert a; revert Z; refine go 6 ?_; intro a S
       refine q00 S rfl ?_ ?_ <;> intro h
       ·revert a; refine go 4 ?_; intro a S
        refine wp_ret (fr1 S Tryz.results167 ?_)
        exact q8n
       revert a; revert Z; refine go 4 ?_; intro a S
       (refine wv S (q20 S rfl rfl rfl (by first | omega | (have h9 : 0 < s.length := List.length_pos_iff.2 (by assumption); omega))) ?_; clear S a; intro a S)
       revert a; refine go 2 ?_; intro a S
       change ∃ m', _ ∧ _
       exact q8p
      (clear S a; intro h a S)
      revert a; revert Z; refine go 4 ?_; intro a S
      refine q03 S rfl ?_
      revert a; revert Z; refine go 4 ?_; intro a S
      (refine wv S (q20 S rfl rfl rfl (by first | omega | (have h9 : 0 < s.length := List.length_pos_iff.2 (by assumption); omega))) ?_; clear S a; intro a S)
      revert a; refine go 2 ?_; intro a S
      change ∃ m', _ ∧ _
      exact q8p
     (clear S a; intro h a S)
     revert a; revert Z; refine go 14 ?_; intro a S
     refine q00 S rfl ?_ ?_ <;> intro h
     ·revert a; refine go 4 ?_; intro a S
      refine wp_ret (fr1 S Tryz.results167 ?_)
      exact q8n
     revert a; revert Z; refine go 4 ?_; intro a S
     (refine wv S (q20 S rfl rfl rfl (by first | omega | (have h9 : 0 < s.length := List.length_pos_iff.2 (by assumption); omega))) ?_; clear S a; intro a S)
     revert a; refine go 2 ?_; intro a S
     change ∃ m', _ ∧ _
     exact q8p
    (clear S a; intro h a S)
    revert a; revert Z; refine go 22 ?_; intro a S
    refine q03 S rfl ?_
    revert a; revert Z; refine go 4 ?_; intro a S
    (refine wv S (q20 S rfl rfl rfl (by first | omega | (have h9 : 0 < s.length := List.length_pos_iff.2 (by assumption); omega))) ?_; clear S a; intro a S)
    revert a; refine go 2 ?_; intro a S
    change ∃ m', _ ∧ _
    exact q8p
   (refine wp_exit ?_; conv => whnf)
   clear hZ Z
   revert a; revert Z; refine go 5 ?_; intro a S
   refine wp_ret (fr1 S Tryz.results167 ?_)
   exact q8n
  (clear S a; intro h a S)
  revert a; revert Z; refine go 6 ?_; intro a S
  refine q0h S rfl ?_
  revert a; refine go 4 ?_; intro a S
  refine wp_ret (fr1 S Tryz.results167 ?_)
  exact q8n
 (clear S a; intro h a S)
 revert a; revert Z; refine go 11 ?_; intro a S
 refine q0h S rfl ?_
 revert a; refine go 4 ?_; intro a S
 refine wp_ret (fr1 S Tryz.results167 ?_)
 exact q8n
theorem qfc (F : q01) (s : List UInt8) (hs : s ≠ []) (hb : s.length ≤ 140737488355328) : Ct Tryz.prog 75 [.string (bs s)] F [] (fun _ _ u => u = .int .i64 (qke s)) := by
 have h9 : 0 < s.length := List.length_pos_iff.2 hs
 refine Ct.enter Tryz.func75 rfl Tryz.ntmps75 rfl fun w0 a S => ?_
 revert a; refine go 7 ?_; intro Z hZ Z hZ a S
 (refine wv S (q07 (i := 0) S rfl rfl rfl (by omega)) ?_; clear S a; intro a S)
 revert a; revert Z; refine go 3 ?_; intro a S
 refine q00 S rfl ?_ ?_ <;> intro h
 ·revert a; refine go 7 ?_; intro a S
  refine wp_ret (fr1 S Tryz.results75 ?_)
  (congr 1; unfold qke; first | (rw [if_pos (by omega)]; done) | (rw [if_neg (by omega)]; done))
 revert a; revert Z; refine go 8 ?_; intro a S
 refine wp_ret (fr1 S Tryz.results75 ?_)
 (congr 1; unfold qke; first | (rw [if_pos (by omega)]; done) | (rw [if_neg (by omega)]; done))
theorem qq0 {d : List UInt8} {k : Nat} (hk : k < d.length) (h : ¬ (48 ≤ (d.getD k 0).toNat ∧ (d.getD k 0).toNat ≤ 57)) : qfs d = false := by
 unfold qfs
 rw [Bool.and_eq_false_iff]
 right
 rw [List.all_eq_false]
 refine ⟨d[k], List.getElem_mem hk, ?_⟩
 rw [List.getD_eq_getElem?_getD, List.getElem?_eq_getElem hk] at h
 simpa [ql2] using h
theorem qlz {d : List UInt8} (h : ¬ (d ≠ [] ∧ ¬ (1 < d.length ∧ (d.getD 0 0).toNat = 48))) : qfs d = false := by
 unfold qfs; rw [decide_eq_false h, Bool.false_and]
theorem qiv {d : List UInt8} (h : d ≠ [] ∧ ¬ (1 < d.length ∧ (d.getD 0 0).toNat = 48)) (h2 : ∀ j, j < d.length → ql2 (d.getD j 0) = true) : qfs d = true := by
 unfold qfs
 rw [decide_eq_true h, Bool.true_and, List.all_eq_true]
 intro c hc
 obtain ⟨j, hj, rfl⟩ := List.mem_iff_getElem.1 hc
 have := h2 j hj
 rwa [List.getD_eq_getElem?_getD, List.getElem?_eq_getElem hj] at this
theorem q8f {p : Prop} (h : p := by (congr 1; first | (unfold qj6; rw [if_pos (by omega), if_pos (by omega)]; done) | (rw [hrd]; first | (exact (qq0 (k := k) (by omega) (by omega)).symm) | (exact (qlz (by rintro ⟨h1, h2⟩; first | omega | exact h1 (by assumption))).symm) | (exact (qiv ⟨by assumption, by omega⟩ (fun j hj => hall j (by omega))).symm)))) : p := h
theorem qur {p : Prop} (h : p := by (refine ⟨d.length - (k + 1), by omega, k + 1, rfl, by omega, ?_, ?_⟩; rotate_left 1; (refine S.keep ?_; exact zk); intro j hj; rcases Nat.lt_or_eq_of_le (Nat.le_of_lt_succ hj) with h6 | h6; exact hall j h6; subst h6; exact decide_eq_true (by omega))) : p := h
theorem qoc {p : Prop} (h : p := by (first | (refine ⟨s.drop 1, ?_, by rw [qaJ]; omega, ?_⟩; rotate_left 1; (refine S.keep ?_; exact zk); unfold qj6; rw [if_pos (by omega), if_neg (by omega)]) | (refine ⟨s, ?_, Nat.le_refl _, ?_⟩; rotate_left 1; (refine S.keep ?_; exact zk); unfold qj6; rw [if_neg (by omega)]))) : p := h
theorem qph (F : q01) (s : List UInt8) (hb : s.length ≤ 140737488355328) : Ct Tryz.prog 147 [.string (bs s)] F [] (fun _ _ u => u = .bool (qj6 s)) := by
  refine Ct.enter Tryz.func147 rfl Tryz.ntmps147 rfl fun w0 a S => ?_
  revert a; refine go 4 ?_; intro a S
  (refine wp_seq_k ?_; intro Z hZ)
  replace hZ : ∀ (a' : Act) (w' : World), (∃ (d : List UInt8), qj6 s = qfs d ∧ d.length ≤ s.length ∧ St 45 [(0, .string (bs d))] w0 F [] F [] a' w') → Z a' w' := (by
   (intro a w hM; refine hZ _ _ ?_; clear hZ Z; clear S; obtain ⟨d, hrd, hdl, S⟩ := hM)
   revert a; refine go 5 ?_; intro Z hZ Z hZ a S
   refine wgd S ?_ ?_
   · (clear S; intro h S)
     revert a; refine go 7 ?_; intro a S
     refine wgd S ?_ ?_
     · (clear S; intro h S)
       revert a; refine go 2 ?_; intro a S
       (refine wv S (q07 (i := 0) S rfl rfl rfl (by first | omega | (simp only [qaJ]; omega) | (have h9 : 0 < s.length := List.length_pos_iff.2 (by assumption); omega) | (have h9 : 0 < d.length := List.length_pos_iff.2 (by assumption); omega))) ?_; clear S a; intro a S)
       revert a; revert Z; refine go 7 ?_; intro a S
       refine q00 S rfl ?_ ?_ <;> intro h
       · revert a; refine go 4 ?_; intro a S
         refine wp_ret (fr1 S Tryz.results147 ?_)
         exact q8f
       revert a; revert Z; refine go 8 ?_; intro Z hZ a S
       refine q04 (fun m a w' => ∃ (k : Nat), m = d.length - k ∧ k ≤ d.length ∧ (∀ j, j < k → ql2 (d.getD j 0) = true) ∧ St 45 [(0, .string (bs d)), (3, .int .i64 (k : Int))] w0 F [] F [] a w') ?_ ?_
       · (refine ⟨d.length, 0, by omega, Nat.zero_le _, fun j h => absurd h (Nat.not_lt_zero _), ?_⟩; refine S.keep ?_; exact zk)
       (clear S; rintro m a w ⟨k, rfl, hkl, hall, S⟩)
       revert a; refine go 8 ?_; intro Z hZ a S
       refine q00 S rfl ?_ ?_ <;> intro h
       · revert a; revert Z; refine go 7 ?_; intro Z hZ Z hZ a S
         first | (refine wv S (q07 S rfl rfl rfl (by first | omega | (simp only [qaJ]; omega) | (have h9 : 0 < s.length := List.length_pos_iff.2 (by assumption); omega) | (have h9 : 0 < d.length := List.length_pos_iff.2 (by assumption); omega))) ?_; clear S a; intro a S) | (refine wv S (q0t S rfl rfl rfl (by first | omega | (simp only [qaJ]; omega) | (have h9 : 0 < s.length := List.length_pos_iff.2 (by assumption); omega) | (have h9 : 0 < d.length := List.length_pos_iff.2 (by assumption); omega))) ?_; clear S a; intro a S)
         revert a; refine go 2 ?_; intro a S
         refine wgd S ?_ ?_
         · (clear S; intro h S)
           revert a; refine go 4 ?_; intro a S
           first | (refine wv S (q07 S rfl rfl rfl (by first | omega | (simp only [qaJ]; omega) | (have h9 : 0 < s.length := List.length_pos_iff.2 (by assumption); omega) | (have h9 : 0 < d.length := List.length_pos_iff.2 (by assumption); omega))) ?_; clear S a; intro a S) | (refine wv S (q0t S rfl rfl rfl (by first | omega | (simp only [qaJ]; omega) | (have h9 : 0 < s.length := List.length_pos_iff.2 (by assumption); omega) | (have h9 : 0 < d.length := List.length_pos_iff.2 (by assumption); omega))) ?_; clear S a; intro a S)
           revert a; revert Z; refine go 5 ?_; intro a S
           refine q00 S rfl ?_ ?_ <;> intro h
           · revert a; refine go 4 ?_; intro a S
             refine wp_ret (fr1 S Tryz.results147 ?_)
             exact q8f
           revert a; revert Z; refine go 4 ?_; intro a S
           (refine wv S (q20 S rfl rfl rfl (by first | omega | (simp only [qaJ]; omega) | (have h9 : 0 < s.length := List.length_pos_iff.2 (by assumption); omega) | (have h9 : 0 < d.length := List.length_pos_iff.2 (by assumption); omega))) ?_; clear S a; intro a S)
           revert a; refine go 2 ?_; intro a S
           change ∃ m', _ ∧ _
           exact qur
         (clear S a; intro h a S)
         revert a; revert Z; refine go 6 ?_; intro a S
         refine q0h S rfl ?_
         revert a; refine go 4 ?_; intro a S
         refine wp_ret (fr1 S Tryz.results147 ?_)
         exact q8f
       (refine wp_exit ?_; conv => whnf)
       clear hZ Z
       revert a; revert Z; refine go 5 ?_; intro a S
       refine wp_ret (fr1 S Tryz.results147 ?_)
       exact q8f
     (clear S a; intro h a S)
     revert a; revert Z; refine go 7 ?_; intro a S
     refine q03 S rfl ?_
     revert a; revert Z; refine go 8 ?_; intro Z hZ a S
     refine q04 (fun m a w' => ∃ (k : Nat), m = d.length - k ∧ k ≤ d.length ∧ (∀ j, j < k → ql2 (d.getD j 0) = true) ∧ St 45 [(0, .string (bs d)), (3, .int .i64 (k : Int))] w0 F [] F [] a w') ?_ ?_
     · (refine ⟨d.length, 0, by omega, Nat.zero_le _, fun j h => absurd h (Nat.not_lt_zero _), ?_⟩; refine S.keep ?_; exact zk)
     (clear S; rintro m a w ⟨k, rfl, hkl, hall, S⟩)
     revert a; refine go 8 ?_; intro Z hZ a S
     refine q00 S rfl ?_ ?_ <;> intro h
     · revert a; revert Z; refine go 7 ?_; intro Z hZ Z hZ a S
       first | (refine wv S (q07 S rfl rfl rfl (by first | omega | (simp only [qaJ]; omega) | (have h9 : 0 < s.length := List.length_pos_iff.2 (by assumption); omega) | (have h9 : 0 < d.length := List.length_pos_iff.2 (by assumption); omega))) ?_; clear S a; intro a S) | (refine wv S (q0t S rfl rfl rfl (by first | omega | (simp only [qaJ]; omega) | (have h9 : 0 < s.length := List.length_pos_iff.2 (by assumption); omega) | (have h9 : 0 < d.length := List.length_pos_iff.2 (by assumption); omega))) ?_; clear S a; intro a S)
       revert a; refine go 2 ?_; intro a S
       refine wgd S ?_ ?_
       · (clear S; intro h S)
         revert a; refine go 4 ?_; intro a S
         first | (refine wv S (q07 S rfl rfl rfl (by first | omega | (simp only [qaJ]; omega) | (have h9 : 0 < s.length := List.length_pos_iff.2 (by assumption); omega) | (have h9 : 0 < d.length := List.length_pos_iff.2 (by assumption); omega))) ?_; clear S a; intro a S) | (refine wv S (q0t S rfl rfl rfl (by first | omega | (simp only [qaJ]; omega) | (have h9 : 0 < s.length := List.length_pos_iff.2 (by assumption); omega) | (have h9 : 0 < d.length := List.length_pos_iff.2 (by assumption); omega))) ?_; clear S a; intro a S)
         revert a; revert Z; refine go 5 ?_; intro a S
         refine q00 S rfl ?_ ?_ <;> intro h
         · revert a; refine go 4 ?_; intro a S
           refine wp_ret (fr1 S Tryz.results147 ?_)
           exact q8f
         revert a; revert Z; refine go 4 ?_; intro a S
         (refine wv S (q20 S rfl rfl rfl (by first | omega | (simp only [qaJ]; omega) | (have h9 : 0 < s.length := List.length_pos_iff.2 (by assumption); omega) | (have h9 : 0 < d.length := List.length_pos_iff.2 (by assumption); omega))) ?_; clear S a; intro a S)
         revert a; refine go 2 ?_; intro a S
         change ∃ m', _ ∧ _
         exact qur
       (clear S a; intro h a S)
       revert a; revert Z; refine go 6 ?_; intro a S
       refine q0h S rfl ?_
       revert a; refine go 4 ?_; intro a S
       refine wp_ret (fr1 S Tryz.results147 ?_)
       exact q8f
     (refine wp_exit ?_; conv => whnf)
     clear hZ Z
     revert a; revert Z; refine go 5 ?_; intro a S
     refine wp_ret (fr1 S Tryz.results147 ?_)
     exact q8f
   (clear S a; intro h a S)
   revert a; revert Z; refine go 10 ?_; intro a S
   refine q0h S rfl ?_
   revert a; refine go 4 ?_; intro a S
   refine wp_ret (fr1 S Tryz.results147 ?_)
   (congr 1; first | (unfold qj6; rw [if_pos (by omega), if_pos (by omega)]; done) | (rw [hrd]; first | (exact (qq0 (k := k) (by omega) (by omega)).symm) | (exact (qlz (by rintro ⟨h1, h2⟩; first | omega | exact h1 (by assumption))).symm) | (exact (qiv ⟨by assumption, by omega⟩ (fun j hj => hall j (by omega))).symm))))
  revert a; refine go 5 ?_; intro Z hZ a S
  refine wgd S ?_ ?_
  · (clear S; intro h S)
    revert a; refine go 2 ?_; intro a S
    (refine wv S (q07 (i := 0) S rfl rfl rfl (by first | omega | (simp only [qaJ]; omega) | (have h9 : 0 < s.length := List.length_pos_iff.2 (by assumption); omega) | (have h9 : 0 < d.length := List.length_pos_iff.2 (by assumption); omega))) ?_; clear S a; intro a S)
    revert a; revert Z; refine go 5 ?_; intro a S
    refine q00 S rfl ?_ ?_ <;> intro h
    · revert a; refine go 2 ?_; intro Z hZ a S
      (refine wv S (q1p S rfl rfl rfl (by first | omega | (simp only [qaJ]; omega) | (have h9 : 0 < s.length := List.length_pos_iff.2 (by assumption); omega) | (have h9 : 0 < d.length := List.length_pos_iff.2 (by assumption); omega))) ?_; clear S a; intro a S)
      (rw [show Int.toNat 1 = 1 from rfl] at S)
      revert a; revert Z; refine go 5 ?_; intro Z hZ a S
      (refine wv S (q07 (i := 0) S rfl rfl rfl (by first | omega | (simp only [qaJ]; omega) | (have h9 : 0 < s.length := List.length_pos_iff.2 (by assumption); omega) | (have h9 : 0 < d.length := List.length_pos_iff.2 (by assumption); omega))) ?_; clear S a; intro a S)
      revert a; revert Z; refine go 3 ?_; intro a S
      refine q00 S rfl ?_ ?_ <;> intro h
      · revert a; refine go 4 ?_; intro a S
        refine wp_ret (fr1 S Tryz.results147 ?_)
        exact q8f
      refine wp_skip ?_
      (refine hZ _ _ ?_)
      exact qoc
    refine wp_skip ?_
    (refine hZ _ _ ?_)
    exact qoc
  (clear S a; intro h a S)
  revert a; revert Z; refine go 5 ?_; intro a S
  refine q03 S rfl ?_
  refine wp_skip ?_
  (refine hZ _ _ ?_)
  exact qoc
theorem qw8 : ∀ l : Vf, (dpN l : Int) = dpR l
 | .nil => rfl
 | .cons _ L r => by simp only [dpN, dpR, ← qw8 L, ← qw8 r]; omega
theorem qsa {l : Vf} {k : Nat} {x : Vv} (h : l.get? k = some x) : dpN (l.drop k) = max (dpN x.2 + 1) (dpN (l.drop (k + 1))) := by rw [q1d.drop_get h]; rfl
theorem qaf (c d : UInt8) (r : List UInt8) : Lib.indexByte (d :: r) c = if d = c then 0 else if Lib.indexByte r c < 0 then -1 else Lib.indexByte r c + 1 := by
 have hg := Lib.indexByte_ge r c
 show (if (d == c) = true then (0 : Int) else if (Lib.indexByte r c == -1) = true then -1 else Lib.indexByte r c + 1) = _
 by_cases h : d = c
 ·rw [if_pos (by simpa using h), if_pos h]
 ·rw [if_neg (by simpa using h), if_neg h]
  by_cases h2 : Lib.indexByte r c < 0
  ·rw [if_pos h2, if_pos (by simp; omega)]
  ·rw [if_neg h2, if_neg (by simp; omega)]
theorem qov : ∀ {s : List UInt8} {k : Nat}, k < s.length → (s.getD k 0).toNat = 46 → (∀ j, j < k → (s.getD j 0).toNat ≠ 46) → q8w s = k
 | [], k, hk, _, _ => absurd hk (Nat.not_lt_zero _)
 | d :: r, 0, _, h, _ => by
  unfold q8w
  rw [qaf, if_pos (UInt8.toNat_inj.1 (show d.toNat = (46 : UInt8).toNat from h))]; rfl
 | d :: r, k + 1, hk, h, hall => by
  have ih := qov (s := r) (k := k) (by simpa using hk) (by simpa using h) (fun j hj => by have := hall (j + 1) (by omega); simpa using this)
  have h0 : d ≠ 46 := fun e => hall 0 (by omega) (by subst e; rfl)
  unfold q8w at ih ⊢
  rw [qaf, if_neg h0, ih, if_neg (by omega)]; rfl
theorem qp9 : ∀ {s : List UInt8}, (∀ j, j < s.length → (s.getD j 0).toNat ≠ 46) → q8w s = -1
 | [], _ => rfl
 | d :: r, hall => by
  have ih := qp9 (s := r) (fun j hj => by have := hall (j + 1) (by simpa using hj); simpa using this)
  have h0 : d ≠ 46 := fun e => hall 0 (by simp) (by subst e; rfl)
  unfold q8w at ih ⊢
  rw [qaf, if_neg h0, ih, if_pos (by decide)]
theorem qey {p : Prop} (h : p := by (congr 1; unfold q58; first | (rw [if_pos (Or.inl (by assumption))]; done) | (rw [if_pos (Or.inr (by assumption))]; done) | (rw [if_neg (by rintro (h | h); exact absurd h (by assumption); exact absurd h (by assumption)), if_neg (by rw [qp9 (fun j hj => hall j (by omega))]; decide)]; done) | (rw [if_neg (by rintro (h | h); exact absurd h (by assumption); exact absurd h (by assumption)), if_pos (by omega)]; unfold Go.De.cutA cutB; rw [if_pos (by omega), if_pos (by omega), hci]; simp_all; done))) : p := h
theorem qpe (F : q01) (s : List UInt8) (hb : s.length ≤ 140737488355328) : Ct Tryz.prog 148 [.string (bs s)] F [] (fun _ _ u => u = .bool (q58 s)) := by
 refine Ct.enter Tryz.func148 rfl Tryz.ntmps148 rfl fun w0 a S => ?_
 revert a; refine go 9 ?_; intro Z hZ Z hZ a S
 refine wgd S ?_ ?_
 ·(clear S; intro h S)
  revert a; revert Z; refine go 6 ?_; intro a S
  refine q00 S rfl ?_ ?_ <;> intro h
  ·revert a; refine go 4 ?_; intro a S
   refine wp_ret (fr1 S Tryz.results148 ?_)
   exact qey
  revert a; revert Z; refine go 8 ?_; intro Z hZ a S
  refine q04 (fun m a w' => ∃ (k : Nat), m = s.length - k ∧ k ≤ s.length ∧ (∀ j, j < k → (s.getD j 0).toNat ≠ 46) ∧ St 33 [(0, .string (bs s)), (3, .int .i64 (k : Int))] w0 F [] F [] a w') ?_ ?_
  ·(refine ⟨s.length, 0, by omega, Nat.zero_le _, fun j h => absurd h (Nat.not_lt_zero _), ?_⟩; refine S.keep ?_; exact zk)
  (clear S; rintro m a w ⟨k, rfl, hkl, hall, S⟩)
  revert a; refine go 8 ?_; intro Z hZ a S
  refine q00 S rfl ?_ ?_ <;> intro h
  ·revert a; revert Z; refine go 7 ?_; intro Z hZ Z hZ a S
   first | (refine wv S (q07 S rfl rfl rfl (by first | omega | (simp only [qaA, qaC, qaD]; omega))) ?_; clear S a; intro a S) | (refine wv S (q0t S rfl rfl rfl (by first | omega | (simp only [qaA, qaC, qaD]; omega))) ?_; clear S a; intro a S)
   revert a; revert Z; refine go 3 ?_; intro a S
   refine q00 S rfl ?_ ?_ <;> intro h
   ·(refine wp_seq_k ?_; intro Z hZ)
    (have hci := qov (by omega) (by omega) hall)
    revert a; refine go 3 ?_; intro a S
    (refine wv S (q5l S rfl rfl rfl (by first | omega | (simp only [qaA, qaC, qaD]; omega))) ?_; clear S a; intro a S)
    (refine wc0 S (qgm F _) ?_; clear S a; intro v a w hv S; subst hv)
    revert a; refine go 1 ?_; intro a S
    refine wgd S ?_ ?_
    ·(clear S; intro h S)
     revert a; refine go 6 ?_; intro a S
     (refine wv S (q1p S rfl rfl rfl (by first | omega | (simp only [qaA, qaC, qaD]; omega))) ?_; clear S a; intro a S)
     refine q1j S rfl rfl rfl ?_
     (refine wc0 S (qgm F _) ?_; clear S a; intro v a w hv S; subst hv)
     revert a; revert Z; refine go 4 ?_; intro a S
     refine wp_ret (fr1 S Tryz.results148 ?_)
     exact qey
    (clear S a; intro h a S)
    revert a; revert Z; refine go 8 ?_; intro a S
    refine wp_ret (fr1 S Tryz.results148 ?_)
    exact qey
   revert a; revert Z; refine go 7 ?_; intro a S
   change ∃ m', _ ∧ _
   (refine ⟨s.length - (k + 1), by omega, k + 1, rfl, by omega, ?_, ?_⟩; rotate_left 1; (refine S.keep ?_; exact zk); intro j hj; rcases Nat.lt_or_eq_of_le (Nat.le_of_lt_succ hj) with h6 | h6; exact hall j h6; subst h6; omega)
  (refine wp_exit ?_; conv => whnf)
  clear hZ Z
  revert a; revert Z; refine go 3 ?_; intro Z hZ a S
  (refine wc0 S (qgm F _) ?_; clear S a; intro v a w hv S; subst hv)
  revert a; revert Z; refine go 3 ?_; intro a S
  refine wp_ret (fr1 S Tryz.results148 ?_)
  exact qey
 (clear S a; intro h a S)
 revert a; revert Z; refine go 4 ?_; intro a S
 refine q0h S rfl ?_
 revert a; refine go 4 ?_; intro a S
 refine wp_ret (fr1 S Tryz.results148 ?_)
 exact qey
theorem rF1 {h : VH} {n : Nat} (k : h.k = 1) : q1n h n = decide ((h.n = 0 ∨ h.n = 1) ∧ h.s = [] ∧ n = 0) := by unfold q1n; rw [if_pos k]
theorem rF2 {h : VH} {n : Nat} (k : h.k = 2) : q1n h n = decide (h.s = [] ∧ n = 0) := by unfold q1n; rw [if_neg (by omega), if_pos k]
theorem rF3 {h : VH} {n : Nat} (k : h.k = 3) : q1n h n = (decide (h.n = 0 ∧ n = 0) && qj6 h.s) := by unfold q1n; rw [if_neg (by omega), if_neg (by omega), if_pos k]
theorem rF4 {h : VH} {n : Nat} (k : h.k = 4) : q1n h n = decide (h.n = 0 ∧ n = 0) := by unfold q1n; rw [if_neg (by omega), if_neg (by omega), if_neg (by omega), if_pos k]
theorem rF5 {h : VH} {n : Nat} (k : h.k = 5) : q1n h n = decide (h.n = 0 ∧ h.s = [] ∧ n ≠ 1) := by unfold q1n; rw [if_neg (by omega), if_neg (by omega), if_neg (by omega), if_neg (by omega), if_pos k]
theorem rF6 {h : VH} {n : Nat} (k : h.k = 6) : q1n h n = (decide (h.n = 0) && q58 h.s) := by unfold q1n; rw [if_neg (by omega), if_neg (by omega), if_neg (by omega), if_neg (by omega), if_neg (by omega), if_pos k]
theorem rF0 {h : VH} {n : Nat} (k : h.k ≠ 1 ∧ h.k ≠ 2 ∧ h.k ≠ 3 ∧ h.k ≠ 4 ∧ h.k ≠ 5 ∧ h.k ≠ 6) : q1n h n = false := by unfold q1n; rw [if_neg k.1, if_neg k.2.1, if_neg k.2.2.1, if_neg k.2.2.2.1, if_neg k.2.2.2.2.1, if_neg k.2.2.2.2.2]
theorem qhc {l : Vf} {k : Nat} {x : Vv} (h : l.get? k = some x) : q2f (l.drop k) = ((q1n x.1 x.2.len && q2f x.2) && q2f (l.drop (k + 1))) := by rw [q1d.drop_get h]; rfl
theorem qgo {l : Vf} {k : Nat} {x : Vv} (h : l.get? k = some x) : q3d (l.drop k) = ((q2c x.1 x.2.len && q3d x.2) && q3d (l.drop (k + 1))) := by rw [q1d.drop_get h]; rfl
theorem qva {p : Prop} (h : p := by (congr 1; rw [← hfp]; first | (rw [(by assumption : t = false), Bool.false_and]; done) | (rw [q1d.drop_len (by omega)]; exact (Bool.and_true _).symm))) : p := h
theorem q36 {p : Prop} (h : p := by (apply Exists.intro; apply And.intro; rotate_left 1; (refine S.keep ?_; exact zk); first | (rw [rF0 (show xk ≠ 1 ∧ xk ≠ 2 ∧ xk ≠ 3 ∧ xk ≠ 4 ∧ xk ≠ 5 ∧ xk ≠ 6 by omega)]; done) | (rw [rF1 (show xk = 1 by omega)]; exact (decide_eq_false (fun h9 => by dsimp only at h9; omega)).symm) | (rw [rF1 (show xk = 1 by omega)]; dsimp only; (refine bd ?_; by_cases hxs : xs = []; ((simp only [hxs, beq_iff_eq, bne_iff_ne, ne_eq, true_and, and_true, Bool.false_eq_true]) <;> first | omega | exact absurd hxs (by assumption)); ((simp only [hxs, beq_iff_eq, bne_iff_ne, ne_eq, false_and, and_false, Bool.false_eq_true, iff_false, iff_true]) <;> first | omega | exact absurd (by assumption) hxs)); done) | (rw [rF2 (show xk = 2 by omega)]; exact (decide_eq_false (fun h9 => by dsimp only at h9; omega)).symm) | (rw [rF2 (show xk = 2 by omega)]; dsimp only; (refine bd ?_; by_cases hxs : xs = []; ((simp only [hxs, beq_iff_eq, bne_iff_ne, ne_eq, true_and, and_true, Bool.false_eq_true]) <;> first | omega | exact absurd hxs (by assumption)); ((simp only [hxs, beq_iff_eq, bne_iff_ne, ne_eq, false_and, and_false, Bool.false_eq_true, iff_false, iff_true]) <;> first | omega | exact absurd (by assumption) hxs)); done) | (rw [rF3 (show xk = 3 by omega)]; dsimp only; first | (rw [decide_eq_true (by omega), Bool.true_and]; done) | (rw [decide_eq_false (by omega), Bool.false_and]; done)) | (rw [rF4 (show xk = 4 by omega)]; exact (decide_eq_false (fun h9 => by dsimp only at h9; omega)).symm) | (rw [rF4 (show xk = 4 by omega)]; dsimp only; (refine bd ?_; by_cases hxs : xs = []; ((simp only [hxs, beq_iff_eq, bne_iff_ne, ne_eq, true_and, and_true, Bool.false_eq_true]) <;> first | omega | exact absurd hxs (by assumption)); ((simp only [hxs, beq_iff_eq, bne_iff_ne, ne_eq, false_and, and_false, Bool.false_eq_true, iff_false, iff_true]) <;> first | omega | exact absurd (by assumption) hxs)); done) | (rw [rF5 (show xk = 5 by omega)]; exact (decide_eq_false (fun h9 => by dsimp only at h9; omega)).symm) | (rw [rF5 (show xk = 5 by omega)]; dsimp only; (refine bd ?_; by_cases hxs : xs = []; ((simp only [hxs, beq_iff_eq, bne_iff_ne, ne_eq, true_and, and_true, Bool.false_eq_true]) <;> first | omega | exact absurd hxs (by assumption)); ((simp only [hxs, beq_iff_eq, bne_iff_ne, ne_eq, false_and, and_false, Bool.false_eq_true, iff_false, iff_true]) <;> first | omega | exact absurd (by assumption) hxs)); done) | (rw [rF6 (show xk = 6 by omega)]; dsimp only; first | (rw [decide_eq_true (by omega), Bool.true_and]; done) | (rw [decide_eq_false (by omega), Bool.false_and]; done)))) : p := h
theorem qwe : ∀ (n : Nat) (F : q01) (x : Vv) (cs : List Value), x.2.size < n → VaC F cs x.1 x.2 → Ct Tryz.prog 111 [.agg ⟨cs⟩] F [] (fun _ _ u => u = .bool (q1n x.1 x.2.len && q2f x.2)) := by
  intro n
  induction n with
  | zero => intro F x cs hn; omega
  | succ n ih =>
  intro F x cs hn hV
  obtain ⟨⟨xk, xn, xs⟩, xl⟩ := x
  obtain ⟨v1, rfl, ⟨ao, cap, rfl, hcap, hpos⟩, hs1⟩ := hV
  dsimp only at *
  refine Ct.enter Tryz.func111 rfl Tryz.ntmps111 rfl fun w0 a S => ?_
  refine q1i fun Z hZ => ?_
  (refine wbx S ?_; clear S a; intro b1 a w S)
  revert a; revert Z; refine go 7 ?_; intro a S
  (refine wp_seq_k ?_; intro Z hZ)
  replace hZ : ∀ (a' : Act) (w' : World), (∃ (t : Bool), t = q1n ⟨xk, xn, xs⟩ xl.len ∧ St 109 [(1, ptr b1), (3, .bool t)] w0 F [] F [[(b1, .cells ⟨[.int .u8 (xk : Int), .int .i64 xn, .string (bs xs), .slice ao xl.len cap]⟩ 45 (0, 0))]] a' w') → Z a' w' := (by
   (intro a w hM; refine hZ _ _ ?_; clear hZ Z; clear S; obtain ⟨t, ht, S⟩ := hM)
   revert a; refine go 6 ?_; intro Z hZ a S
   refine q04 (fun m a w' => ∃ (k : Nat) (t : Bool), m = xl.len - k ∧ k ≤ xl.len ∧ (t && q2f (xl.drop k)) = (q1n ⟨xk, xn, xs⟩ xl.len && q2f xl) ∧ St 109 [(1, ptr b1), (3, .bool t), (4, .int .i64 (k : Int))] w0 F [] F [[(b1, .cells ⟨[.int .u8 (xk : Int), .int .i64 xn, .string (bs xs), .slice ao xl.len cap]⟩ 45 (0, 0))]] a w') ?_ ?_
   · (refine ⟨xl.len, 0, t, by omega, Nat.zero_le _, by rw [ht]; rfl, ?_⟩; refine S.keep ?_; exact zk)
   (clear S; rintro m a w ⟨k, t, rfl, hkl, hfp, S⟩)
   revert a; refine go 8 ?_; intro Z hZ Z hZ a S
   refine wgd S ?_ ?_
   · (clear S; intro h S)
     revert a; revert Z; refine go 4 ?_; intro a S
     refine q00 S rfl ?_ ?_ <;> intro h
     · revert a; revert Z; refine go 4 ?_; intro Z hZ a S
       (obtain ⟨b8, o8, hao, x, cs1, v1, hx, hc1, hw9, hT1⟩ := TrM.pos hpos (k := k) (by omega); rw [hao] at S; have hxs := q1d.size_get hx; have hT1c := hT1; obtain ⟨a91, c91, rfl, -⟩ := hT1c; have hw9c := hw9.1; subst hw9c; (simp only [List.cons_append, qaG] at hc1))
       revert a; refine go 6 ?_; intro a S
       (refine wc0 S (ih F x _ (by omega) ⟨_, rfl, hT1, hw9.2⟩) ?_; clear S a; intro v a w hv S; subst hv)
       revert a; revert Z; refine go 8 ?_; intro a S
       change ∃ m', _ ∧ _
       (have ht1 : t = true := (by assumption); rw [← hao] at S; refine ⟨xl.len - (k + 1), by omega, k + 1, (q1n x.1 x.2.len && q2f x.2), rfl, by omega, ?_, ?_⟩; rotate_left 1; (refine S.keep ?_; exact zk); rw [← hfp, qhc hx, ht1, Bool.true_and])
     (refine wp_exit ?_; conv => whnf)
     clear hZ Z
     revert a; revert Z; refine go 6 ?_; intro a S
     refine wp_ret (fr1 S Tryz.results111 ?_)
     exact qva
   (clear S a; intro h a S)
   revert a; revert Z; refine go 3 ?_; intro a S
   refine q03 S rfl ?_
   (refine wp_exit ?_; conv => whnf)
   clear hZ Z
   revert a; revert Z; refine go 6 ?_; intro a S
   refine wp_ret (fr1 S Tryz.results111 ?_)
   (congr 1; rw [← hfp]; first | (rw [(by assumption : t = false), Bool.false_and]; done) | (rw [q1d.drop_len (by omega)]; exact (Bool.and_true _).symm)))
  revert a; refine go 11 ?_; intro a S
  refine q00 S rfl ?_ ?_ <;> intro h
  · revert a; refine go 5 ?_; intro a S
    refine wgd S ?_ ?_
    · (clear S; intro h S)
      revert a; refine go 7 ?_; intro a S
      refine wgd S ?_ ?_
      · (clear S; intro h S)
        revert a; refine go 7 ?_; intro a S
        refine wgd S ?_ ?_
        · (clear S; intro h S)
          revert a; refine go 10 ?_; intro a S
          (refine hZ _ _ ?_)
          exact q36
        (clear S a; intro h a S)
        revert a; refine go 6 ?_; intro a S
        (refine hZ _ _ ?_)
        exact q36
      (clear S a; intro h a S)
      revert a; refine go 11 ?_; intro a S
      (refine hZ _ _ ?_)
      exact q36
    (clear S a; intro h a S)
    revert a; refine go 12 ?_; intro a S
    refine wgd S ?_ ?_
    · (clear S; intro h S)
      revert a; refine go 10 ?_; intro a S
      (refine hZ _ _ ?_)
      exact q36
    (clear S a; intro h a S)
    revert a; refine go 6 ?_; intro a S
    (refine hZ _ _ ?_)
    exact q36
  revert a; refine go 5 ?_; intro a S
  refine q00 S rfl ?_ ?_ <;> intro h
  · revert a; refine go 5 ?_; intro a S
    refine wgd S ?_ ?_
    · (clear S; intro h S)
      revert a; refine go 10 ?_; intro a S
      (refine hZ _ _ ?_)
      exact q36
    (clear S a; intro h a S)
    revert a; refine go 6 ?_; intro a S
    (refine hZ _ _ ?_)
    exact q36
  revert a; refine go 5 ?_; intro a S
  refine q00 S rfl ?_ ?_ <;> intro h
  · revert a; refine go 5 ?_; intro a S
    refine wgd S ?_ ?_
    · (clear S; intro h S)
      revert a; refine go 9 ?_; intro a S
      refine wgd S ?_ ?_
      · (clear S; intro h S)
        revert a; refine go 4 ?_; intro a S
        (refine wc0 S (qph F xs hs1) ?_; clear S a; intro v a w hv S; subst hv)
        revert a; refine go 3 ?_; intro a S
        (refine hZ _ _ ?_)
        exact q36
      (clear S a; intro h a S)
      revert a; refine go 5 ?_; intro a S
      (refine hZ _ _ ?_)
      exact q36
    (clear S a; intro h a S)
    revert a; refine go 11 ?_; intro a S
    (refine hZ _ _ ?_)
    exact q36
  revert a; refine go 5 ?_; intro a S
  refine q00 S rfl ?_ ?_ <;> intro h
  · revert a; refine go 5 ?_; intro a S
    refine wgd S ?_ ?_
    · (clear S; intro h S)
      revert a; refine go 10 ?_; intro a S
      (refine hZ _ _ ?_)
      exact q36
    (clear S a; intro h a S)
    revert a; refine go 6 ?_; intro a S
    (refine hZ _ _ ?_)
    exact q36
  revert a; refine go 5 ?_; intro a S
  refine q00 S rfl ?_ ?_ <;> intro h
  · revert a; refine go 5 ?_; intro a S
    refine wgd S ?_ ?_
    · (clear S; intro h S)
      revert a; refine go 7 ?_; intro a S
      refine wgd S ?_ ?_
      · (clear S; intro h S)
        revert a; refine go 10 ?_; intro a S
        (refine hZ _ _ ?_)
        exact q36
      (clear S a; intro h a S)
      revert a; refine go 6 ?_; intro a S
      (refine hZ _ _ ?_)
      exact q36
    (clear S a; intro h a S)
    revert a; refine go 11 ?_; intro a S
    (refine hZ _ _ ?_)
    exact q36
  revert a; refine go 5 ?_; intro a S
  refine q00 S rfl ?_ ?_ <;> intro h
  · revert a; refine go 5 ?_; intro a S
    refine wgd S ?_ ?_
    · (clear S; intro h S)
      revert a; refine go 4 ?_; intro a S
      (refine wc0 S (qpe F xs hs1) ?_; clear S a; intro v a w hv S; subst hv)
      revert a; refine go 3 ?_; intro a S
      (refine hZ _ _ ?_)
      exact q36
    (clear S a; intro h a S)
    revert a; refine go 5 ?_; intro a S
    (refine hZ _ _ ?_)
    exact q36
  refine wp_skip ?_
  (refine hZ _ _ ?_)
  exact q36
theorem rG3 {h : VH} {n : Nat} (k : h.k = 3) : q2c h n = decide (qke h.s ≤ 200) := by unfold q2c; rw [if_pos k]
theorem rG4 {h : VH} {n : Nat} (k : h.k = 4) : q2c h n = decide (h.s.length ≤ 4096) := by unfold q2c; rw [if_neg (by omega), if_pos k]
theorem rG5 {h : VH} {n : Nat} (k : h.k = 5) : q2c h n = decide (n ≤ 16) := by unfold q2c; rw [if_neg (by omega), if_neg (by omega), if_pos k]
theorem rG6 {h : VH} {n : Nat} (k : h.k = 6) : q2c h n = decide (n ≤ 8) := by unfold q2c; rw [if_neg (by omega), if_neg (by omega), if_neg (by omega), if_pos k]
theorem rG0 {h : VH} {n : Nat} (k : h.k ≠ 3 ∧ h.k ≠ 4 ∧ h.k ≠ 5 ∧ h.k ≠ 6) : q2c h n = true := by unfold q2c; rw [if_neg k.1, if_neg k.2.1, if_neg k.2.2.1, if_neg k.2.2.2]
theorem qwa {s : List UInt8} (h : qj6 s = true) : s ≠ [] := by
 rintro rfl
 exact absurd h (by decide)
theorem qb7 : ∀ {l : Vf} {k : Nat} {x : Vv}, q2f l = true → l.get? k = some x → (q1n x.1 x.2.len && q2f x.2) = true
 | .cons h L r, 0, x, hf, e => by
  cases e
  unfold q2f at hf
  rw [Bool.and_eq_true] at hf
  exact hf.1
 | .cons h L r, k + 1, x, hf, e => by
  unfold q2f at hf
  rw [Bool.and_eq_true] at hf
  exact qb7 (l := r) hf.2 e
theorem qe7 {p : Prop} (h : p := by (apply Exists.intro; apply And.intro; rotate_left 1; (refine S.keep ?_; exact zk); first | (rw [rG0 (show xk ≠ 3 ∧ xk ≠ 4 ∧ xk ≠ 5 ∧ xk ≠ 6 by omega)]; done) | (rw [rG3 (show xk = 3 by omega)]; done) | (rw [rG4 (show xk = 4 by omega)]; (try dsimp only); exact decide_eq_decide.2 (by omega)) | (rw [rG5 (show xk = 5 by omega)]; (try dsimp only); exact decide_eq_decide.2 (by omega)) | (rw [rG6 (show xk = 6 by omega)]; (try dsimp only); exact decide_eq_decide.2 (by omega)))) : p := h
theorem qyt : ∀ (n : Nat) (F : q01) (x : Vv) (cs : List Value), x.2.size < n → (q1n x.1 x.2.len && q2f x.2) = true → VaC F cs x.1 x.2 → Ct Tryz.prog 112 [.agg ⟨cs⟩] F [] (fun _ _ u => u = .bool (q2c x.1 x.2.len && q3d x.2)) := by
  intro n
  induction n with
  | zero => intro F x cs hn; omega
  | succ n ih =>
  intro F x cs hn hf hV
  obtain ⟨⟨xk, xn, xs⟩, xl⟩ := x
  obtain ⟨v1, rfl, ⟨ao, cap, rfl, hcap, hpos⟩, hs1⟩ := hV
  dsimp only at *
  rw [Bool.and_eq_true] at hf
  have hne : xk = 3 → xs ≠ [] := fun h3 => by
    have h1 := hf.1
    rw [rF3 h3, Bool.and_eq_true] at h1
    exact qwa h1.2
  refine Ct.enter Tryz.func112 rfl Tryz.ntmps112 rfl fun w0 a S => ?_
  refine q1i fun Z hZ => ?_
  (refine wbx S ?_; clear S a; intro b1 a w S)
  revert a; revert Z; refine go 7 ?_; intro a S
  (refine wp_seq_k ?_; intro Z hZ)
  replace hZ : ∀ (a' : Act) (w' : World), (∃ (t : Bool), t = q2c ⟨xk, xn, xs⟩ xl.len ∧ St 48 [(1, ptr b1), (3, .bool t)] w0 F [] F [[(b1, .cells ⟨[.int .u8 (xk : Int), .int .i64 xn, .string (bs xs), .slice ao xl.len cap]⟩ 45 (0, 0))]] a' w') → Z a' w' := (by
   (intro a w hM; refine hZ _ _ ?_; clear hZ Z; clear S; obtain ⟨t, ht, S⟩ := hM)
   revert a; refine go 6 ?_; intro Z hZ a S
   refine q04 (fun m a w' => ∃ (k : Nat) (t : Bool), m = xl.len - k ∧ k ≤ xl.len ∧ (t && q3d (xl.drop k)) = (q2c ⟨xk, xn, xs⟩ xl.len && q3d xl) ∧ St 48 [(1, ptr b1), (3, .bool t), (4, .int .i64 (k : Int))] w0 F [] F [[(b1, .cells ⟨[.int .u8 (xk : Int), .int .i64 xn, .string (bs xs), .slice ao xl.len cap]⟩ 45 (0, 0))]] a w') ?_ ?_
   · (refine ⟨xl.len, 0, t, by omega, Nat.zero_le _, by rw [ht]; rfl, ?_⟩; refine S.keep ?_; exact zk)
   (clear S; rintro m a w ⟨k, t, rfl, hkl, hfp, S⟩)
   revert a; refine go 8 ?_; intro Z hZ Z hZ a S
   refine wgd S ?_ ?_
   · (clear S; intro h S)
     revert a; revert Z; refine go 4 ?_; intro a S
     refine q00 S rfl ?_ ?_ <;> intro h
     · revert a; revert Z; refine go 4 ?_; intro Z hZ a S
       (obtain ⟨b8, o8, hao, x, cs1, v1, hx, hc1, hw9, hT1⟩ := TrM.pos hpos (k := k) (by omega); rw [hao] at S; have hxs := q1d.size_get hx; have hT1c := hT1; obtain ⟨a91, c91, rfl, -⟩ := hT1c; have hw9c := hw9.1; subst hw9c; (simp only [List.cons_append, qaG] at hc1))
       revert a; refine go 6 ?_; intro a S
       (refine wc0 S (ih F x _ (by omega) (qb7 hf.2 hx) ⟨_, rfl, hT1, hw9.2⟩) ?_; clear S a; intro v a w hv S; subst hv)
       revert a; revert Z; refine go 8 ?_; intro a S
       change ∃ m', _ ∧ _
       (have ht1 : t = true := (by assumption); rw [← hao] at S; refine ⟨xl.len - (k + 1), by omega, k + 1, (q2c x.1 x.2.len && q3d x.2), rfl, by omega, ?_, ?_⟩; rotate_left 1; (refine S.keep ?_; exact zk); rw [← hfp, qgo hx, ht1, Bool.true_and])
     (refine wp_exit ?_; conv => whnf)
     clear hZ Z
     revert a; revert Z; refine go 6 ?_; intro a S
     refine wp_ret (fr1 S Tryz.results112 ?_)
     exact qva
   (clear S a; intro h a S)
   revert a; revert Z; refine go 3 ?_; intro a S
   refine q03 S rfl ?_
   (refine wp_exit ?_; conv => whnf)
   clear hZ Z
   revert a; revert Z; refine go 6 ?_; intro a S
   refine wp_ret (fr1 S Tryz.results112 ?_)
   (congr 1; rw [← hfp]; first | (rw [(by assumption : t = false), Bool.false_and]; done) | (rw [q1d.drop_len (by omega)]; exact (Bool.and_true _).symm)))
  revert a; refine go 11 ?_; intro a S
  refine q00 S rfl ?_ ?_ <;> intro h
  · revert a; refine go 3 ?_; intro a S
    (refine wc0 S (qfc F xs (hne (by omega)) hs1) ?_; clear S a; intro v a w hv S; subst hv)
    revert a; refine go 3 ?_; intro a S
    (refine hZ _ _ ?_)
    exact qe7
  revert a; refine go 5 ?_; intro a S
  refine q00 S rfl ?_ ?_ <;> intro h
  · revert a; refine go 7 ?_; intro a S
    (refine hZ _ _ ?_)
    exact qe7
  revert a; refine go 5 ?_; intro a S
  refine q00 S rfl ?_ ?_ <;> intro h
  · revert a; refine go 7 ?_; intro a S
    (refine hZ _ _ ?_)
    exact qe7
  revert a; refine go 5 ?_; intro a S
  refine q00 S rfl ?_ ?_ <;> intro h
  · revert a; refine go 7 ?_; intro a S
    (refine hZ _ _ ?_)
    exact qe7
  refine wp_skip ?_
  (refine hZ _ _ ?_)
  exact qe7
theorem qmn (n : Bool) (N : Nat) : (toZ (n, N)).natAbs = N := by cases n <;> simp [toZ]
end Go.Proofs.YtbhipiepfclneaaGreatDoor
namespace Go.Wk
open Go Go.ChangeShapes Go.WideShapes
theorem qmo (w : World) : At w (q3g w) [] := ⟨fun _ _ h => h, fun p h => by simp at h, by simp [keys]⟩
theorem qs6 {W W' : World} {F' : q01} {G' : List Grp} (h : Tr W (q3g W) [] W' F' G') : Go.RowKit.Below W.heap.size W W' :=
 ⟨h.os, h.tape, h.output, h.size, fun k hk => h.old k hk (by simp)⟩
theorem u2s {W : World} {a : Addr} {v : Value} (h : W.cell? a = some v) : a.spot = none ∧ Cel (q3g W) a.block a.off v := by
 refine ⟨World.cell?_spot h, ?_⟩
 unfold World.cell? at h
 split at h
 ·rename_i c e f hc
  split at h
  ·cases h
  ·exact ⟨c, e, f, hc, h⟩
 ·cases h
theorem qdw {α : Type} {cell : α → List Value} {sz : Nat} (hlen : ∀ x, (cell x).length = sz) {F : q01} {b : Nat} : ∀ (l : List α) (off : Nat), (∀ i x, l[i]? = some x → q2v F b (off + i * sz) (cell x)) → q2v F b off (l.flatMap cell)
 | [], _, _ => fun _ _ h => by simp at h
 | x :: r, off, h => by
  rw [List.flatMap_cons]
  refine q2v.append (by have := h 0 x rfl; simpa using this) ?_
  rw [hlen]
  refine qdw hlen r _ fun i y hy => ?_
  have := h (i + 1) y hy
  rw [show off + sz + i * sz = off + (i + 1) * sz by rw [Nat.add_mul]; omega]
  exact this
