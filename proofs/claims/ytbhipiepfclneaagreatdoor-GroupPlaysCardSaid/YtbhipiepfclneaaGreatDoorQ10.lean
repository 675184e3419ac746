/- Walks. -/
import Derived.Test.YtbhipiepfclneaaGreatDoorQ09
import Derived.Test.YtbhipiepfclneaaGreatDoorQShelf
set_option maxHeartbeats 4000000
set_option linter.unusedVariables false
set_option linter.unusedSimpArgs false
namespace Go.Proofs.YtbhipiepfclneaaGreatDoor
open Go Go.Wk Go.Un Go.De
attribute [local irreducible] Go.wpList Go.Code.wp Go.wpStill Go.Wk.q26 Go.bodyPost Go.Calls Go.Wk.Ct Go.Wk.q0u Go.Wk.wpG Go.Wk.wpM
open Go.RowKit in
theorem qes (F : q01) (s : List UInt8) : Ct Tryz.prog 95 [.string (bs s), .string (bs [45])] F [] (fun _ _ u => u = .string (bs (q90 s))) := by
 refine q2s fun w hw => ?_
 refine (Tryz.strings_TrimPrefix (bs s) (bs [45]) w).mono fun e w' ⟨h1, h2⟩ => ⟨?_, ?_⟩
 ·rw [h1]; rfl
 ·rw [h2]; exact Below.refl _ _
theorem qy8 (F : q01) (s : List UInt8) (hb : s.length ≤ 140737488355328) : Ct Tryz.prog 160 [.string (bs s), .string (bs qfw)] F [] (fun _ _ u => u = .string (bs (Lib.trimS s qfw))) := by
 refine q2s fun w hw => ?_
 refine (Any.strings_Trim_laid Tryz.lays160 (by kernel_rfl) (bs s) (bs qfw) w (by show s.toArray.size ≤ _; simp; omega) (by decide) (Go.Proofs.ascii_of_all (by decide))).mono fun e w' ⟨h1, h2⟩ => ⟨?_, ?_⟩
 ·rw [h1]; rfl
 ·exact h2
open Go.RowKit in
theorem qkj (F : q01) (s : List UInt8) : Ct Tryz.prog 181 [.string (bs s), .string (bs [46])] F [] (fun _ _ u => u = .int .i64 (q8w s)) := by
 refine q2s fun w hw => ?_
 refine (Tryz.stringslite_Index_one (bs s) 46 w).mono fun e w' ⟨h1, h2⟩ => ⟨?_, ?_⟩
 ·rw [h1]; rfl
 ·rw [h2]; exact Below.refl _ _
theorem qzf (s : List UInt8) : -1 ≤ q8w s ∧ q8w s < s.length := by
 have h1 := Lib.indexByte_ge s 46
 refine ⟨h1, ?_⟩
 rcases Int.lt_or_le (q8w s) 0 with h | h
 ·omega
 ·obtain ⟨o, ho⟩ := Int.eq_ofNat_of_zero_le h
  have h2 := (Lib.indexByte_some ho).1
  have := (List.getElem?_eq_some_iff.1 h2).1
  omega
theorem qv0 {p : Prop} (h : p := by (unfold cutA cutB cutC; first | (have h9 : 0 ≤ q8w s := (by assumption); rw [if_pos h9, if_pos h9, decide_eq_true h9, show (q8w s + (([46] : List UInt8).length : Nat)).toNat = (q8w s).toNat + 1 by show (q8w s + 1).toNat = _; omega] <;> rfl) | (have h9 : ¬ 0 ≤ q8w s := (by assumption); rw [if_neg h9, if_neg h9, decide_eq_false h9] <;> rfl))) : p := h
theorem u2k (F : q01) (s : List UInt8) (hb : s.length ≤ 140737488355328) : Ct Tryz.prog 161 [.string (bs s), .string (bs [46])] F [] (fun _ _ u => u = .tuple ⟨[.string (bs (cutA s)), .string (bs (cutB s)), .bool (cutC s)]⟩) := by
 have hbd := qzf s
 refine Ct.enter Tryz.func161 rfl Tryz.ntmps161 rfl fun w0 a S => ?_
 revert a; refine go 10 ?_; intro Z hZ Z hZ a S
 (refine wc0 S (qkj F s) ?_; clear S a; intro v a w hv S; subst hv)
 revert a; revert Z; refine go 8 ?_; intro a S
 refine q00 S rfl ?_ ?_ <;> intro h
 ·(refine wp_seq_k ?_; intro Z hZ)
  (refine q0k [0, 1, 2, 3, 4, 5, 6, 7, 8] [] [] (.one 0 (.one 1 (.one 2 (.one 3 (.one 4 (.one 5 (.one 6 (.one 7 (.one 8 (.one 9 (.one 10 (.one 11 .nil)))))))))))) [] S mixed (by kernel_rfl) ?_; clear S; intro w S)
  revert a; refine go 2 ?_; intro a S
  (refine q19 S rfl rfl rfl (q06 _ rfl) rfl rfl (fun w' S => q5l S rfl rfl rfl (by first | omega | (simp only [qaA, qaC, qaD]; omega))) ?_; clear S a; intro a S)
  revert a; refine go 5 ?_; intro a S
  (refine q19 S rfl rfl rfl (q06 _ rfl) rfl rfl (fun w' S => q1p S rfl rfl rfl (by first | omega | (simp only [qaA, qaC, qaD]; omega))) ?_; clear S a; intro a S)
  revert a; revert Z; refine go 11 ?_; intro a S
  refine wp_ret (q08 S (q6x Tryz.results161 (RV.tmp S rfl) (RV.tmp S rfl) (RV.tmp S rfl)) ?_)
  exact qv0
 revert a; revert Z; refine go 9 ?_; intro a S
 refine wp_ret (q08 S (q6x Tryz.results161 (RV.tmp S rfl) (RV.tmp S rfl) (RV.tmp S rfl)) ?_)
 exact qv0
theorem u5f (F : q01) (s : List UInt8) (hb : s.length ≤ 140737488355328) : Ct Tryz.prog 126 [.string (bs s), .string (bs [46])] F [] (fun _ _ u => u = .tuple ⟨[.string (bs (cutA s)), .string (bs (cutB s)), .bool (cutC s)]⟩) := by
 refine Ct.enter Tryz.func126 rfl Tryz.ntmps126 rfl fun w0 a S => ?_
 revert a; refine go 9 ?_; intro Z hZ a S
 (refine wc0 S (u2k F s hb) ?_; clear S a; intro v a w hv S; subst hv)
 revert a; revert Z; refine go 8 ?_; intro a S
 refine wp_ret (q08 S (q6x Tryz.results126 (RV.tmp S rfl) (RV.tmp S rfl) (RV.tmp S rfl)) ?_)
 rfl
theorem qjf {s : List UInt8} (h : ¬ (s ≠ [] ∧ s.length ≤ 32 ∧ 97 ≤ (s.getD 0 0).toNat ∧ (s.getD 0 0).toNat ≤ 122)) : q3y s = false := by unfold q3y; rw [decide_eq_false h, Bool.false_and]
theorem qhu {s : List UInt8} {k : Nat} (hk : k < s.length) (h : qew (s.getD k 0).toNat = false) : q3y s = false := by
 unfold q3y
 rw [Bool.and_eq_false_iff]
 right
 rw [List.all_eq_false]
 refine ⟨s[k], List.getElem_mem hk, ?_⟩
 rw [List.getD_eq_getElem?_getD, List.getElem?_eq_getElem hk] at h
 simpa using h
theorem qhk {s : List UInt8} (h : s ≠ [] ∧ s.length ≤ 32 ∧ 97 ≤ (s.getD 0 0).toNat ∧ (s.getD 0 0).toNat ≤ 122) (h2 : ∀ j, j < s.length → qew (s.getD j 0).toNat = true) : q3y s = true := by
 unfold q3y
 rw [decide_eq_true h, Bool.true_and, List.all_eq_true]
 intro c hc
 obtain ⟨j, hj, rfl⟩ := List.mem_iff_getElem.1 hc
 have := h2 j hj
 rwa [List.getD_eq_getElem?_getD, List.getElem?_eq_getElem hj] at this
theorem q4e {p : Prop} (h : p := by (congr 1; first | (exact (qhu (k := k) (by omega) (decide_eq_false (by omega))).symm) | (exact (qhk ⟨by assumption, by omega, by omega, by omega⟩ (fun j hj => hall j (by omega))).symm) | (exact (qjf (by rintro ⟨h1, h2, h3, h4⟩; first | omega | exact h1 (by assumption))).symm))) : p := h
theorem q3o {p : Prop} (h : p := by (refine ⟨s.length - (k + 1), by omega, k + 1, rfl, by omega, ?_, ?_⟩; rotate_left 1; (refine S.keep ?_; exact zk); intro j hj; rcases Nat.lt_or_eq_of_le (Nat.le_of_lt_succ hj) with h6 | h6; exact hall j h6; subst h6; exact decide_eq_true (by omega))) : p := h
theorem qvv (F : q01) (s : List UInt8) : Ct Tryz.prog 127 [.string (bs s)] F [] (fun _ _ u => u = .bool (q3y s)) := by
 refine Ct.enter Tryz.func127 rfl Tryz.ntmps127 rfl fun w0 a S => ?_
 revert a; refine go 9 ?_; intro Z hZ Z hZ a S
 refine wgd S ?_ ?_
 ·(clear S; intro h S)
  revert a; refine go 7 ?_; intro a S
  refine wgd S ?_ ?_
  ·(clear S; intro h S)
   revert a; refine go 2 ?_; intro a S
   (refine wv S (q07 (i := 0) S rfl rfl rfl (by first | omega | (have h9 : 0 < s.length := List.length_pos_iff.2 (by assumption); omega))) ?_; clear S a; intro a S)
   revert a; refine go 4 ?_; intro a S
   refine wgd S ?_ ?_
   ·(clear S; intro h S)
    revert a; refine go 2 ?_; intro a S
    (refine wv S (q07 (i := 0) S rfl rfl rfl (by first | omega | (have h9 : 0 < s.length := List.length_pos_iff.2 (by assumption); omega))) ?_; clear S a; intro a S)
    revert a; revert Z; refine go 5 ?_; intro a S
    refine q00 S rfl ?_ ?_ <;> intro h
    ·revert a; refine go 4 ?_; intro a S
     refine wp_ret (fr1 S Tryz.results127 ?_)
     exact q4e
    revert a; revert Z; refine go 10 ?_; intro Z hZ a S
    refine q04 (fun m a w' => ∃ (k : Nat), m = s.length - k ∧ k ≤ s.length ∧ (∀ j, j < k → qew (s.getD j 0).toNat = true) ∧ St 58 [(0, .string (bs s)), (23, .int .i64 s.length), (24, .int .i64 k)] w0 F [] F [] a w') ?_ ?_
    ·(refine ⟨s.length, 0, by omega, Nat.zero_le _, fun j h => absurd h (Nat.not_lt_zero _), ?_⟩; refine S.keep ?_; exact zk)
    (clear S; rintro m a w ⟨k, rfl, hkl, hall, S⟩)
    revert a; refine go 5 ?_; intro Z hZ a S
    refine q00 S rfl ?_ ?_ <;> intro h
    ·revert a; revert Z; refine go 12 ?_; intro Z hZ Z hZ a S
     first | (refine wv S (q07 S rfl rfl rfl (by first | omega | (have h9 : 0 < s.length := List.length_pos_iff.2 (by assumption); omega))) ?_; clear S a; intro a S) | (refine wv S (q0t S rfl rfl rfl (by first | omega | (have h9 : 0 < s.length := List.length_pos_iff.2 (by assumption); omega))) ?_; clear S a; intro a S)
     revert a; revert Z; refine go 7 ?_; intro Z hZ a S
     refine wgd S ?_ ?_
     ·(clear S; intro h S)
      revert a; refine go 5 ?_; intro a S
      refine wgd S ?_ ?_
      ·(clear S; intro h S)
       revert a; refine go 5 ?_; intro a S
       refine wgd S ?_ ?_
       ·(clear S; intro h S)
        revert a; refine go 7 ?_; intro a S
        refine wgd S ?_ ?_
        ·(clear S; intro h S)
         revert a; refine go 5 ?_; intro a S
         refine wgd S ?_ ?_
         ·(clear S; intro h S)
          revert a; refine go 7 ?_; intro a S
          refine wgd S ?_ ?_
          ·(clear S; intro h S)
           revert a; revert Z; refine go 7 ?_; intro a S
           refine q00 S rfl ?_ ?_ <;> intro h
           ·revert a; refine go 4 ?_; intro a S
            refine wp_ret (fr1 S Tryz.results127 ?_)
            exact q4e
           revert a; revert Z; refine go 3 ?_; intro a S
           (refine wv S (q20 S rfl rfl rfl (by first | omega | (have h9 : 0 < s.length := List.length_pos_iff.2 (by assumption); omega))) ?_; clear S a; intro a S)
           revert a; refine go 2 ?_; intro a S
           change ∃ m', _ ∧ _
           exact q3o
          (clear S a; intro h a S)
          revert a; revert Z; refine go 5 ?_; intro a S
          refine q03 S rfl ?_
          revert a; revert Z; refine go 3 ?_; intro a S
          (refine wv S (q20 S rfl rfl rfl (by first | omega | (have h9 : 0 < s.length := List.length_pos_iff.2 (by assumption); omega))) ?_; clear S a; intro a S)
          revert a; refine go 2 ?_; intro a S
          change ∃ m', _ ∧ _
          exact q3o
         (clear S a; intro h a S)
         revert a; revert Z; refine go 13 ?_; intro a S
         refine q00 S rfl ?_ ?_ <;> intro h
         ·revert a; refine go 4 ?_; intro a S
          refine wp_ret (fr1 S Tryz.results127 ?_)
          exact q4e
         revert a; revert Z; refine go 3 ?_; intro a S
         (refine wv S (q20 S rfl rfl rfl (by first | omega | (have h9 : 0 < s.length := List.length_pos_iff.2 (by assumption); omega))) ?_; clear S a; intro a S)
         revert a; refine go 2 ?_; intro a S
         change ∃ m', _ ∧ _
         exact q3o
        (clear S a; intro h a S)
        revert a; revert Z; refine go 13 ?_; intro a S
        refine q03 S rfl ?_
        revert a; revert Z; refine go 3 ?_; intro a S
        (refine wv S (q20 S rfl rfl rfl (by first | omega | (have h9 : 0 < s.length := List.length_pos_iff.2 (by assumption); omega))) ?_; clear S a; intro a S)
        revert a; refine go 2 ?_; intro a S
        change ∃ m', _ ∧ _
        exact q3o
       (clear S a; intro h a S)
       revert a; refine go 11 ?_; intro a S
       refine wgd S ?_ ?_
       ·(clear S; intro h S)
        revert a; refine go 7 ?_; intro a S
        refine wgd S ?_ ?_
        ·(clear S; intro h S)
         revert a; revert Z; refine go 7 ?_; intro a S
         refine q00 S rfl ?_ ?_ <;> intro h
         ·revert a; refine go 4 ?_; intro a S
          refine wp_ret (fr1 S Tryz.results127 ?_)
          exact q4e
         revert a; revert Z; refine go 3 ?_; intro a S
         (refine wv S (q20 S rfl rfl rfl (by first | omega | (have h9 : 0 < s.length := List.length_pos_iff.2 (by assumption); omega))) ?_; clear S a; intro a S)
         revert a; refine go 2 ?_; intro a S
         change ∃ m', _ ∧ _
         exact q3o
        (clear S a; intro h a S)
        revert a; revert Z; refine go 5 ?_; intro a S
        refine q03 S rfl ?_
        revert a; revert Z; refine go 3 ?_; intro a S
        (refine wv S (q20 S rfl rfl rfl (by first | omega | (have h9 : 0 < s.length := List.length_pos_iff.2 (by assumption); omega))) ?_; clear S a; intro a S)
        revert a; refine go 2 ?_; intro a S
        change ∃ m', _ ∧ _
        exact q3o
       (clear S a; intro h a S)
       revert a; revert Z; refine go 13 ?_; intro a S
       refine q00 S rfl ?_ ?_ <;> intro h
       ·revert a; refine go 4 ?_; intro a S
        refine wp_ret (fr1 S Tryz.results127 ?_)
        exact q4e
       revert a; revert Z; refine go 3 ?_; intro a S
       (refine wv S (q20 S rfl rfl rfl (by first | omega | (have h9 : 0 < s.length := List.length_pos_iff.2 (by assumption); omega))) ?_; clear S a; intro a S)
       revert a; refine go 2 ?_; intro a S
       change ∃ m', _ ∧ _
       exact q3o
      (clear S a; intro h a S)
      revert a; revert Z; refine go 21 ?_; intro a S
      refine q03 S rfl ?_
      revert a; revert Z; refine go 3 ?_; intro a S
      (refine wv S (q20 S rfl rfl rfl (by first | omega | (have h9 : 0 < s.length := List.length_pos_iff.2 (by assumption); omega))) ?_; clear S a; intro a S)
      revert a; refine go 2 ?_; intro a S
      change ∃ m', _ ∧ _
      exact q3o
     (clear S a; intro h a S)
     revert a; refine go 9 ?_; intro a S
     refine wgd S ?_ ?_
     ·(clear S; intro h S)
      revert a; refine go 7 ?_; intro a S
      refine wgd S ?_ ?_
      ·(clear S; intro h S)
       revert a; refine go 5 ?_; intro a S
       refine wgd S ?_ ?_
       ·(clear S; intro h S)
        revert a; refine go 7 ?_; intro a S
        refine wgd S ?_ ?_
        ·(clear S; intro h S)
         revert a; revert Z; refine go 7 ?_; intro a S
         refine q00 S rfl ?_ ?_ <;> intro h
         ·revert a; refine go 4 ?_; intro a S
          refine wp_ret (fr1 S Tryz.results127 ?_)
          exact q4e
         revert a; revert Z; refine go 3 ?_; intro a S
         (refine wv S (q20 S rfl rfl rfl (by first | omega | (have h9 : 0 < s.length := List.length_pos_iff.2 (by assumption); omega))) ?_; clear S a; intro a S)
         revert a; refine go 2 ?_; intro a S
         change ∃ m', _ ∧ _
         exact q3o
        (clear S a; intro h a S)
        revert a; revert Z; refine go 5 ?_; intro a S
        refine q03 S rfl ?_
        revert a; revert Z; refine go 3 ?_; intro a S
        (refine wv S (q20 S rfl rfl rfl (by first | omega | (have h9 : 0 < s.length := List.length_pos_iff.2 (by assumption); omega))) ?_; clear S a; intro a S)
        revert a; refine go 2 ?_; intro a S
        change ∃ m', _ ∧ _
        exact q3o
       (clear S a; intro h a S)
       revert a; revert Z; refine go 13 ?_; intro a S
       refine q00 S rfl ?_ ?_ <;> intro h
       ·revert a; refine go 4 ?_; intro a S
        refine wp_ret (fr1 S Tryz.results127 ?_)
        exact q4e
       revert a; revert Z; refine go 3 ?_; intro a S
       (refine wv S (q20 S rfl rfl rfl (by first | omega | (have h9 : 0 < s.length := List.length_pos_iff.2 (by assumption); omega))) ?_; clear S a; intro a S)
       revert a; refine go 2 ?_; intro a S
       change ∃ m', _ ∧ _
       exact q3o
      (clear S a; intro h a S)
      revert a; revert Z; refine go 13 ?_; intro a S
      refine q03 S rfl ?_
      revert a; revert Z; refine go 3 ?_; intro a S
      (refine wv S (q20 S rfl rfl rfl (by first | omega | (have h9 : 0 < s.length := List.length_pos_iff.2 (by assumption); omega))) ?_; clear S a; intro a S)
      revert a; refine go 2 ?_; intro a S
      change ∃ m', _ ∧ _
      exact q3o
     (clear S a; intro h a S)
     revert a; refine go 11 ?_; intro a S
     refine wgd S ?_ ?_
     ·(clear S; intro h S)
      revert a; refine go 7 ?_; intro a S
      refine wgd S ?_ ?_
      ·(clear S; intro h S)
       revert a; revert Z; refine go 7 ?_; intro a S
       refine q00 S rfl ?_ ?_ <;> intro h
       ·revert a; refine go 4 ?_; intro a S
        refine wp_ret (fr1 S Tryz.results127 ?_)
        exact q4e
       revert a; revert Z; refine go 3 ?_; intro a S
       (refine wv S (q20 S rfl rfl rfl (by first | omega | (have h9 : 0 < s.length := List.length_pos_iff.2 (by assumption); omega))) ?_; clear S a; intro a S)
       revert a; refine go 2 ?_; intro a S
       change ∃ m', _ ∧ _
       exact q3o
      (clear S a; intro h a S)
      revert a; revert Z; refine go 5 ?_; intro a S
      refine q03 S rfl ?_
      revert a; revert Z; refine go 3 ?_; intro a S
      (refine wv S (q20 S rfl rfl rfl (by first | omega | (have h9 : 0 < s.length := List.length_pos_iff.2 (by assumption); omega))) ?_; clear S a; intro a S)
      revert a; refine go 2 ?_; intro a S
      change ∃ m', _ ∧ _
      exact q3o
     (clear S a; intro h a S)
     revert a; revert Z; refine go 13 ?_; intro a S
     refine q00 S rfl ?_ ?_ <;> intro h
     ·revert a; refine go 4 ?_; intro a S
      refine wp_ret (fr1 S Tryz.results127 ?_)
      exact q4e
     revert a; revert Z; refine go 3 ?_; intro a S
     (refine wv S (q20 S rfl rfl rfl (by first | omega | (have h9 : 0 < s.length := List.length_pos_iff.2 (by assumption); omega))) ?_; clear S a; intro a S)
     revert a; refine go 2 ?_; intro a S
     change ∃ m', _ ∧ _
     exact q3o
    (refine wp_exit ?_; conv => whnf)
    clear hZ Z
    revert a; revert Z; refine go 5 ?_; intro a S
    refine wp_ret (fr1 S Tryz.results127 ?_)
    exact q4e
   (clear S a; intro h a S)
   revert a; revert Z; refine go 5 ?_; intro a S
   refine q0h S rfl ?_
   revert a; refine go 4 ?_; intro a S
   refine wp_ret (fr1 S Tryz.results127 ?_)
   exact q4e
  (clear S a; intro h a S)
  revert a; revert Z; refine go 10 ?_; intro a S
  refine q0h S rfl ?_
  revert a; refine go 4 ?_; intro a S
  refine wp_ret (fr1 S Tryz.results127 ?_)
  exact q4e
 (clear S a; intro h a S)
 revert a; revert Z; refine go 15 ?_; intro a S
 refine q0h S rfl ?_
 revert a; refine go 4 ?_; intro a S
 refine wp_ret (fr1 S Tryz.results127 ?_)
 exact q4e
end Go.Proofs.YtbhipiepfclneaaGreatDoor
namespace Go.De
open Go Go.Wk Go.Un
def Sq (F : q01) (sz : Nat) (v : Value) (n : Nat) (C : Nat → List Value → Prop) : Prop :=
 ∃ ao cap, v = .slice ao n cap ∧ (n ≤ cap ∧ n ≤ 140737488355328) ∧ (0 < n → ∃ b o, ao = some ⟨b, o, none⟩ ∧ ∀ k, k < n → ∃ cs, q2v F b (o + k * sz) cs ∧ cs.length = sz ∧ C k cs)
theorem LiM.sq {α : Type} {F : q01} {sz : Nat} {R : q01 → α → List Value → Prop} {v : Value} {l : List α} (h : LiM F sz R v l) : Sq F sz v l.length (fun k cs => ∃ x, l[k]? = some x ∧ R F x cs) := by
 obtain ⟨ao, cap, rfl, hc, hpos⟩ := h
 refine ⟨ao, cap, rfl, hc, fun hp => ?_⟩
 obtain ⟨b, o, e, h1⟩ := hpos hp
 refine ⟨b, o, e, fun k hk => ?_⟩
 obtain ⟨cs, h2, h3, h4⟩ := h1 k _ (List.getElem?_eq_getElem hk)
 exact ⟨cs, h2, h3, _, List.getElem?_eq_getElem hk, h4⟩
theorem TrS.sq {α : Type} {F : q01} {sz : Nat} {R : q01 → α → List Value → Prop} {v : Value} {l : q1d α} (h : TrS F sz R v l) : Sq F sz v l.len (fun k cs => ∃ x c1 u, l.get? k = some x ∧ cs = c1 ++ [u] ∧ R F x.1 c1 ∧ TrS F sz R u x.2) := by
 obtain ⟨ao, cap, rfl, hc, hpos⟩ := h
 refine ⟨ao, cap, rfl, hc, fun hp => ?_⟩
 obtain ⟨b, o, e, h1⟩ := hpos hp
 refine ⟨b, o, e, fun k hk => ?_⟩
 obtain ⟨x, hx⟩ := q1d.get_lt hk
 obtain ⟨cs, u, h2, h3, h4, h5⟩ := h1.at hx
 exact ⟨cs ++ [u], h2, by simp [h3], x, cs, u, hx, rfl, h4, h5⟩
theorem Sq.pos {F : q01} {sz : Nat} {ao : Option Addr} {n : Nat} {C : Nat → List Value → Prop} {k : Nat} (hpos : 0 < n → ∃ b o, ao = some ⟨b, o, none⟩ ∧ ∀ k, k < n → ∃ cs, q2v F b (o + k * sz) cs ∧ cs.length = sz ∧ C k cs) (hk : k < n) :
  ∃ b o, ao = some ⟨b, o, none⟩ ∧ ∃ cs, q2v F b (o + k * sz) cs ∧ cs.length = sz ∧ C k cs := by
 obtain ⟨b, o, e, h⟩ := hpos (by omega)
 exact ⟨b, o, e, h k hk⟩
def RoR {α : Type} (sz : Nat) (R : q01 → α → List Value → Prop) (F : q01) (x : α × q1d α) (cells : List Value) : Prop := ∃ cs v, cells = cs ++ [v] ∧ cs.length + 1 = sz ∧ R F x.1 cs ∧ TrS F sz R v x.2
def q1s {α : Type} : List (α × q1d α) → q1d α
 | [] => .nil
 | x :: r => .cons x.1 x.2 (q1s r)
theorem q2j {α : Type} : ∀ l : List (α × q1d α), (q1s l).len = l.length
 | [] => rfl
 | x :: r => by show (q1s r).len + 1 = r.length + 1; rw [q2j r]
theorem qli {α : Type} {sz : Nat} {R : q01 → α → List Value → Prop} {F : q01} {b : Nat} : ∀ {l : List (α × q1d α)} {xs : List Value} {off : Nat}, LiC F sz (RoR sz R) xs l → q2v F b off xs → TrM F sz R (q1s l) b off
 | [], xs, off, _, _ => trivial
 | x :: r, xs, off, ⟨cs, ys, h1, h2, ⟨c0, v, h3, h4, h5, ao, cap, h6, h7, h8⟩, h9⟩, hc => by
  subst h1; subst h3; subst h6
  refine ⟨⟨c0, ao, cap, h5, h4, fun j u hj => hc j u ?_, h7, h8⟩, qli h9 fun j u hj => ?_⟩
  ·rw [List.getElem?_append_left (List.getElem?_eq_some_iff.1 hj).1]; exact hj
  ·have := hc (sz + j) u (by rw [List.getElem?_append_right (by omega), show sz + j - (c0 ++ [Value.slice ao x.2.len cap]).length = j by omega]; exact hj)
   rw [Nat.add_assoc]; exact this
theorem q8c {α : Type} {sz : Nat} {R : q01 → α → List Value → Prop} {F : q01} {v : Value} {l : List (α × q1d α)} (h : LiM F sz (RoR sz R) v l) : TrS F sz R v (q1s l) := by
 obtain ⟨ao, cap, xs, rfl, h1, h2⟩ := h.flat
 obtain ⟨_, _, e, h3, _⟩ := h
 cases e
 refine ⟨ao, cap, by rw [q2j], ⟨by rw [q2j]; exact h3.1, by rw [q2j]; exact h3.2⟩, fun hp => ?_⟩
 obtain ⟨b, o, e, h4⟩ := h2 (by rw [q2j] at hp; exact hp)
 exact ⟨b, o, e, qli h1 h4⟩
instance {α : Type} {sz : Nat} {R : q01 → α → List Value → Prop} [hR : Mon R] : Mon (RoR sz R) := ⟨fun hF ⟨cs, v, h1, h2, h3, h4⟩ => ⟨cs, v, h1, h2, hR.h hF h3, h4.mono hF⟩⟩
def kids {α : Type} : q1d α → List (α × q1d α)
 | .nil => []
 | .cons a L r => (a, L) :: kids r
theorem q9s {α : Type} : ∀ l : q1d α, q1s (kids l) = l
 | .nil => rfl
 | .cons a L r => by show q1d.cons a L (q1s (kids r)) = _; rw [q9s r]
theorem q6a {α : Type} : ∀ l : List (α × q1d α), kids (q1s l) = l
 | [] => rfl
 | x :: r => by show (x.1, x.2) :: kids (q1s r) = _; rw [q6a r]
theorem q2w {α : Type} : ∀ l : q1d α, (kids l).length = l.len
 | .nil => rfl
 | .cons a L r => by show (kids r).length + 1 = r.len + 1; rw [q2w r]
theorem q6z {α : Type} : ∀ (l : q1d α) (k : Nat), (kids l)[k]? = l.get? k
 | .nil, k => by show ([] : List (α × q1d α))[k]? = none; simp
 | .cons a L r, 0 => rfl
 | .cons a L r, k + 1 => by show ((a, L) :: kids r)[k + 1]? = r.get? k; rw [List.getElem?_cons_succ, q6z r k]
theorem qcq {α : Type} {sz : Nat} {R : q01 → α → List Value → Prop} {F : q01} {v : Value} {l : q1d α} (h : LiM F sz (RoR sz R) v (kids l)) : TrS F sz R v l := by
 have := q8c h
 rwa [q9s] at this
def qlk (p : Nat → Bool) : Nat → Nat → Int
 | _, 0 => -1
 | k, m + 1 => if p k = true then (k : Int) else qlk p (k + 1) m
def qyo (p : Nat → Bool) (n : Nat) : Int := qlk p 0 n
def qx1 (p : Nat → Bool) (n : Nat) : Bool := decide (0 ≤ qyo p n)
theorem qd9 {p : Nat → Bool} {k n : Nat} (hk : k < n) : qlk p k (n - k) = if p k = true then (k : Int) else qlk p (k + 1) (n - (k + 1)) := by
 rw [show n - k = (n - (k + 1)) + 1 by omega]; rfl
theorem qj4 {p : Nat → Bool} {k n : Nat} (hk : n ≤ k) : qlk p k (n - k) = -1 := by rw [Nat.sub_eq_zero_of_le hk]; rfl
theorem qf0 {p : Nat → Bool} : ∀ (m k : Nat), (∃ j, k ≤ j ∧ j < k + m ∧ p j = true ∧ (∀ i, k ≤ i → i < j → p i = false) ∧ qlk p k m = (j : Int)) ∨ ((∀ j, k ≤ j → j < k + m → p j = false) ∧ qlk p k m = -1)
 | 0, k => .inr ⟨fun j h1 h2 => by omega, rfl⟩
 | m + 1, k => by
  by_cases h : p k = true
  ·exact .inl ⟨k, Nat.le_refl _, by omega, h, fun i h1 h2 => by omega, by show (if p k = true then (k : Int) else _) = _; rw [if_pos h]⟩
  ·have e : qlk p k (m + 1) = qlk p (k + 1) m := by show (if p k = true then (k : Int) else _) = _; rw [if_neg h]
   have hf : p k = false := by simpa using h
   rcases qf0 (p := p) m (k + 1) with ⟨j, h1, h2, h3, h4, h5⟩ | ⟨h1, h2⟩
   ·refine .inl ⟨j, by omega, by omega, h3, fun i h6 h7 => ?_, by rw [e]; exact h5⟩
    by_cases h8 : i = k
    ·subst h8; exact hf
    ·exact h4 i (by omega) h7
   ·refine .inr ⟨fun j h3 h4 => ?_, by rw [e]; exact h2⟩
    by_cases h8 : j = k
    ·subst h8; exact hf
    ·exact h1 j (by omega) (by omega)
theorem qow (p : Nat → Bool) (n : Nat) : (∃ j, j < n ∧ p j = true ∧ (∀ i, i < j → p i = false) ∧ qyo p n = (j : Int)) ∨ ((∀ j, j < n → p j = false) ∧ qyo p n = -1) := by
 rcases qf0 (p := p) n 0 with ⟨j, h1, h2, h3, h4, h5⟩ | ⟨h1, h2⟩
 ·exact .inl ⟨j, by omega, h3, fun i hi => h4 i (Nat.zero_le _) hi, h5⟩
 ·exact .inr ⟨fun j hj => h1 j (Nat.zero_le _) (by omega), h2⟩
theorem qe0 {p : Nat → Bool} {n : Nat} : qx1 p n = true ↔ ∃ k, k < n ∧ p k = true := by
 unfold qx1
 rw [decide_eq_true_eq]
 rcases qow p n with ⟨j, h1, h2, h3, h4⟩ | ⟨h1, h2⟩
 ·rw [h4]; exact ⟨fun _ => ⟨j, h1, h2⟩, fun _ => by omega⟩
 ·rw [h2]
  exact ⟨fun h => absurd h (by decide), fun ⟨k, hk, hp⟩ => by rw [h1 k hk] at hp; cases hp⟩
theorem qoa {α : Type} {l : List α} {q : α → Bool} {p : Nat → Bool} (h : ∀ k x, l[k]? = some x → p k = q x) : qx1 p l.length = l.any q := by
 rw [Bool.eq_iff_iff, qe0, List.any_eq_true]
 constructor
 ·rintro ⟨k, hk, hp⟩
  exact ⟨l[k], List.getElem_mem hk, by rw [← h k _ (List.getElem?_eq_getElem hk)]; exact hp⟩
 ·rintro ⟨x, hx, hq⟩
  obtain ⟨k, hk, rfl⟩ := List.mem_iff_getElem.1 hx
  exact ⟨k, hk, by rw [h k _ (List.getElem?_eq_getElem hk)]; exact hq⟩
def qrs {α : Type} (q : α → q1d α → Bool) : q1d α → Bool
 | .nil => false
 | .cons a L r => q a L || qrs q r
theorem qju {α : Type} {q : α → q1d α → Bool} : ∀ {l : q1d α}, qrs q l = true ↔ ∃ (k : Nat) (x : α × q1d α), l.get? k = some x ∧ q x.1 x.2 = true
 | .nil => ⟨fun h => (by cases h), fun ⟨k, x, h, _⟩ => (by cases h)⟩
 | .cons a L r => by
  show (q a L || qrs q r) = true ↔ _
  rw [Bool.or_eq_true, qju (l := r)]
  constructor
  ·intro hh
   rcases hh with h | ⟨k, x, h1, h2⟩
   ·exact ⟨0, (a, L), rfl, h⟩
   ·exact ⟨k + 1, x, h1, h2⟩
  ·rintro ⟨k, x, h1, h2⟩
   cases k with
   | zero => cases h1; exact .inl h2
   | succ k => exact .inr ⟨k, x, h1, h2⟩
theorem qm9 {α : Type} {l : q1d α} {q : α → q1d α → Bool} {p : Nat → Bool} (h : ∀ k x, l.get? k = some x → p k = q x.1 x.2) : qx1 p l.len = qrs q l := by
 rw [Bool.eq_iff_iff, qe0, qju]
 constructor
 ·rintro ⟨k, hk, hp⟩
  obtain ⟨x, hx⟩ := q1d.get_lt hk
  exact ⟨k, x, hx, by rw [← h k x hx]; exact hp⟩
 ·rintro ⟨k, x, hx, hq⟩
  exact ⟨k, q1d.lt_get hx, by rw [h k x hx]; exact hq⟩
end Go.De
namespace Go.Proofs.YtbhipiepfclneaaGreatDoor
open Go Go.Wk Go.Un Go.De
attribute [local irreducible] Go.wpList Go.Code.wp Go.wpStill Go.Wk.q26 Go.bodyPost Go.Calls Go.Wk.Ct Go.Wk.q0u Go.Wk.wpG Go.Wk.wpM
def VaC (F : q01) (cs : List Value) (h : VH) (L : Vf) : Prop := ∃ v, cs = [.int .u8 (h.k : Int), .int .i64 h.n, .string (bs h.s), v] ∧ TrS F 4 VhR v L ∧ h.s.length ≤ 140737488355328
theorem VaC.mono {F F' : q01} {cs : List Value} {h : VH} {L : Vf} (hF : ∀ b o, F b = some o → F' b = some o) (hv : VaC F cs h L) : VaC F' cs h L := by
 obtain ⟨v, h1, h2, h3⟩ := hv
 exact ⟨v, h1, h2.mono hF, h3⟩
theorem qn1 {F : q01} {cs : List Value} {h : VH} {L : Vf} (hv : VaC F cs h L) : RoR 4 VhR F (h, L) cs := by
 obtain ⟨v, rfl, h2, h3⟩ := hv
 exact ⟨[.int .u8 (h.k : Int), .int .i64 h.n, .string (bs h.s)], v, rfl, rfl, ⟨rfl, h3⟩, h2⟩
theorem q6d {F : q01} {cs : List Value} {x : VH × Vf} (hv : RoR 4 VhR F x cs) : VaC F cs x.1 x.2 := by
 obtain ⟨c, v, rfl, h1, ⟨rfl, h2⟩, h3⟩ := hv
 exact ⟨v, rfl, h3, h2⟩
section
variable {P : Program} {n : Sz} {L : List (Nat × Value)} {w0 : World} {F0 : q01} {K0 : List Nat} {F : q01} {G : List Grp} {a : Act} {w : World} {o : Oper}
theorem qnc {x y : Operand} {p q : Int} {k : IntKind} {ts : Array TypeId} (S : St n L w0 F0 K0 F G a w) (ho : o.op = .call { callee := .builtin .max, args := #[x, y], argTypes := ts }) (hx : ev L x = some (.int k p)) (hy : ev L y = some (.int k q)) :
  SV P o a w (.int k (max p q)) := by
 have e : (if q > p then q else p) = max p q := by split <;> omega
 unfold SV execOp
 rw [ho]
 simp [resolve, invoke, builtin, S.fr.eval hx, S.fr.eval hy, Builtin.max_, Builtin.max2]
 rw [← e]
end
theorem qsj (s : List UInt8) : (q90 s).length ≤ s.length := by
 unfold q90 Lib.trimPrefix
 split
 ·simp
 ·exact Nat.le_refl _
theorem qz2 {s : List UInt8} (h : q30 s = false) : Value.tuple ⟨[.int .i64 (qeq s), .bool (q30 s)]⟩ = Value.tuple ⟨[.int .i64 0, .bool false]⟩ := by
 have : qeq s = 0 := by unfold qeq; rw [h, if_neg Bool.false_ne_true]
 rw [this, h]
theorem qyc {s : List UInt8} (h : q90 s = []) : Value.tuple ⟨[.int .i64 (qeq s), .bool (q30 s)]⟩ = Value.tuple ⟨[.int .i64 0, .bool false]⟩ := qz2 (by unfold q30; simp [h])
theorem qwu {s : List UInt8} (h : ¬ Lib.trimS (q90 s) qfw = []) : Value.tuple ⟨[.int .i64 (qeq s), .bool (q30 s)]⟩ = Value.tuple ⟨[.int .i64 0, .bool false]⟩ := qz2 (by unfold q30; simp [h])
theorem qys {s : List UInt8} (h : ((q90 s).getD 0 0).toNat = 48) (h2 : ¬ s = [48]) : Value.tuple ⟨[.int .i64 (qeq s), .bool (q30 s)]⟩ = Value.tuple ⟨[.int .i64 0, .bool false]⟩ := qz2 (by unfold q30; rw [decide_eq_true h]; simp [h2])
theorem qog {s : List UInt8} (h1 : ¬ q90 s = []) (h2 : Lib.trimS (q90 s) qfw = []) (h3 : ¬ ((q90 s).getD 0 0).toNat = 48 ∨ s = [48]) : Value.tuple ⟨[.int .i64 (qeq s), .bool (q30 s)]⟩ = Value.tuple ⟨[.int .i64 ((q90 s).length : Int), .bool true]⟩ := by
 have h : q30 s = true := by
  unfold q30
  rcases h3 with h3 | h3
  ·rw [decide_eq_false h3]; simp [h1, h2]
  ·simp [h1, h2, h3]
   rw [h3] at h1 h2
   exact ⟨h1, h2⟩
 have : qeq s = ((q90 s).length : Int) := by unfold qeq; rw [h, if_pos rfl]
 rw [this, h]
theorem qen {p : Prop} (h : p := by (first | (exact (qyc (by assumption)).symm) | (exact (qwu (by assumption)).symm) | (exact (qys (by omega) (by assumption)).symm) | (exact (qog (by assumption) (by assumption) (.inr (by assumption))).symm) | (exact (qog (by assumption) (by assumption) (.inl (by omega))).symm))) : p := h
theorem qrv (F : q01) (s : List UInt8) (hb : s.length ≤ 140737488355328) : Ct Tryz.prog 125 [.string (bs s)] F [] (fun _ _ u => u = .tuple ⟨[.int .i64 (qeq s), .bool (q30 s)]⟩) := by
 have hbd := qsj s
 refine Ct.enter Tryz.func125 rfl Tryz.ntmps125 rfl fun w0 a S => ?_
 revert a; refine go 7 ?_; intro Z hZ a S
 (refine wc0 S (qes F s) ?_; clear S a; intro v a w hv S; subst hv)
 revert a; revert Z; refine go 8 ?_; intro Z hZ Z hZ a S
 refine wgd S ?_ ?_
 ·(clear S; intro h S)
  revert a; refine go 2 ?_; intro a S
  (refine wc0 S (qy8 F (q90 s) (by omega)) ?_; clear S a; intro v a w hv S; subst hv)
  revert a; refine go 4 ?_; intro a S
  refine wgd S ?_ ?_
  ·(clear S; intro h S)
   revert a; refine go 2 ?_; intro a S
   (refine wv S (q07 (i := 0) S rfl rfl rfl (by first | omega | (have h9 : 0 < (q90 s).length := List.length_pos_iff.2 (by assumption); omega))) ?_; clear S a; intro a S)
   revert a; refine go 4 ?_; intro a S
   refine wgd S ?_ ?_
   ·(clear S; intro h S)
    revert a; revert Z; refine go 8 ?_; intro a S
    refine q00 S rfl ?_ ?_ <;> intro h
    ·revert a; refine go 5 ?_; intro a S
     refine wp_ret (fr2 S Tryz.results125 ?_)
     exact qen
    revert a; revert Z; refine go 9 ?_; intro a S
    refine wp_ret (fr2 S Tryz.results125 ?_)
    exact qen
   (clear S a; intro h a S)
   revert a; revert Z; refine go 6 ?_; intro a S
   refine q03 S rfl ?_
   revert a; revert Z; refine go 9 ?_; intro a S
   refine wp_ret (fr2 S Tryz.results125 ?_)
   exact qen
  (clear S a; intro h a S)
  revert a; revert Z; refine go 9 ?_; intro a S
  refine q0h S rfl ?_
  revert a; refine go 5 ?_; intro a S
  refine wp_ret (fr2 S Tryz.results125 ?_)
  exact qen
 (clear S a; intro h a S)
 revert a; revert Z; refine go 14 ?_; intro a S
 refine q0h S rfl ?_
 revert a; refine go 5 ?_; intro a S
 refine wp_ret (fr2 S Tryz.results125 ?_)
 exact qen
theorem qvj {p : Prop} (h : p := by (congr 1; rw [← hs]; first | (rw [q1d.drop_len (by omega)]; rfl) | (rw [hdr, q45, if_pos (by omega)]))) : p := h
theorem u3l (F : q01) : ∀ (n : Nat) (h : VH) (L : Vf) (cs : List Value) (mo : Int), L.size ≤ n → mo ≤ 100 → -9223372036854775000 ≤ mo → VaC F cs h L → Ct Tryz.prog 84 [.agg ⟨cs⟩, .int .i64 mo] F [] (fun _ _ u => u = .int .i64 (qao L 0 mo + 1)) := by
 intro n
 induction n using Nat.strongRecOn with
 | _ n ih =>
 intro h L cs mo hn hm1 hm0 hV
 obtain ⟨v, rfl, ⟨ao, cap, rfl, hcap, hpos⟩, hsb⟩ := hV
 have hbd := q67 L 0 mo (Int.le_refl _)
 have hbx := q93 L 0 mo (Int.le_refl _)
 refine Ct.enter Tryz.func84 rfl Tryz.ntmps84 rfl fun w0 a S => ?_
 refine q1i fun Z hZ => ?_
 (refine wbx S ?_; clear S a; intro b2 a w S)
 revert a; revert Z; refine go 16 ?_; intro Z hZ a S
 refine q04 (fun m a w' => ∃ (k : Nat) (p : Int), m = L.len - k ∧ k ≤ L.len ∧ qao (L.drop k) p mo = qao L 0 mo ∧ 0 ≤ p ∧ St 27 [(1, .int .i64 mo), (2, ptr b2), (5, .int .i64 p), (9, .slice ao L.len cap), (10, .int .i64 L.len), (11, .int .i64 k)] w0 F [] F [[(b2, .cells ⟨[.int .u8 (h.k : Int), .int .i64 h.n, .string (bs h.s), .slice ao L.len cap]⟩ 45 (0, 0))]] a w') ?_ ?_
 ·(refine ⟨L.len, 0, 0, by omega, Nat.zero_le _, rfl, Int.le_refl _, ?_⟩; refine S.keep ?_; exact zk)
 (clear S; rintro m a w ⟨k, p, rfl, hkl, hs, hp, S⟩; have hb2 := q67 (L.drop k) p mo hp; rw [hs] at hb2)
 revert a; refine go 5 ?_; intro Z hZ a S
 refine q00 S rfl ?_ ?_ <;> intro h
 ·revert a; revert Z; refine go 4 ?_; intro Z hZ a S
  (refine wp_seq_k ?_; intro Z hZ)
  (obtain ⟨b8, o8, hao, x, cs1, v1, hx, hc1, hw9, hT1⟩ := TrM.pos hpos (k := k) (by omega); rw [hao] at S; have hxs := q1d.size_get hx; have hdr := q1d.drop_get hx; have hT1c := hT1; obtain ⟨a91, c91, rfl, -⟩ := hT1c; have hb3 := q67 x.2 0 (mo - 1) (Int.le_refl _); have hb4 := q93 x.2 0 (mo - 1) (Int.le_refl _); have hw9c := hw9.1; subst hw9c; (simp only [List.cons_append, qaG] at hc1))
  revert a; refine go 3 ?_; intro a S
  (refine q0a S rfl rfl rfl rfl ?_; clear S a; intro b7 a w S)
  (refine wso S rfl rfl ?_; clear S; intro w S)
  revert a; revert Z; refine go 9 ?_; intro Z hZ a S
  refine q00 S rfl ?_ ?_ <;> intro h
  ·(refine wp_exit ?_; conv => whnf)
   clear hZ Z
   clear hZ Z
   revert a; revert Z; refine go 7 ?_; intro a S
   refine wp_ret (fr1 S Tryz.results84 ?_)
   exact qvj
  revert a; revert Z; refine go 7 ?_; intro a S
  (refine wc0 S (ih x.2.size (by omega) x.1 x.2 _ (mo - 1) (Nat.le_refl _) (by omega) (by omega) ⟨_, rfl, hT1, hw9.2⟩) ?_; clear S a; intro v a w hv S; subst hv)
  (refine wv S (qnc S rfl rfl rfl) ?_; clear S a; intro a S)
  revert a; revert Z; refine go 7 ?_; intro a S
  change ∃ m', _ ∧ _
  (rw [← hao] at S; replace S := S.drop1; refine ⟨L.len - (k + 1), by omega, k + 1, max p (qao x.2 0 (mo - 1) + 1), rfl, by omega, ?_, ?_, ?_⟩; rotate_left 2; (refine S.keep ?_; exact zk); (rw [← hs, hdr, q45, if_neg (by omega)]); omega)
 (refine wp_exit ?_; conv => whnf)
 clear hZ Z
 revert a; revert Z; refine go 7 ?_; intro a S
 refine wp_ret (fr1 S Tryz.results84 ?_)
 exact qvj
