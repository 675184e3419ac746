/- Walks. -/
import Derived.Test.YtbhipiepfclneaaGreatDoorKGroupPlays07
set_option maxHeartbeats 32000000
set_option maxRecDepth 20000
namespace Go.Proofs.YtbhipiepfclneaaGreatDoor
open Go Go.Wk Go.Un Go.De Go.Num
set_option linter.unusedSimpArgs false
set_option linter.unusedVariables false
attribute [local irreducible] Go.wpList Go.Code.wp Go.wpStill Go.Wk.q26 Go.bodyPost Go.Calls Go.Wk.Ct Go.Wk.q0u Go.Wk.wpG Go.Wk.wpM
theorem qwo {p : Prop} (h : p := by (first | exact qmz h0 | exact qpv h0 hx hown hO9.r | exact qpg hM hown hxs hMa hMb hla hlb)) : p := h
theorem qk1 {p : Prop} (h : p := by (rw [← hao] at S; first | (exfalso; omega) | (have hM2 := qy9 hSa hSb hM hcq (by omega) hx9; refine ⟨(A.length - (i + 1)) + (B.length - (k + 1)), by have := hM2.2; omega, i + 1, k + 1, _, _, _, O ++ [x], rfl, hM2.1, (by rw [qaA]; exact hown), LiC.app hxs (LiC.one rfl ⟨_, rfl, TrS.mono hgdA hT1⟩), ?_⟩; (refine S.keep ?_; exact zk); done) | (have hM2 := u5d hSa hM hcq (by omega) hx9; refine ⟨(A.length - (i + 1)) + (B.length - k), by omega, i + 1, k, _, _, _, O ++ [x], rfl, hM2, (by rw [qaA]; exact hown), LiC.app hxs (LiC.one rfl ⟨_, rfl, TrS.mono hgdA hT1⟩), ?_⟩; (refine S.keep ?_; exact zk); done) | (have hM2 := u5e hSb hM hcq (by omega) hy9; refine ⟨(A.length - i) + (B.length - (k + 1)), by omega, i, k + 1, _, _, _, O ++ [y], rfl, hM2, (by rw [qaA]; exact hown), LiC.app hxs (LiC.one rfl ⟨_, rfl, TrS.mono hgdB hT1⟩), ?_⟩; (refine S.keep ?_; exact zk); done))) : p := h
theorem qk4 {p : Prop} (h : p := by (first | (exfalso; omega) | (rw [← hao, ← hao2] at S; exact ⟨_, u0z hSa hSb hx hy hxw.2.1 hyw.2.1, by (refine S.keep ?_; exact zk)⟩) | (exact ⟨1, u3j (by omega) (by omega), by (refine S.keep ?_; exact zk)⟩) | (exact ⟨-1, qx3 (by omega) (by omega), by (refine S.keep ?_; exact zk)⟩))) : p := h
theorem qx7 : ∀ (q : Nat) (F : q01) (rows : List Vf) (v : Value), rows.length < q → rows.length ≤ 100000 → (∀ r ∈ rows, Rw1 r) → LiM F 1 RwR v rows → Ct Tryz.prog 46 [v] F [] (fun _ G' u => qmd rows G' u) := by
  intro q
  induction q with
  | zero => intro F rows v h; omega
  | succ q ih =>
  intro F rows v hq hl hrw hv
  obtain ⟨ao, cap, rfl, hcap, hps⟩ := id hv
  refine Ct.enter Tryz.func46 rfl Tryz.ntmps46 rfl fun w0 a S => ?_
  revert a; refine go 11 ?_; intro Z hZ a S
  refine q00 S rfl ?_ ?_ <;> intro h
  · revert a; refine go 4 ?_; intro a S
    refine wp_ret ?_
    (first | (refine (show rows.length = 0 → _ from fun h0 => ?_) (by omega); replace S := S.nilg.nilg) | (refine (show rows.length = 1 → _ from fun h0 => ?_) (by omega)) | (refine (show i = A.length ∧ k = B.length → _ from fun h0 => ?_) ⟨by omega, by omega⟩; obtain ⟨rfl, rfl⟩ := h0))
    refine q08 S (q0c Tryz.results46 (RV.tmp S rfl)) ?_
    exact qwo
  revert a; revert Z; refine go 9 ?_; intro Z hZ a S
  refine q00 S rfl ?_ ?_ <;> intro h
  · (refine wp_seq_k ?_; intro Z hZ)
    (obtain ⟨b8, o8, hao, r, cs1, hx, hcc, y, rfl, hT1⟩ := LiM.pos hps (k := 0) (by omega); have hrr := hrw r (List.mem_of_getElem? hx); rw [hao] at S)
    revert a; refine go 3 ?_; intro a S
    (refine wv S (q05 S rfl rfl (hcc 0 _ rfl)) ?_; clear S a; intro a S)
    (refine q17 S rfl rfl rfl rfl rfl rfl (q68 (r.size + 1) F r y (Nat.lt_succ_self _) (by have := hrr.2.2.2; omega) hT1) rfl ?_; clear S a; intro u9 G9 a w hv9 S; obtain ⟨g9, rfl, hO9⟩ := hv9; (simp only [List.singleton_append] at S); obtain ⟨aU, cU, rfl, -⟩ := id hO9.r)
    (refine q0d S rfl rfl rfl rfl rfl rfl (by rfl) (by simp [Value.cells, splice, splice]) rfl (by rfl) (by rfl) ?_; clear S a; intro b19 a w hown S)
    revert a; revert Z; refine go 3 ?_; intro a S
    refine wp_ret ?_
    (first | (refine (show rows.length = 0 → _ from fun h0 => ?_) (by omega); replace S := S.nilg.nilg) | (refine (show rows.length = 1 → _ from fun h0 => ?_) (by omega)) | (refine (show i = A.length ∧ k = B.length → _ from fun h0 => ?_) ⟨by omega, by omega⟩; obtain ⟨rfl, rfl⟩ := h0))
    refine q08 S (q0c Tryz.results46 (RV.tmp S rfl)) ?_
    exact qwo
  refine wp_skip ?_
  (refine hZ _ _ ?_; clear hZ Z)
  (refine wp_seq_k ?_; intro Z hZ)
  (refine q0k [0, 1, 2, 3, 4, 6, 7, 8, 9, 10] [] [] (.one 0 (.one 1 (.one 2 (.one 3 (.one 4 (.one 6 (.one 7 (.one 8 (.one 9 (.one 10 (.one 5 (.one 11 (.one 12 (.one 13 .nil)))))))))))))) [] S mixed (by kernel_rfl) ?_; clear S; intro w S)
  revert a; refine go 3 ?_; intro a S
  (refine q19 S rfl rfl rfl (q06 _ rfl) rfl rfl (fun w' S => q5n S rfl rfl rfl (by first | omega | (simp only [qaA, qaC, qaD]; omega))) ?_; clear S a; intro a S)
  (rw [show ((rows.length : Int) / 2) = ((rows.length / 2 : Nat) : Int) by omega] at S)
  (refine q19 S rfl rfl rfl (q06 _ rfl) rfl rfl (fun w' S => q5b S rfl rfl rfl (by omega)) ?_; clear S a; intro a S)
  revert a; refine go 3 ?_; intro a S
  (refine q19 S rfl rfl rfl (q06 _ rfl) rfl rfl (fun w' S => q5n S rfl rfl rfl (by first | omega | (simp only [qaA, qaC, qaD]; omega))) ?_; clear S a; intro a S)
  (rw [show ((rows.length : Int) / 2) = ((rows.length / 2 : Nat) : Int) by omega] at S)
  (refine q19 S rfl rfl rfl (q06 _ rfl) rfl rfl (fun w' S => q2l S rfl rfl rfl (by omega)) ?_; clear S a; intro a S)
  refine q1q rfl rfl (kwa S) ?_
  (refine q17 S rfl rfl rfl rfl rfl rfl (ih F (rows.take (rows.length / 2)) _ (by rw [qaI]; omega) (by rw [qaI]; omega) (fun r hr => hrw r (List.mem_of_mem_take hr)) (qto hv (by omega))) rfl ?_; clear S a; intro uA GA a w hvA S; obtain ⟨A, ga, gda, xa, rfl, hOa, hLa, hSa, hMa, hla⟩ := hvA; (simp only [List.cons_append, qaG] at S))
  revert a; refine go 2 ?_; intro a S
  (refine q17 S rfl rfl rfl rfl rfl rfl (ih F (rows.drop (rows.length / 2)) _ (by rw [qaJ]; omega) (by rw [qaJ]; omega) (fun r hr => hrw r (List.mem_of_mem_drop hr)) (qri hv (by omega))) rfl ?_; clear S a; intro uB GB a w hvB S; obtain ⟨B, gb, gdb, xb, rfl, hOb, hLb, hSb, hMb, hlb⟩ := hvB; (simp only [List.cons_append, qaG] at S))
  revert a; revert Z; refine go 9 ?_; intro a S
  (refine wp_seq_k ?_; intro Z hZ)
  (obtain ⟨F3, hF3, hgA, hgB, hndd, S2⟩ := u1y S; replace S := S2; clear S2; have hAl : A.length ≤ rows.length := (by rw [qaI] at hla; omega); have hBl : B.length ≤ rows.length := (by rw [qaJ] at hlb; omega); have hAw : ∀ r ∈ A, Rw1 r := (fun r hr => hrw r (List.mem_of_mem_take ((hMa r).1 hr))); have hBw : ∀ r ∈ B, Rw1 r := (fun r hr => hrw r (List.mem_of_mem_drop ((hMb r).1 hr))); have hLA := quf hOa hgA hLa (by omega); have hLB := quf hOb hgB hLb (by omega); obtain ⟨aA, cA, rfl, hcA, hpA⟩ := hLA; obtain ⟨aB, cB, rfl, hcB, hpB⟩ := hLB; have hgdA : ∀ b o, gh gda b = some o → gh (gda ++ gdb) b = some o := (fun b o h => q5i h); have hgdB : ∀ b o, gh gdb b = some o → gh (gda ++ gdb) b = some o := (fun b o h => q4u hndd h); have hled : ∀ b o, gh (gda ++ gdb) b = some o → F3.add (gda ++ gdb) b = some o := (fun b o h => q01.add_new (p := (b, o)) (q5e h) hndd); generalize gda ++ gdb = gd at *)
  revert a; revert Z; refine go 11 ?_; intro Z hZ a S
  refine q04 (fun m a w' => ∃ (i k : Nat) (v : Value) (g : Grp) (xs : List Value) (O : List Vf), m = (A.length - i) + (B.length - k) ∧ Mg A B i k O ∧ q0u 32 1 v O.length xs g ∧ LiC (gh gd) 1 RwR xs O ∧ St 82 [(3, .slice aA A.length cA), (4, .slice aB B.length cB), (5, v), (6, .int .i64 (i : Int)), (7, .int .i64 (k : Int))] w0 F [] F3 [g, gd] a w') ?_ ?_
  · (refine ⟨_, 0, 0, .slice none 0 0, [], [], [], rfl, Mg.nil A B, q0u.nil _ _, rfl, ?_⟩; replace S := S.nilg; refine S.keep ?_; exact zk)
  (clear S; rintro m a w ⟨i, k, v, g, xs, O, rfl, hM, hown, hxs, S⟩; have hi9 := hM.ile; have hk9 := hM.kle; have hO9 := hM.len)
  revert a; refine go 7 ?_; intro Z hZ Z hZ a S
  refine wgd S ?_ ?_
  · (clear S; intro h S)
    revert a; revert Z; refine go 10 ?_; intro a S
    refine q00 S rfl ?_ ?_ <;> intro h
    · revert a; revert Z; refine go 7 ?_; intro a S
      (refine wp_seq_k ?_; intro Z hZ)
      replace hZ : ∀ (a' : Act) (w' : World), (∃ (c : Int), CQ A B i k c ∧ St 82 [(3, .slice aA A.length cA), (4, .slice aB B.length cB), (5, v), (6, .int .i64 (i : Int)), (7, .int .i64 (k : Int)), (8, .int .i64 c)] w0 F [] F3 [g, gd] a' w') → Z a' w' := (by
       (intro a w hM; refine hZ _ _ ?_; clear hZ Z; clear S; obtain ⟨c, hcq, S⟩ := hM)
       revert a; refine go 6 ?_; intro Z hZ a S
       refine q00 S rfl ?_ ?_ <;> intro h
       · (refine wp_seq_k ?_; intro Z hZ)
         (obtain ⟨x, hx9⟩ := u8j hcq (by omega); obtain ⟨b8, o8, hao, x', cs1, hx, hcc, y1, rfl, hT1⟩ := LiM.pos hpA (k := i) (List.getElem?_eq_some_iff.1 hx9).1; rw [hx9] at hx; cases hx; obtain ⟨aY, cY, rfl, -⟩ := id hT1; rw [hao] at S; have hil := (List.getElem?_eq_some_iff.1 hx9).1)
         revert a; refine go 5 ?_; intro a S
         (refine wv S (q05 S rfl rfl (hcc 0 _ rfl)) ?_; clear S a; intro a S)
         (refine q0s S rfl rfl rfl rfl rfl rfl rfl rfl rfl rfl rfl (fun _ => rfl) hown (by rfl) (by simp [Value.cells, splice, splice]) (by simp [Value.cells, Value.oneCell', splice, splice]) rfl (by rfl) (by rfl) rfl (by omega) (by omega) ?_; clear hown S a; intro v u g a w hown S)
         revert a; revert Z; revert Z; refine go 14 ?_; intro a S
         refine q00 S rfl ?_ ?_ <;> intro h
         · revert a; refine go 5 ?_; intro a S
           change ∃ m', _ ∧ _
           exact qk1
         refine wp_skip ?_
         change ∃ m', _ ∧ _
         exact qk1
       (obtain ⟨y, hy9⟩ := u6x hcq (by omega); obtain ⟨b8, o8, hao, y', cs1, hy, hcc, y1, rfl, hT1⟩ := LiM.pos hpB (k := k) (List.getElem?_eq_some_iff.1 hy9).1; rw [hy9] at hy; cases hy; obtain ⟨aY, cY, rfl, -⟩ := id hT1; rw [hao] at S; have hkl := (List.getElem?_eq_some_iff.1 hy9).1)
       revert a; refine go 5 ?_; intro a S
       (refine wv S (q05 S rfl rfl (hcc 0 _ rfl)) ?_; clear S a; intro a S)
       (refine q0s S rfl rfl rfl rfl rfl rfl rfl rfl rfl rfl rfl (fun _ => rfl) hown (by rfl) (by simp [Value.cells, splice, splice]) (by simp [Value.cells, Value.oneCell', splice, splice]) rfl (by rfl) (by rfl) rfl (by omega) (by omega) ?_; clear hown S a; intro v u g a w hown S)
       revert a; revert Z; refine go 8 ?_; intro a S
       refine q00 S rfl ?_ ?_ <;> intro h
       · revert a; refine go 5 ?_; intro a S
         change ∃ m', _ ∧ _
         exact qk1
       refine wp_skip ?_
       change ∃ m', _ ∧ _
       (rw [← hao] at S; first | (exfalso; omega) | (have hM2 := qy9 hSa hSb hM hcq (by omega) hx9; refine ⟨(A.length - (i + 1)) + (B.length - (k + 1)), by have := hM2.2; omega, i + 1, k + 1, _, _, _, O ++ [x], rfl, hM2.1, (by rw [qaA]; exact hown), LiC.app hxs (LiC.one rfl ⟨_, rfl, TrS.mono hgdA hT1⟩), ?_⟩; (refine S.keep ?_; exact zk); done) | (have hM2 := u5d hSa hM hcq (by omega) hx9; refine ⟨(A.length - (i + 1)) + (B.length - k), by omega, i + 1, k, _, _, _, O ++ [x], rfl, hM2, (by rw [qaA]; exact hown), LiC.app hxs (LiC.one rfl ⟨_, rfl, TrS.mono hgdA hT1⟩), ?_⟩; (refine S.keep ?_; exact zk); done) | (have hM2 := u5e hSb hM hcq (by omega) hy9; refine ⟨(A.length - i) + (B.length - (k + 1)), by omega, i, k + 1, _, _, _, O ++ [y], rfl, hM2, (by rw [qaA]; exact hown), LiC.app hxs (LiC.one rfl ⟨_, rfl, TrS.mono hgdB hT1⟩), ?_⟩; (refine S.keep ?_; exact zk); done)))
      revert a; refine go 7 ?_; intro a S
      refine q00 S rfl ?_ ?_ <;> intro h
      · revert a; refine go 3 ?_; intro a S
        (refine hZ _ _ ?_)
        exact qk4
      revert a; refine go 7 ?_; intro a S
      refine q00 S rfl ?_ ?_ <;> intro h
      · (obtain ⟨b8, o8, hao, x, cs1, hx, hcc, y1, rfl, hT1⟩ := LiM.pos hpA (k := i) (by omega); obtain ⟨b9, o9, hao2, y, cs2, hy, hcc2, y2, rfl, hT2⟩ := LiM.pos hpB (k := k) (by omega); rw [hao, hao2] at S; have hxw := hAw x (List.mem_of_getElem? hx); have hyw := hBw y (List.mem_of_getElem? hy))
        (refine q0k [0, 1, 2, 3, 4, 5, 6, 7] [3, 7] [] (.one 0 (.one 1 (.one 2 (.one 3 (.one 4 (.one 5 (.one 6 (.one 7 (.one 8 (.one 9 .nil)))))))))) [] S mixed (by kernel_rfl) ?_; clear S; intro w S)
        revert a; refine go 3 ?_; intro a S
        (refine wlF S rfl (fun w' S => q05 S rfl rfl (hcc 0 _ rfl)) ?_; clear S a; intro a S)
        revert a; refine go 3 ?_; intro a S
        (refine wlF S rfl (fun w' S => q05 S rfl rfl (hcc2 0 _ rfl)) ?_; clear S a; intro a S)
        refine q1q rfl rfl (kwa S) ?_
        (refine q02 (Gs := [gd]) (Gr := [g]) S rfl rfl rfl rfl rfl rfl (Ct.lend (qbo (F3.add gd) x y y1 y2 hxw.2.2.1 hyw.2.2.1 (TrS.mono (fun b o h => hled b o (hgdA b o h)) hT1) (TrS.mono (fun b o h => hled b o (hgdB b o h)) hT2) hxw.1 hyw.1 hxw.2.1 hyw.2.1)) rfl (by simpa using List.perm_append_comm) ?_; clear S a; intro v9 G9 a w hv9 S; obtain ⟨rfl, rfl⟩ := hv9; replace S := qaq S)
        revert a; refine go 5 ?_; intro a S
        (refine hZ _ _ ?_)
        exact qk4
      refine wp_skip ?_
      (refine hZ _ _ ?_)
      exact qk4
    (refine wp_exit ?_; conv => whnf)
    clear hZ Z
    revert a; revert Z; refine go 6 ?_; intro a S
    refine wp_ret ?_
    (first | (refine (show rows.length = 0 → _ from fun h0 => ?_) (by omega); replace S := S.nilg.nilg) | (refine (show rows.length = 1 → _ from fun h0 => ?_) (by omega)) | (refine (show i = A.length ∧ k = B.length → _ from fun h0 => ?_) ⟨by omega, by omega⟩; obtain ⟨rfl, rfl⟩ := h0))
    refine q08 S (q0c Tryz.results46 (RV.tmp S rfl)) ?_
    exact qwo
  (clear S a; intro h a S)
  revert a; revert Z; refine go 6 ?_; intro a S
  refine q0h S rfl ?_
  revert a; revert Z; refine go 7 ?_; intro a S
  (refine wp_seq_k ?_; intro Z hZ)
  replace hZ : ∀ (a' : Act) (w' : World), (∃ (c : Int), CQ A B i k c ∧ St 82 [(3, .slice aA A.length cA), (4, .slice aB B.length cB), (5, v), (6, .int .i64 (i : Int)), (7, .int .i64 (k : Int)), (8, .int .i64 c)] w0 F [] F3 [g, gd] a' w') → Z a' w' := (by
   (intro a w hM; refine hZ _ _ ?_; clear hZ Z; clear S; obtain ⟨c, hcq, S⟩ := hM)
   revert a; refine go 6 ?_; intro Z hZ a S
   refine q00 S rfl ?_ ?_ <;> intro h
   · (refine wp_seq_k ?_; intro Z hZ)
     (obtain ⟨x, hx9⟩ := u8j hcq (by omega); obtain ⟨b8, o8, hao, x', cs1, hx, hcc, y1, rfl, hT1⟩ := LiM.pos hpA (k := i) (List.getElem?_eq_some_iff.1 hx9).1; rw [hx9] at hx; cases hx; obtain ⟨aY, cY, rfl, -⟩ := id hT1; rw [hao] at S; have hil := (List.getElem?_eq_some_iff.1 hx9).1)
     revert a; refine go 5 ?_; intro a S
     (refine wv S (q05 S rfl rfl (hcc 0 _ rfl)) ?_; clear S a; intro a S)
     (refine q0s S rfl rfl rfl rfl rfl rfl rfl rfl rfl rfl rfl (fun _ => rfl) hown (by rfl) (by simp [Value.cells, splice, splice]) (by simp [Value.cells, Value.oneCell', splice, splice]) rfl (by rfl) (by rfl) rfl (by omega) (by omega) ?_; clear hown S a; intro v u g a w hown S)
     revert a; revert Z; revert Z; refine go 14 ?_; intro a S
     refine q00 S rfl ?_ ?_ <;> intro h
     · revert a; refine go 5 ?_; intro a S
       change ∃ m', _ ∧ _
       exact qk1
     refine wp_skip ?_
     change ∃ m', _ ∧ _
     exact qk1
   (obtain ⟨y, hy9⟩ := u6x hcq (by omega); obtain ⟨b8, o8, hao, y', cs1, hy, hcc, y1, rfl, hT1⟩ := LiM.pos hpB (k := k) (List.getElem?_eq_some_iff.1 hy9).1; rw [hy9] at hy; cases hy; obtain ⟨aY, cY, rfl, -⟩ := id hT1; rw [hao] at S; have hkl := (List.getElem?_eq_some_iff.1 hy9).1)
   revert a; refine go 5 ?_; intro a S
   (refine wv S (q05 S rfl rfl (hcc 0 _ rfl)) ?_; clear S a; intro a S)
   (refine q0s S rfl rfl rfl rfl rfl rfl rfl rfl rfl rfl rfl (fun _ => rfl) hown (by rfl) (by simp [Value.cells, splice, splice]) (by simp [Value.cells, Value.oneCell', splice, splice]) rfl (by rfl) (by rfl) rfl (by omega) (by omega) ?_; clear hown S a; intro v u g a w hown S)
   revert a; revert Z; refine go 8 ?_; intro a S
   refine q00 S rfl ?_ ?_ <;> intro h
   · revert a; refine go 5 ?_; intro a S
     change ∃ m', _ ∧ _
     exact qk1
   refine wp_skip ?_
   change ∃ m', _ ∧ _
   (rw [← hao] at S; first | (exfalso; omega) | (have hM2 := qy9 hSa hSb hM hcq (by omega) hx9; refine ⟨(A.length - (i + 1)) + (B.length - (k + 1)), by have := hM2.2; omega, i + 1, k + 1, _, _, _, O ++ [x], rfl, hM2.1, (by rw [qaA]; exact hown), LiC.app hxs (LiC.one rfl ⟨_, rfl, TrS.mono hgdA hT1⟩), ?_⟩; (refine S.keep ?_; exact zk); done) | (have hM2 := u5d hSa hM hcq (by omega) hx9; refine ⟨(A.length - (i + 1)) + (B.length - k), by omega, i + 1, k, _, _, _, O ++ [x], rfl, hM2, (by rw [qaA]; exact hown), LiC.app hxs (LiC.one rfl ⟨_, rfl, TrS.mono hgdA hT1⟩), ?_⟩; (refine S.keep ?_; exact zk); done) | (have hM2 := u5e hSb hM hcq (by omega) hy9; refine ⟨(A.length - i) + (B.length - (k + 1)), by omega, i, k + 1, _, _, _, O ++ [y], rfl, hM2, (by rw [qaA]; exact hown), LiC.app hxs (LiC.one rfl ⟨_, rfl, TrS.mono hgdB hT1⟩), ?_⟩; (refine S.keep ?_; exact zk); done)))
  revert a; refine go 7 ?_; intro a S
  refine q00 S rfl ?_ ?_ <;> intro h
  · revert a; refine go 3 ?_; intro a S
    (refine hZ _ _ ?_)
    exact qk4
  revert a; refine go 7 ?_; intro a S
  refine q00 S rfl ?_ ?_ <;> intro h
  · (obtain ⟨b8, o8, hao, x, cs1, hx, hcc, y1, rfl, hT1⟩ := LiM.pos hpA (k := i) (by omega); obtain ⟨b9, o9, hao2, y, cs2, hy, hcc2, y2, rfl, hT2⟩ := LiM.pos hpB (k := k) (by omega); rw [hao, hao2] at S; have hxw := hAw x (List.mem_of_getElem? hx); have hyw := hBw y (List.mem_of_getElem? hy))
    (refine q0k [0, 1, 2, 3, 4, 5, 6, 7] [3, 7] [] (.one 0 (.one 1 (.one 2 (.one 3 (.one 4 (.one 5 (.one 6 (.one 7 (.one 8 (.one 9 .nil)))))))))) [] S mixed (by kernel_rfl) ?_; clear S; intro w S)
    revert a; refine go 3 ?_; intro a S
    (refine wlF S rfl (fun w' S => q05 S rfl rfl (hcc 0 _ rfl)) ?_; clear S a; intro a S)
    revert a; refine go 3 ?_; intro a S
    (refine wlF S rfl (fun w' S => q05 S rfl rfl (hcc2 0 _ rfl)) ?_; clear S a; intro a S)
    refine q1q rfl rfl (kwa S) ?_
    (refine q02 (Gs := [gd]) (Gr := [g]) S rfl rfl rfl rfl rfl rfl (Ct.lend (qbo (F3.add gd) x y y1 y2 hxw.2.2.1 hyw.2.2.1 (TrS.mono (fun b o h => hled b o (hgdA b o h)) hT1) (TrS.mono (fun b o h => hled b o (hgdB b o h)) hT2) hxw.1 hyw.1 hxw.2.1 hyw.2.1)) rfl (by simpa using List.perm_append_comm) ?_; clear S a; intro v9 G9 a w hv9 S; obtain ⟨rfl, rfl⟩ := hv9; replace S := qaq S)
    revert a; refine go 5 ?_; intro a S
    (refine hZ _ _ ?_)
    exact qk4
  refine wp_skip ?_
  (refine hZ _ _ ?_)
  exact qk4
theorem qy4 (F F2 : q01) (bx : Nat) (av v : Value) (X : List WyD) (hX : XF F F2 bx av X v) (hl : X.length ≤ 10000) (hok : ∀ x ∈ X, Rw1 x.key) : Ct Tryz.prog 26 [.pointer (some ⟨bx, 0, none⟩)] F2 [] (fun _ G' u => qmd (X.map (·.key)) G' u) := by
 obtain ⟨hc0, hc1, hle, ao, cap, rfl, hcap, hpos⟩ := hX
 refine Ct.enter Tryz.func26 rfl Tryz.ntmps26 rfl fun w0 a S => ?_
 revert a; refine go 14 ?_; intro Z hZ a S
 refine q04 (fun m a w' => ∃ (k : Nat) (v : Value) (g : Grp) (xs : List Value), m = X.length - k ∧ k ≤ X.length ∧ q0u 32 1 v k xs g ∧ LiC F 1 RwR xs ((X.take k).map (·.key)) ∧ St 27 [(0, .pointer (some ⟨bx, 0, none⟩)), (3, v), (4, .int .i64 (k : Int))] w0 F2 [] F2 [g] a w') ?_ ?_
 ·(refine ⟨X.length, 0, _, [], [], by omega, Nat.zero_le _, q0u.nil _ _, rfl, ?_⟩; replace S := S.nilg; refine S.keep ?_; exact zk)
 (clear S; rintro m a w ⟨k, v, g, xs, rfl, hk, hown, hxs, S⟩)
 revert a; refine go 6 ?_; intro Z hZ Z hZ a S
 first | (refine wv S (q0f S rfl rfl (by rfl)) ?_; clear S a; intro a S) | (refine wv S (q05 S rfl rfl (by assumption)) ?_; clear S a; intro a S) | (refine wv S (q05 S rfl rfl hc1) ?_; clear S a; intro a S)
 revert a; revert Z; refine go 4 ?_; intro a S
 refine q00 S rfl ?_ ?_ <;> intro h
 ·revert a; revert Z; refine go 4 ?_; intro Z hZ a S
  (obtain ⟨b8, o8, hao, x, cs1, hx, hcc, y1, y2, y3, rfl, hT1, hT2, hT3⟩ := LiM.pos hpos (k := k) (by omega); rw [hao] at S hc1; obtain ⟨aK, cK, rfl, -⟩ := id hT1)
  revert a; refine go 5 ?_; intro a S
  first | (refine wv S (q0f S rfl rfl (by rfl)) ?_; clear S a; intro a S) | (refine wv S (q05 S rfl rfl (by assumption)) ?_; clear S a; intro a S) | (refine wv S (q05 S rfl rfl hc1) ?_; clear S a; intro a S)
  revert a; refine go 3 ?_; intro a S
  (refine wv S (q05 S rfl rfl (hcc 0 _ rfl)) ?_; clear S a; intro a S)
  (refine q0s S rfl rfl rfl rfl rfl rfl rfl rfl rfl rfl rfl (fun _ => rfl) hown (by rfl) (by simp [Value.cells, splice, splice]) (by simp [Value.cells, Value.oneCell', splice, splice]) rfl (by rfl) (by rfl) rfl (by omega) (by omega) ?_; clear hown S a; intro v u g a w hown S)
  revert a; revert Z; refine go 8 ?_; intro a S
  change ∃ m', _ ∧ _
  (refine ⟨X.length - (k + 1), by omega, k + 1, v, g, _, rfl, by omega, hown, (by rw [List.take_add_one, hx, List.map_append]; exact LiC.app hxs (LiC.one rfl ⟨_, rfl, hT1⟩)), ?_⟩; (refine S.keep ?_; exact zk))
 (refine wp_exit ?_; conv => whnf)
 clear hZ Z
 (refine hZ _ _ ?_; clear hZ Z)
 (refine wp_seq_k ?_; intro Z hZ)
 (obtain rfl : k = X.length := (by omega); rw [List.take_of_length_le (Nat.le_refl _)] at hxs; have hle3 := q2h (G1 := []) S; replace S := St.freeze (G1 := []) S; (simp only [qaG] at S hle3); have hL3 := LiC.lim (F := F2) hown (hxs.mono hle) (by rw [List.length_map]) hle3 (by omega); obtain ⟨aV, cV, rfl, -, -⟩ := id hL3)
 revert a; refine go 2 ?_; intro a S
 (refine q17 S rfl rfl rfl rfl rfl rfl (qx7 ((X.map (·.key)).length + 1) _ (X.map (·.key)) _ (Nat.lt_succ_self _) (by rw [List.length_map]; omega) (fun r hr => by obtain ⟨x, hx, rfl⟩ := List.mem_map.1 hr; exact hok x hx) hL3) rfl ?_; clear S a; intro u9 G9 a w hv9 S; (simp only [qaE] at S))
 revert a; revert Z; refine go 3 ?_; intro a S
 refine wp_ret (fr1 S Tryz.results26 ?_)
 exact hv9
section
variable {n : Sz} {L : List (Nat × Value)} {w0 : World} {F0 : q01} {K0 : List Nat} {F : q01} {p : Nat × Obj} {g : Grp} {R : List Grp} {a : Act} {w : World}
theorem u5z (S : St n L w0 F0 K0 F ((p :: g) :: R) a w) : St n L w0 F0 K0 F ([p] :: g :: R) a w := ⟨S.fr, S.tr.perm (by simp)⟩
theorem qbd (S : St n L w0 F0 K0 F ([p] :: g :: R) a w) : St n L w0 F0 K0 F ((p :: g) :: R) a w := ⟨S.fr, S.tr.perm (by simp)⟩
end
def delY (X : List WyD) (key way : Vf) : List WyD := if qgl X key way = 0 then (qak key way X).getD X else X
theorem u10 {X : List WyD} {key way : Vf} {k : Nat} {x : WyD} (hx : X[k]? = some x) (hn : ∀ y ∈ X.take k, ¬ (q15 y.key key && q15 y.way way) = true) (hy : (q15 x.key key && q15 x.way way) = true) : qak key way X = some (X.take k ++ X.drop (k + 1)) := by
 induction X generalizing k with
 | nil => cases hx
 | cons z r ih =>
  cases k with
  | zero =>
   cases hx
   unfold qak
   rw [if_pos hy]; rfl
  | succ k =>
   unfold qak
   rw [if_neg (hn z (qaH ..)), ih (by simpa using hx) fun y h => hn y (List.mem_cons_of_mem _ h)]
   rfl
theorem u2q {X : List WyD} {key way : Vf} (hn : ∀ y ∈ X, ¬ (q15 y.key key && q15 y.way way) = true) : qak key way X = none := by
 induction X with
 | nil => rfl
 | cons z r ih =>
  unfold qak
  rw [if_neg (hn z (qaH ..)), ih fun y h => hn y (List.mem_cons_of_mem _ h)]; rfl
theorem u1h {X : List WyD} {key way : Vf} (h : (q2m key && q2m way) = false) : qgl X key way = 4 ∧ delY X key way = X := by
 have : qgl X key way = 4 := by unfold qgl; rw [if_pos h]
 exact ⟨this, by unfold delY; rw [this]; rfl⟩
theorem u1q {X : List WyD} {key way : Vf} (h : (q2m key && q2m way) = true) (hd : qak key way X = none) : qgl X key way = 5 ∧ delY X key way = X := by
 have : qgl X key way = 5 := by unfold qgl; rw [if_neg (by rw [h]; decide), hd]
 exact ⟨this, by unfold delY; rw [this]; rfl⟩
theorem u0l {X Y : List WyD} {key way : Vf} (h : (q2m key && q2m way) = true) (hd : qak key way X = some Y) : qgl X key way = 0 ∧ delY X key way = Y := by
 have : qgl X key way = 0 := by unfold qgl; rw [if_neg (by rw [h]; decide), hd]
 exact ⟨this, by unfold delY; rw [this, if_pos rfl, hd]; rfl⟩
theorem qpz {X : List WyD} {p : WyD → Bool} {k : Nat} {x : WyD} (hx : X[k]? = some x) (hn : ∀ y ∈ X.take k, ¬ p y = true) (h : ¬ p x = true) : ∀ y ∈ X.take (k + 1), ¬ p y = true := fun y hy => by
 rw [List.take_add_one, hx] at hy
 rcases List.mem_append.1 hy with hy | hy
 ·exact hn y hy
 ·obtain rfl : y = x := by simpa using hy
  exact h
theorem q5t {F : q01} {x : WyD} {cs : List Value} (h : WyR F x cs) : ∃ a1 c1 a2 c2 a3 c3, cs = [.slice a1 x.key.len c1, .slice a2 x.way.len c2, .slice a3 x.args.len c3] ∧ TrS F 4 VhR (.slice a1 x.key.len c1) x.key ∧ TrS F 4 VhR (.slice a2 x.way.len c2) x.way ∧ TrS F 4 VhR (.slice a3 x.args.len c3) x.args := by
 obtain ⟨v1, v2, v3, rfl, h1, h2, h3⟩ := h
 obtain ⟨a1, c1, rfl, -⟩ := id h1
 obtain ⟨a2, c2, rfl, -⟩ := id h2
 obtain ⟨a3, c3, rfl, -⟩ := id h3
 exact ⟨a1, c1, a2, c2, a3, c3, rfl, h1, h2, h3⟩
theorem qm7 {F F2 : q01} : ∀ {X : List WyD} {xs : List Value}, LiC F2 3 (WyQ F) xs X → LiC F 3 WyR xs X
 | [], _, h => h
 | x :: l, xs, ⟨cs, r, h1, h2, h3, h4⟩ => ⟨cs, r, h1, h2, h3, qm7 h4⟩
def u6l (F : q01) (bx : Nat) (av v : Value) (X : List WyD) (key way : Vf) (G' : List Grp) (u : Value) : Prop := u = .int .i64 (qgl X key way) ∧ ((delY X key way = X ∧ G' = [[(bx, .cells ⟨[av, v]⟩ 61 (0, 0))]]) ∨ ∃ v' g' xs', G' = [[(bx, .cells ⟨[av, v']⟩ 61 (0, 0))], g'] ∧ q0u 63 3 v' (delY X key way).length xs' g' ∧ LiC F 3 WyR xs' (delY X key way))
theorem qs1 {p : Prop} (h : p := by (unfold u6l; first | (have h9 := u1h (X := X) (key := key) (way := way) (by first | (rw [(by assumption : q2m key = false)]; rfl) | (rw [(by assumption : q2m key = true), (by assumption : q2m way = false)]; rfl)); exact ⟨by rw [h9.1], .inl ⟨h9.2, rfl⟩⟩) | (rw [List.take_of_length_le (by omega)] at hnn; have h9 := u1q (X := X) (key := key) (way := way) (by rw [(by assumption : q2m key = true), (by assumption : q2m way = true)]; rfl) (u2q hnn); exact ⟨by rw [h9.1], .inl ⟨h9.2, rfl⟩⟩) | (have h9 := u0l (X := X) (key := key) (way := way) (by rw [(by assumption : q2m key = true), (by assumption : q2m way = true)]; rfl) (u10 hx hnn (by rw [(by assumption : q15 x.key key = true), (by assumption : q15 x.way way = true)]; rfl)); refine ⟨by rw [h9.1], .inr ⟨_, _, xa ++ xb, rfl, ?_, ?_⟩⟩; (rw [h9.2, qaA, qaI, qaJ, show min k X.length + (X.length - (k + 1)) = 0 + k + (X.length - (k + 1)) by omega]; exact hown); (rw [h9.2]; exact LiC.app (qm7 hLa) (qm7 hLb))))) : p := h
theorem u16 {p : Prop} (h : p := by (rw [← hao] at S; have hn2 := qpz (p := fun y => q15 y.key key && q15 y.way way) hx hnn (by first | (rw [(by assumption : q15 x.key key = false)]; simp; done) | (rw [(by assumption : q15 x.way way = false)]; simp; done)); refine ⟨X.length - (k + 1), by omega, k + 1, rfl, by omega, hn2, ?_⟩; (refine S.keep ?_; exact zk))) : p := h
theorem qwr (F F2 : q01) (hle : ∀ b o, F b = some o → F2 b = some o) (bx : Nat) (av v : Value) (hav : av.oneCell' = true) (X : List WyD) (hv : LiM F2 3 (WyQ F) v X) (hl : X.length ≤ 10000) (key way : Vf) (v1 v2 : Value) (h1 : TrS F 4 VhR v1 key) (h2 : TrS F 4 VhR v2 way) (d1 : dpN key ≤ 900000000) (d2 : dpN way ≤ 900000000) :
  Ct Tryz.prog 22 [.pointer (some ⟨bx, 0, none⟩), v1, v2] F2 [[(bx, .cells ⟨[av, v]⟩ 61 (0, 0))]] (fun _ G' u => u6l F bx av v X key way G' u) := by
 have r1 := q8g F2 key v1 d1 (h1.mono hle)
 have r2 := q8g F2 way v2 d2 (h2.mono hle)
 have hvf := hv.flat
 obtain ⟨aV, cV, rfl, hcV, hpos⟩ := hv
 obtain ⟨a1, c1, rfl, -⟩ := id h1
 obtain ⟨a2, c2, rfl, -⟩ := id h2
 refine Ct.enter Tryz.func22 rfl Tryz.ntmps22 rfl fun w0 a S => ?_
 revert a; refine go 7 ?_; intro Z hZ Z hZ a S
 (refine wc0 S r1 ?_; clear S a; intro v9 a w hv9 S; subst hv9)
 revert a; refine go 2 ?_; intro a S
 refine wgd S ?_ ?_
 ·(clear S; intro h S)
  revert a; refine go 2 ?_; intro a S
  (refine wc0 S r2 ?_; clear S a; intro v9 a w hv9 S; subst hv9)
  revert a; revert Z; refine go 5 ?_; intro a S
  refine q00 S rfl ?_ ?_ <;> intro h
  ·revert a; refine go 4 ?_; intro a S
   refine wp_ret ?_
   (first | (have h88 : St _ _ _ _ _ _ [[(bx, _)], g] _ _ := qaq S; replace S := h88) | (replace S := S))
   refine q08 S (q0c Tryz.results22 (RV.tmp S rfl)) ?_
   exact qs1
  revert a; revert Z; refine go 8 ?_; intro Z hZ a S
  refine q04 (fun m a w' => ∃ (k : Nat), m = X.length - k ∧ k ≤ X.length ∧ (∀ y ∈ X.take k, ¬ (q15 y.key key && q15 y.way way) = true) ∧ St 68 [(0, ptr bx), (1, .slice a1 key.len c1), (2, .slice a2 way.len c2), (7, .int .i64 (k : Int))] w0 F2 (keys [[(bx, .cells ⟨[av, .slice aV X.length cV]⟩ 61 (0, 0))]]) F2 [[(bx, .cells ⟨[av, .slice aV X.length cV]⟩ 61 (0, 0))]] a w') ?_ ?_
  ·(refine ⟨X.length, 0, by omega, Nat.zero_le _, (fun y h => by simp at h), ?_⟩; refine S.keep ?_; exact zk)
  (clear S; rintro m a w ⟨k, rfl, hk, hnn, S⟩)
  revert a; refine go 11 ?_; intro Z hZ a S
  refine q00 S rfl ?_ ?_ <;> intro h
  ·revert a; revert Z; refine go 4 ?_; intro Z hZ a S
   (refine wp_seq_k ?_; intro Z hZ)
   (obtain ⟨b8, o8, hao, x, cs1, hx, hcc, hW⟩ := LiM.pos hpos (k := k) (by omega); obtain ⟨aK, cK, aW, cW, aA, cA, rfl, hT1, hT2, hT3⟩ := q5t hW; rw [hao] at S)
   revert a; refine go 8 ?_; intro a S
   (refine wv S (q05 S rfl rfl (hcc 0 _ rfl)) ?_; clear S a; intro a S)
   revert a; refine go 1 ?_; intro a S
   (refine wc0 S (q25 (q4z x.key.size) F2 x.key key _ _ (Nat.le_refl _) (hT1.mono hle) (h1.mono hle)) ?_; clear S a; intro v9 a w hv9 S; subst hv9)
   revert a; refine go 1 ?_; intro a S
   refine wgd S ?_ ?_
   ·(clear S; intro h S)
    revert a; refine go 14 ?_; intro a S
    (refine wv S (q05 S rfl rfl (hcc 1 _ rfl)) ?_; clear S a; intro a S)
    revert a; refine go 3 ?_; intro a S
    (refine wc0 S (q25 (q4z x.way.size) F2 x.way way _ _ (Nat.le_refl _) (hT2.mono hle) (h2.mono hle)) ?_; clear S a; intro v9 a w hv9 S; subst hv9)
    revert a; revert Z; refine go 3 ?_; intro a S
    refine q00 S rfl ?_ ?_ <;> intro h
    ·(refine wp_seq_k ?_; intro Z hZ)
     (have hkl : k < X.length := (List.getElem?_eq_some_iff.1 hx).1; obtain ⟨ao9, cap9, xsL, e9, hxL, hxpL⟩ := hvf; cases e9; obtain ⟨xa, cx, xb, rfl, hxa, hcx, -, hLa, hLb⟩ := hxL.split hx; have hxla := hLa.len; have hxlb := hLb.len; rw [qaI] at hxla; rw [qaJ] at hxlb; rw [hao] at hxpL)
     refine wp_region_lit ?_
     (refine q0d S rfl rfl rfl rfl rfl rfl (by rfl) (by simp [Value.cells, splice, splice]) rfl (by rfl) (by rfl) ?_; clear S a; intro b48 a w hown S)
     revert a; refine go 5 ?_; intro a S
     (refine wv S (q5b S rfl rfl rfl (by omega)) ?_; clear S a; intro a S)
     (refine q1u (news := xa) S rfl rfl rfl rfl rfl rfl hown (by rfl) (by omega) (fun h => (by obtain ⟨b, o, e, h9⟩ := hxpL (by omega); exact ⟨b, o, e, quz (quz h9)⟩)) hLa.one' (by omega) (by omega) ?_; clear hown S a; intro v g a w hown S)
     revert a; revert Z; refine go 12 ?_; intro Z hZ a S
     (refine wv S (q2l (i := k + 1) S rfl rfl rfl (by omega)) ?_; clear S a; intro a S)
     (refine q1u (news := xb) S rfl rfl rfl rfl rfl rfl hown (by rfl) (by omega) (fun h => (by obtain ⟨b, o, e, h9⟩ := hxpL (by omega); exact ⟨b, o + (k + 1) * 3, (by rw [e]; exact qcv (by omega) hcV.1), (by have h10 := u0u h9; rw [qaA, hxa, hcx, show k * 3 + 3 = (k + 1) * 3 by omega] at h10; exact h10)⟩)) hLb.one' (by omega) (by omega) ?_; clear hown S a; intro v g a w hown S; obtain ⟨aN, cN, rfl, -, -⟩ := id hown.at)
     revert a; refine go 2 ?_; intro a S
     (refine q0e S rfl rfl rfl rfl rfl rfl (by first | (simp; done) | (simp [Value.cells]; done) | exact Nat.le_of_ble_eq_true rfl) ?_; clear S; intro w S)
     revert a; revert Z; refine go 6 ?_; intro a S
     refine wp_ret ?_
     (first | (have h88 : St _ _ _ _ _ _ [[(bx, _)], g] _ _ := qaq S; replace S := h88) | (replace S := S))
     refine q08 S (q0c Tryz.results22 (RV.tmp S rfl)) ?_
     exact qs1
    revert a; revert Z; refine go 7 ?_; intro a S
    change ∃ m', _ ∧ _
    exact u16
   (clear S a; intro h a S)
   revert a; revert Z; refine go 12 ?_; intro a S
   refine q03 S rfl ?_
   revert a; revert Z; refine go 7 ?_; intro a S
   change ∃ m', _ ∧ _
   exact u16
  (refine wp_exit ?_; conv => whnf)
  clear hZ Z
  revert a; revert Z; refine go 5 ?_; intro a S
  refine wp_ret ?_
  (first | (have h88 : St _ _ _ _ _ _ [[(bx, _)], g] _ _ := qaq S; replace S := h88) | (replace S := S))
  refine q08 S (q0c Tryz.results22 (RV.tmp S rfl)) ?_
  exact qs1
 (clear S a; intro h a S)
 revert a; revert Z; refine go 5 ?_; intro a S
 refine q0h S rfl ?_
 revert a; refine go 4 ?_; intro a S
 refine wp_ret ?_
 (first | (have h88 : St _ _ _ _ _ _ [[(bx, _)], g] _ _ := qaq S; replace S := h88) | (replace S := S))
 refine q08 S (q0c Tryz.results22 (RV.tmp S rfl)) ?_
 exact qs1
section
variable {n : Sz} {L : List (Nat × Value)} {w0 : World} {F0 : q01} {K0 : List Nat} {F : q01} {A B : Grp} {p : Nat × Obj} {a : Act} {w : World}
theorem u69 (S : St n L w0 F0 K0 F [A ++ p :: B] a w) : St n L w0 F0 K0 F [[p], A ++ B] a w := ⟨S.fr, S.tr.perm (by simp only [qaF, List.flatten_nil, qaE]; exact List.perm_middle)⟩
theorem u8x (S : St n L w0 F0 K0 F [[p], A ++ B] a w) : St n L w0 F0 K0 F [A ++ p :: B] a w := ⟨S.fr, S.tr.perm (by simp only [qaF, List.flatten_nil, qaE, List.singleton_append]; exact List.perm_middle.symm)⟩
end
def SpC (d : Nat) : Prop := ∀ (F : q01) (g : Grp) (v : Value), SpV (gh g) d v → Ct Tryz.prog 23 [v] F [g] (fun _ G' _ => ∃ g', G' = [g'] ∧ ∀ d u, SpV (gh g) d u → SpV (gh g') d u)
theorem qso : SpC 0 := by
 intro F g v hv
 obtain ⟨ao, cap, rfl⟩ := hv
 refine Ct.enter Tryz.func23 rfl Tryz.ntmps23 rfl fun w0 a S => ?_
 revert a; refine go 5 ?_; intro a S
 refine q04 (fun m a w' => m = 0 ∧ St 19 [(0, .slice ao 0 cap), (2, .int .i64 0)] w0 F (keys [g]) F [g] a w') ?_ ?_
 ·(refine ⟨0, rfl, ?_⟩; refine S.keep ?_; exact zk)
 (clear S; rintro m a w ⟨rfl, S⟩)
 revert a; refine go 8 ?_; intro Z hZ a S
 refine q0l S rfl (fun h => ?_) (fun h => ?_)
 ·(skip; (try simp only [tq] at h); omega)
 (try simp only [tq] at h)
 (refine wp_exit ?_; conv => whnf)
 refine q1m S (q0x Tryz.results23) ?_
 exact ⟨g, rfl, fun _ _ h => h⟩
theorem qsm {d : Nat} (ih : SpC d) : SpC (d + 1) := by
 intro F g v hv
 have hv0 := hv
 obtain ⟨ao, n, cap, rfl, hn, hpos⟩ := hv
 refine Ct.enter Tryz.func23 rfl Tryz.ntmps23 rfl fun w0 a S => ?_
 revert a; refine go 5 ?_; intro a S
 refine q04 (fun m a w' => ∃ (i : Nat) (g' : Grp), m = n - i ∧ i ≤ n ∧ (∀ d u, SpV (gh g) d u → SpV (gh g') d u) ∧ St 19 [(0, .slice ao n cap), (2, .int .i64 (i : Int))] w0 F (keys [g]) F [g'] a w') ?_ ?_
 ·(refine ⟨n, 0, g, by omega, Nat.zero_le _, fun _ _ h => h, ?_⟩; refine S.keep ?_; exact zk)
 (clear S; rintro m a w ⟨i, g', rfl, hi, hsp, S⟩)
 revert a; refine go 8 ?_; intro Z hZ a S
 refine q00 S rfl ?_ ?_ <;> intro h
 ·revert a; revert Z; refine go 4 ?_; intro Z hZ a S
  (refine wp_seq_k ?_; intro Z hZ)
  (obtain ⟨_, _, _, e9, -, hp9⟩ := hsp _ _ hv0; cases e9; obtain ⟨b, c, e, hao, hb, hcl, hall⟩ := hp9 (by omega); obtain ⟨w9, hw9, hs9⟩ := hall i (by omega); obtain ⟨A, B, rfl⟩ := List.append_of_mem (q5e hb); replace S := u69 S; rw [hao] at S)
  revert a; refine go 5 ?_; intro a S
  (refine wv S (q0f S rfl rfl (by rw [show 0 + i * 4 + 3 = i * 4 + 3 by omega]; exact hw9)) ?_; clear S a; intro a S)
  (replace S := u8x S; refine q02 (Gs := [A ++ (b, .cells ⟨c⟩ e (0, 0)) :: B]) (Gr := []) S rfl rfl rfl rfl rfl rfl (ih F _ w9 hs9) rfl (by simp) ?_; clear S a; intro v9 G9 a w hv9 S; obtain ⟨g9, rfl, hsp9⟩ := hv9; (simp only [qaE] at S))
  revert a; revert Z; refine go 2 ?_; intro a S
  (have hnd9 := qev S; rw [← hao] at S; obtain ⟨_, _, _, e8, -, hp8⟩ := hsp9 _ _ (hsp _ _ hv0); cases e8; obtain ⟨b8, c8, e9, hao8, hb8, hcl8, -⟩ := hp8 (by omega); rw [hao8] at S; obtain ⟨A8, B8, rfl⟩ := List.append_of_mem (q5e hb8); replace S := u69 S)
  revert a; refine go 5 ?_; intro a S
  (refine q81 S rfl rfl rfl rfl rfl (by rfl) (by simp [Value.cells, Value.oneCell', splice]) (Nat.ble_eq_true_of_le (show 0 + i * 4 + 4 ≤ c8.length by omega)) ?_; clear S; intro w S)
  revert a; revert Z; refine go 7 ?_; intro a S
  change ∃ m', _ ∧ _
  (simp only [Nat.zero_add] at S; rw [← hao8] at S; replace S := qbd S; have hnd8 := qev S; refine ⟨n - (i + 1), by omega, i + 1, _, rfl, by omega, (fun d u h => SpV.put (i := i) hb8 (by omega) (qpf hnd8 (qaH ..)) (fun b' o hb' hh => qpf (p := (b', o)) hnd8 (List.mem_cons_of_mem _ (by have h9 := q5e hh; simp only [List.mem_append, List.mem_cons] at h9 ⊢; rcases h9 with h9 | h9 | h9; exact .inl h9; exact absurd (Prod.mk.inj h9).1 hb'; exact .inr h9))) (hsp9 d u (hsp d u h))), ?_⟩; (refine S.keep ?_; exact zk))
 (refine wp_exit ?_; conv => whnf)
 refine q1m S (q0x Tryz.results23) ?_
 exact ⟨g', rfl, hsp⟩
theorem q85 : ∀ d, SpC d
 | 0 => qso
 | d + 1 => qsm (q85 d)
