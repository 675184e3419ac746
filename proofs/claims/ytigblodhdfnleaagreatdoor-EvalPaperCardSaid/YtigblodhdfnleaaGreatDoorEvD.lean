/- Walks: the operators: what they come to, one by one, and the map of them. -/
import Derived.Test.YtigblodhdfnleaaGreatDoorWk17
import Derived.Test.YtigblodhdfnleaaGreatDoorCm
import Derived.Test.YtigblodhdfnleaaGreatDoorFz
namespace Go.Proofs.YtigblodhdfnleaaGreatDoor
open Go Go.Wk Go.Un Go.De Go.Num
set_option linter.unusedSimpArgs false
set_option linter.unusedVariables false
attribute [local irreducible] Go.wpList Go.Code.wp Go.wpStill Go.Wk.wpPre Go.bodyPost Go.Calls Go.Wk.Ct Go.Wk.OwnS
attribute [local irreducible] Go.Wk.wpG Go.Wk.wpM

/-- All numbers in a value are whole numbers of 64 bits, and texts are not too long. -/
def GVl : Vf → Prop
  | .nil => True
  | .cons h L r => (in64 h.n ∧ h.s.length ≤ 200000) ∧ GVl L ∧ GVl r
def GV (v : Vv) : Prop := (in64 v.1.n ∧ v.1.s.length ≤ 200000) ∧ GVl v.2 ∧ v.2.size ≤ 5000
theorem num1Ct (F : Heap) (k : Nat) (b2 b3 fidI fidB : Nat) [HasFn Tryz.prog fidI] [HasFn Tryz.prog fidB] (h2 : Cel F b2 0 (.func (.func fidI) ⟨[]⟩ ⟨[]⟩)) (h3 : Cel F b3 0 (.func (.func fidB) ⟨[]⟩ ⟨[]⟩))
    (hI : ∀ (x y : Int), in64 x → in64 y → Ct Tryz.prog fidI [.int .i64 x, .int .i64 y] F [] (fun _ _ u => u = cmpV (intO k x y))) (hB : ∀ (s t : List UInt8), s.length ≤ 1000000 → t.length ≤ 1000000 → Ct Tryz.prog fidB [.string (bs s), .string (bs t)] F [] (fun _ _ u => u = ansV (doA k s t)))
    (x y : Vv) (cx cy : List Value) (gx : GV x) (gy : GV y) (hx : VaC F cx x.1 x.2) (hy : VaC F cy y.1 y.2) (hd : (doA k x.1.s y.1.s).1.length ≤ 140737488355328) : Ct Tryz.prog 68 ([] ++ [.agg ⟨cx⟩, .agg ⟨cy⟩] ++ [ptr b2, ptr b3]) F [] (fun F' _ u => AnsR F' u (numO k x y)) := by
  obtain ⟨⟨xk, xn, xs⟩, xl⟩ := x
  obtain ⟨⟨yk, yn, ys⟩, yl⟩ := y
  obtain ⟨⟨ix, lx⟩, -, -⟩ := gx
  obtain ⟨⟨iy, ly⟩, -, -⟩ := gy
  obtain ⟨v1, rfl, ⟨a1, c1, rfl, -⟩, -⟩ := hx
  obtain ⟨v2, rfl, ⟨a2, c2, rfl, -⟩, -⟩ := hy
  dsimp only at *
  unfold numO
  dsimp only
  have hI' := hI xn yn ix iy
  have hB' := hB xs ys (by omega) (by omega)
  generalize intO k xn yn = p at hI' ⊢
  generalize doA k xs ys = q at hB' hd ⊢
  obtain ⟨p1, p2⟩ := p
  obtain ⟨q1, q2⟩ := q
  dsimp only at *
  refine Ct.enter Tryz.func68 rfl Tryz.ntmps68 rfl fun w0 a S => ?_
  refine wp_sr fun Kq1 hKq1 => ?_
  (refine wpl_box S rfl rfl rfl rfl rfl ?_; clear S a; intro b4 a w S)
  (refine wpl_box S rfl rfl rfl rfl rfl ?_; clear S a; intro b5 a w S)
  (refine wpl_alloc S rfl rfl rfl rfl ?_; clear S a; intro b6 a w S)
  (refine wpl_p S rfl rfl rfl ?_; clear S a; intro a S)
  (refine wpList_nil (hKq1 _ _ (wp_seq_k fun Kq2 hKq2 => ?_)); try clear hKq1 Kq1)
  refine wp_block ?_
  refine wp_sr fun Kq3 hKq3 => ?_
  (refine wpl_f S rfl rfl rfl ?_; clear S a; intro a S)
  (refine wpl_l S rfl rfl rfl ?_; clear S a; intro a S)
  iterate 2 (refine wpl_p S rfl rfl rfl ?_; clear S a; intro a S)
  refine wpl_guard S rfl rfl rfl rfl rfl ?_ ?_
  · (intro h S'; clear S; have S := S'; clear S'; (try simp only [tq] at h))
    (refine wpl_f S rfl rfl rfl ?_; clear S a; intro a S)
    refine wpl_take S rfl rfl rfl ?_
    (refine wpl_l S rfl rfl rfl ?_; clear S a; intro a S)
    refine wpl_take S rfl rfl rfl ?_
    iterate 3 (refine wpl_p S rfl rfl rfl ?_; clear S a; intro a S)
    (refine wpList_nil (hKq3 _ _ ?_); try clear hKq3 Kq3)
    refine wpc_split S rfl (fun h => ?_) (fun h => ?_)
    · (skip; (try simp only [tq] at h))
      refine wp_sr fun Kq4 hKq4 => ?_
      (refine wpl_v S rfl rfl rfl (sv_loadF S rfl rfl h2) ?_; clear S a; intro a S)
      (refine wpl_f S rfl rfl rfl ?_; clear S a; intro a S)
      (refine wpl_l S rfl rfl rfl ?_; clear S a; intro a S)
      (refine wpl_f S rfl rfl rfl ?_; clear S a; intro a S)
      (refine wpl_l S rfl rfl rfl ?_; clear S a; intro a S)
      (refine wpl_call0 S rfl rfl rfl rfl rfl rfl hI' rfl ?_; clear S a; intro v a w hv S; subst hv)
      iterate 5 (refine wpl_p S rfl rfl rfl ?_; clear S a; intro a S)
      (refine wpList_nil (hKq4 _ _ (wp_seq_k fun Kq5 hKq5 => ?_)); try clear hKq4 Kq4)
      refine wp_sr fun Kq6 hKq6 => ?_
      iterate 2 (refine wpl_p S rfl rfl rfl ?_; clear S a; intro a S)
      (refine wpList_nil (hKq6 _ _ ?_); try clear hKq6 Kq6)
      refine wpc_split S rfl (fun h => ?_) (fun h => ?_)
      · (skip; (try simp only [tq] at h))
        refine wp_sr fun Kq7 hKq7 => ?_
        (refine wpl_b S rfl rfl rfl ?_; clear S a; intro a S)
        (refine wpl_p S rfl rfl rfl ?_; clear S a; intro a S)
        (refine wpl_storeO S rfl rfl rfl rfl rfl (by rfl) (by simp [Value.cells, Value.oneCell', splice]) (by rfl) ?_; clear S; intro w S)
        (refine wpl_p S rfl rfl rfl ?_; clear S a; intro a S)
        (refine wpList_nil (hKq7 _ _ ?_); try clear hKq7 Kq7)
        refine wp_ret (fin_ret S (results2 Tryz.results68 (RV.cellO S rfl (by rfl)) (RV.tmp S rfl)) ?_)
        (first | (rw [if_pos (by omega), if_pos (by assumption)]; exact ans_no _ _) | (rw [if_pos (by omega), if_neg (by omega)]; exact ⟨_, rfl, vac_z _ (k := 2) (s := []) (by decide)⟩) | (rw [if_neg (by omega), if_pos (by omega), if_pos (by assumption)]; exact ans_no _ _) | (rw [if_neg (by omega), if_pos (by omega), if_neg (by omega)]; exact ⟨_, rfl, vac_z _ (k := 3) hd⟩) | (rw [if_neg (by omega), if_neg (by omega)]; exact ans_no _ _) | trace_state)
      (skip; (try simp only [tq] at h))
      refine wp_skip ?_
      (refine hKq5 _ _ ?_; try (clear hKq5 Kq5))
      refine wp_sr fun Kq7 hKq7 => ?_
      (refine wpl_p S rfl rfl rfl ?_; clear S a; intro a S)
      (refine wpl_call0 S rfl rfl rfl rfl rfl rfl (eWholeCt F _) rfl ?_; clear S a; intro v a w hv S; subst hv)
      (refine wpl_storeO S rfl rfl rfl rfl rfl (by rfl) (by simp [Value.cells, Value.oneCell', splice]) (by rfl) ?_; clear S; intro w S)
      (refine wpl_p S rfl rfl rfl ?_; clear S a; intro a S)
      (refine wpList_nil (hKq7 _ _ ?_); try clear hKq7 Kq7)
      refine wp_ret (fin_ret S (results2 Tryz.results68 (RV.cellO S rfl (by rfl)) (RV.tmp S rfl)) ?_)
      (first | (rw [if_pos (by omega), if_pos (by assumption)]; exact ans_no _ _) | (rw [if_pos (by omega), if_neg (by omega)]; exact ⟨_, rfl, vac_z _ (k := 2) (s := []) (by decide)⟩) | (rw [if_neg (by omega), if_pos (by omega), if_pos (by assumption)]; exact ans_no _ _) | (rw [if_neg (by omega), if_pos (by omega), if_neg (by omega)]; exact ⟨_, rfl, vac_z _ (k := 3) hd⟩) | (rw [if_neg (by omega), if_neg (by omega)]; exact ans_no _ _) | trace_state)
    (skip; (try simp only [tq] at h))
    refine wp_sr fun Kq4 hKq4 => ?_
    (refine wpl_f S rfl rfl rfl ?_; clear S a; intro a S)
    (refine wpl_l S rfl rfl rfl ?_; clear S a; intro a S)
    iterate 2 (refine wpl_p S rfl rfl rfl ?_; clear S a; intro a S)
    refine wpl_guard S rfl rfl rfl rfl rfl ?_ ?_
    · (intro h S'; clear S; have S := S'; clear S'; (try simp only [tq] at h))
      (refine wpl_f S rfl rfl rfl ?_; clear S a; intro a S)
      refine wpl_take S rfl rfl rfl ?_
      (refine wpl_l S rfl rfl rfl ?_; clear S a; intro a S)
      refine wpl_take S rfl rfl rfl ?_
      iterate 3 (refine wpl_p S rfl rfl rfl ?_; clear S a; intro a S)
      (refine wpList_nil (hKq4 _ _ ?_); try clear hKq4 Kq4)
      refine wpc_split S rfl (fun h => ?_) (fun h => ?_)
      · (skip; (try simp only [tq] at h))
        refine wp_sr fun Kq5 hKq5 => ?_
        (refine wpl_v S rfl rfl rfl (sv_loadF S rfl rfl h3) ?_; clear S a; intro a S)
        (refine wpl_f S rfl rfl rfl ?_; clear S a; intro a S)
        (refine wpl_l S rfl rfl rfl ?_; clear S a; intro a S)
        (refine wpl_f S rfl rfl rfl ?_; clear S a; intro a S)
        (refine wpl_l S rfl rfl rfl ?_; clear S a; intro a S)
        (refine wpl_call0 S rfl rfl rfl rfl rfl rfl hB' rfl ?_; clear S a; intro v a w hv S; subst hv)
        iterate 5 (refine wpl_p S rfl rfl rfl ?_; clear S a; intro a S)
        (refine wpList_nil (hKq5 _ _ (wp_seq_k fun Kq6 hKq6 => ?_)); try clear hKq5 Kq5)
        refine wp_sr fun Kq7 hKq7 => ?_
        iterate 2 (refine wpl_p S rfl rfl rfl ?_; clear S a; intro a S)
        (refine wpList_nil (hKq7 _ _ ?_); try clear hKq7 Kq7)
        refine wpc_split S rfl (fun h => ?_) (fun h => ?_)
        · (skip; (try simp only [tq] at h))
          refine wp_sr fun Kq8 hKq8 => ?_
          (refine wpl_b S rfl rfl rfl ?_; clear S a; intro a S)
          (refine wpl_p S rfl rfl rfl ?_; clear S a; intro a S)
          (refine wpl_storeO S rfl rfl rfl rfl rfl (by rfl) (by simp [Value.cells, Value.oneCell', splice]) (by rfl) ?_; clear S; intro w S)
          (refine wpl_p S rfl rfl rfl ?_; clear S a; intro a S)
          (refine wpList_nil (hKq8 _ _ ?_); try clear hKq8 Kq8)
          refine wp_ret (fin_ret S (results2 Tryz.results68 (RV.cellO S rfl (by rfl)) (RV.tmp S rfl)) ?_)
          (first | (rw [if_pos (by omega), if_pos (by assumption)]; exact ans_no _ _) | (rw [if_pos (by omega), if_neg (by omega)]; exact ⟨_, rfl, vac_z _ (k := 2) (s := []) (by decide)⟩) | (rw [if_neg (by omega), if_pos (by omega), if_pos (by assumption)]; exact ans_no _ _) | (rw [if_neg (by omega), if_pos (by omega), if_neg (by omega)]; exact ⟨_, rfl, vac_z _ (k := 3) hd⟩) | (rw [if_neg (by omega), if_neg (by omega)]; exact ans_no _ _) | trace_state)
        (skip; (try simp only [tq] at h))
        refine wp_skip ?_
        (refine hKq6 _ _ ?_; try (clear hKq6 Kq6))
        refine wp_sr fun Kq8 hKq8 => ?_
        (refine wpl_p S rfl rfl rfl ?_; clear S a; intro a S)
        (refine wpl_b S rfl rfl rfl ?_; clear S a; intro a S)
        (refine wpl_storeO S rfl rfl rfl rfl rfl (by rfl) (by simp [Value.cells, Value.oneCell', splice]) (by rfl) ?_; clear S; intro w S)
        (refine wpl_p S rfl rfl rfl ?_; clear S a; intro a S)
        (refine wpList_nil (hKq8 _ _ ?_); try clear hKq8 Kq8)
        refine wp_ret (fin_ret S (results2 Tryz.results68 (RV.cellO S rfl (by rfl)) (RV.tmp S rfl)) ?_)
        (first | (rw [if_pos (by omega), if_pos (by assumption)]; exact ans_no _ _) | (rw [if_pos (by omega), if_neg (by omega)]; exact ⟨_, rfl, vac_z _ (k := 2) (s := []) (by decide)⟩) | (rw [if_neg (by omega), if_pos (by omega), if_pos (by assumption)]; exact ans_no _ _) | (rw [if_neg (by omega), if_pos (by omega), if_neg (by omega)]; exact ⟨_, rfl, vac_z _ (k := 3) hd⟩) | (rw [if_neg (by omega), if_neg (by omega)]; exact ans_no _ _) | trace_state)
      (skip; (try simp only [tq] at h))
      refine wp_skip ?_
      (refine hKq2 _ _ ?_; try (clear hKq2 Kq2))
      refine wp_sr fun Kq5 hKq5 => ?_
      (refine wpl_b S rfl rfl rfl ?_; clear S a; intro a S)
      (refine wpl_storeO S rfl rfl rfl rfl rfl (by rfl) (by simp [Value.cells, Value.oneCell', splice]) (by rfl) ?_; clear S; intro w S)
      (refine wpl_p S rfl rfl rfl ?_; clear S a; intro a S)
      (refine wpList_nil (hKq5 _ _ ?_); try clear hKq5 Kq5)
      refine wp_ret (fin_ret S (results2 Tryz.results68 (RV.cellO S rfl (by rfl)) (RV.tmp S rfl)) ?_)
      (first | (rw [if_pos (by omega), if_pos (by assumption)]; exact ans_no _ _) | (rw [if_pos (by omega), if_neg (by omega)]; exact ⟨_, rfl, vac_z _ (k := 2) (s := []) (by decide)⟩) | (rw [if_neg (by omega), if_pos (by omega), if_pos (by assumption)]; exact ans_no _ _) | (rw [if_neg (by omega), if_pos (by omega), if_neg (by omega)]; exact ⟨_, rfl, vac_z _ (k := 3) hd⟩) | (rw [if_neg (by omega), if_neg (by omega)]; exact ans_no _ _) | trace_state)
    (intro h; clear S a; intro a S; (try simp only [tq] at h))
    iterate 2 (refine wpl_skip S rfl rfl rfl rfl rfl ?_; clear S a; intro a S)
    iterate 2 (refine wpl_p S rfl rfl rfl ?_; clear S a; intro a S)
    (refine wpList_nil (hKq4 _ _ ?_); try clear hKq4 Kq4)
    refine wpc_false S rfl ?_
    refine wp_skip ?_
    (refine hKq2 _ _ ?_; try (clear hKq2 Kq2))
    refine wp_sr fun Kq5 hKq5 => ?_
    (refine wpl_b S rfl rfl rfl ?_; clear S a; intro a S)
    (refine wpl_storeO S rfl rfl rfl rfl rfl (by rfl) (by simp [Value.cells, Value.oneCell', splice]) (by rfl) ?_; clear S; intro w S)
    (refine wpl_p S rfl rfl rfl ?_; clear S a; intro a S)
    (refine wpList_nil (hKq5 _ _ ?_); try clear hKq5 Kq5)
    refine wp_ret (fin_ret S (results2 Tryz.results68 (RV.cellO S rfl (by rfl)) (RV.tmp S rfl)) ?_)
    (first | (rw [if_pos (by omega), if_pos (by assumption)]; exact ans_no _ _) | (rw [if_pos (by omega), if_neg (by omega)]; exact ⟨_, rfl, vac_z _ (k := 2) (s := []) (by decide)⟩) | (rw [if_neg (by omega), if_pos (by omega), if_pos (by assumption)]; exact ans_no _ _) | (rw [if_neg (by omega), if_pos (by omega), if_neg (by omega)]; exact ⟨_, rfl, vac_z _ (k := 3) hd⟩) | (rw [if_neg (by omega), if_neg (by omega)]; exact ans_no _ _) | trace_state)
  (intro h; clear S a; intro a S; (try simp only [tq] at h))
  iterate 2 (refine wpl_skip S rfl rfl rfl rfl rfl ?_; clear S a; intro a S)
  iterate 2 (refine wpl_p S rfl rfl rfl ?_; clear S a; intro a S)
  (refine wpList_nil (hKq3 _ _ ?_); try clear hKq3 Kq3)
  refine wpc_false S rfl ?_
  refine wp_sr fun Kq4 hKq4 => ?_
  (refine wpl_f S rfl rfl rfl ?_; clear S a; intro a S)
  (refine wpl_l S rfl rfl rfl ?_; clear S a; intro a S)
  iterate 2 (refine wpl_p S rfl rfl rfl ?_; clear S a; intro a S)
  refine wpl_guard S rfl rfl rfl rfl rfl ?_ ?_
  · (intro h S'; clear S; have S := S'; clear S'; (try simp only [tq] at h))
    (refine wpl_f S rfl rfl rfl ?_; clear S a; intro a S)
    refine wpl_take S rfl rfl rfl ?_
    (refine wpl_l S rfl rfl rfl ?_; clear S a; intro a S)
    refine wpl_take S rfl rfl rfl ?_
    iterate 3 (refine wpl_p S rfl rfl rfl ?_; clear S a; intro a S)
    (refine wpList_nil (hKq4 _ _ ?_); try clear hKq4 Kq4)
    refine wpc_split S rfl (fun h => ?_) (fun h => ?_)
    · (skip; (try simp only [tq] at h))
      refine wp_sr fun Kq5 hKq5 => ?_
      (refine wpl_v S rfl rfl rfl (sv_loadF S rfl rfl h3) ?_; clear S a; intro a S)
      (refine wpl_f S rfl rfl rfl ?_; clear S a; intro a S)
      (refine wpl_l S rfl rfl rfl ?_; clear S a; intro a S)
      (refine wpl_f S rfl rfl rfl ?_; clear S a; intro a S)
      (refine wpl_l S rfl rfl rfl ?_; clear S a; intro a S)
      (refine wpl_call0 S rfl rfl rfl rfl rfl rfl hB' rfl ?_; clear S a; intro v a w hv S; subst hv)
      iterate 5 (refine wpl_p S rfl rfl rfl ?_; clear S a; intro a S)
      (refine wpList_nil (hKq5 _ _ (wp_seq_k fun Kq6 hKq6 => ?_)); try clear hKq5 Kq5)
      refine wp_sr fun Kq7 hKq7 => ?_
      iterate 2 (refine wpl_p S rfl rfl rfl ?_; clear S a; intro a S)
      (refine wpList_nil (hKq7 _ _ ?_); try clear hKq7 Kq7)
      refine wpc_split S rfl (fun h => ?_) (fun h => ?_)
      · (skip; (try simp only [tq] at h))
        refine wp_sr fun Kq8 hKq8 => ?_
        (refine wpl_b S rfl rfl rfl ?_; clear S a; intro a S)
        (refine wpl_p S rfl rfl rfl ?_; clear S a; intro a S)
        (refine wpl_storeO S rfl rfl rfl rfl rfl (by rfl) (by simp [Value.cells, Value.oneCell', splice]) (by rfl) ?_; clear S; intro w S)
        (refine wpl_p S rfl rfl rfl ?_; clear S a; intro a S)
        (refine wpList_nil (hKq8 _ _ ?_); try clear hKq8 Kq8)
        refine wp_ret (fin_ret S (results2 Tryz.results68 (RV.cellO S rfl (by rfl)) (RV.tmp S rfl)) ?_)
        (first | (rw [if_pos (by omega), if_pos (by assumption)]; exact ans_no _ _) | (rw [if_pos (by omega), if_neg (by omega)]; exact ⟨_, rfl, vac_z _ (k := 2) (s := []) (by decide)⟩) | (rw [if_neg (by omega), if_pos (by omega), if_pos (by assumption)]; exact ans_no _ _) | (rw [if_neg (by omega), if_pos (by omega), if_neg (by omega)]; exact ⟨_, rfl, vac_z _ (k := 3) hd⟩) | (rw [if_neg (by omega), if_neg (by omega)]; exact ans_no _ _) | trace_state)
      (skip; (try simp only [tq] at h))
      refine wp_skip ?_
      (refine hKq6 _ _ ?_; try (clear hKq6 Kq6))
      refine wp_sr fun Kq8 hKq8 => ?_
      (refine wpl_p S rfl rfl rfl ?_; clear S a; intro a S)
      (refine wpl_b S rfl rfl rfl ?_; clear S a; intro a S)
      (refine wpl_storeO S rfl rfl rfl rfl rfl (by rfl) (by simp [Value.cells, Value.oneCell', splice]) (by rfl) ?_; clear S; intro w S)
      (refine wpl_p S rfl rfl rfl ?_; clear S a; intro a S)
      (refine wpList_nil (hKq8 _ _ ?_); try clear hKq8 Kq8)
      refine wp_ret (fin_ret S (results2 Tryz.results68 (RV.cellO S rfl (by rfl)) (RV.tmp S rfl)) ?_)
      (first | (rw [if_pos (by omega), if_pos (by assumption)]; exact ans_no _ _) | (rw [if_pos (by omega), if_neg (by omega)]; exact ⟨_, rfl, vac_z _ (k := 2) (s := []) (by decide)⟩) | (rw [if_neg (by omega), if_pos (by omega), if_pos (by assumption)]; exact ans_no _ _) | (rw [if_neg (by omega), if_pos (by omega), if_neg (by omega)]; exact ⟨_, rfl, vac_z _ (k := 3) hd⟩) | (rw [if_neg (by omega), if_neg (by omega)]; exact ans_no _ _) | trace_state)
    (skip; (try simp only [tq] at h))
    refine wp_skip ?_
    (refine hKq2 _ _ ?_; try (clear hKq2 Kq2))
    refine wp_sr fun Kq5 hKq5 => ?_
    (refine wpl_b S rfl rfl rfl ?_; clear S a; intro a S)
    (refine wpl_storeO S rfl rfl rfl rfl rfl (by rfl) (by simp [Value.cells, Value.oneCell', splice]) (by rfl) ?_; clear S; intro w S)
    (refine wpl_p S rfl rfl rfl ?_; clear S a; intro a S)
    (refine wpList_nil (hKq5 _ _ ?_); try clear hKq5 Kq5)
    refine wp_ret (fin_ret S (results2 Tryz.results68 (RV.cellO S rfl (by rfl)) (RV.tmp S rfl)) ?_)
    (first | (rw [if_pos (by omega), if_pos (by assumption)]; exact ans_no _ _) | (rw [if_pos (by omega), if_neg (by omega)]; exact ⟨_, rfl, vac_z _ (k := 2) (s := []) (by decide)⟩) | (rw [if_neg (by omega), if_pos (by omega), if_pos (by assumption)]; exact ans_no _ _) | (rw [if_neg (by omega), if_pos (by omega), if_neg (by omega)]; exact ⟨_, rfl, vac_z _ (k := 3) hd⟩) | (rw [if_neg (by omega), if_neg (by omega)]; exact ans_no _ _) | trace_state)
  (intro h; clear S a; intro a S; (try simp only [tq] at h))
  iterate 2 (refine wpl_skip S rfl rfl rfl rfl rfl ?_; clear S a; intro a S)
  iterate 2 (refine wpl_p S rfl rfl rfl ?_; clear S a; intro a S)
  (refine wpList_nil (hKq4 _ _ ?_); try clear hKq4 Kq4)
  refine wpc_false S rfl ?_
  refine wp_skip ?_
  (refine hKq2 _ _ ?_; try (clear hKq2 Kq2))
  refine wp_sr fun Kq5 hKq5 => ?_
  (refine wpl_b S rfl rfl rfl ?_; clear S a; intro a S)
  (refine wpl_storeO S rfl rfl rfl rfl rfl (by rfl) (by simp [Value.cells, Value.oneCell', splice]) (by rfl) ?_; clear S; intro w S)
  (refine wpl_p S rfl rfl rfl ?_; clear S a; intro a S)
  (refine wpList_nil (hKq5 _ _ ?_); try clear hKq5 Kq5)
  refine wp_ret (fin_ret S (results2 Tryz.results68 (RV.cellO S rfl (by rfl)) (RV.tmp S rfl)) ?_)
  (first | (rw [if_pos (by omega), if_pos (by assumption)]; exact ans_no _ _) | (rw [if_pos (by omega), if_neg (by omega)]; exact ⟨_, rfl, vac_z _ (k := 2) (s := []) (by decide)⟩) | (rw [if_neg (by omega), if_pos (by omega), if_pos (by assumption)]; exact ans_no _ _) | (rw [if_neg (by omega), if_pos (by omega), if_neg (by omega)]; exact ⟨_, rfl, vac_z _ (k := 3) hd⟩) | (rw [if_neg (by omega), if_neg (by omega)]; exact ans_no _ _) | trace_state)
theorem numbersCt (F : Heap) (fi fb : Value) (h1 : fi.oneCell' = true) (h2 : fb.oneCell' = true) : Ct Tryz.prog 34 [fi, fb] F [] (fun F' _ u => ∃ b2 b3, u = .func (.func 68) ⟨[]⟩ ⟨[ptr b2, ptr b3]⟩ ∧ Cel F' b2 0 fi ∧ Cel F' b3 0 fb) := by
  refine Ct.enter Tryz.func34 rfl Tryz.ntmps34 rfl fun w0 a S => ?_
  refine wp_sr fun Kq1 hKq1 => ?_
  (refine wpl_box S rfl rfl rfl rfl rfl ?_; clear S a; intro b2 a w S)
  (refine wpl_box S rfl rfl rfl rfl rfl ?_; clear S a; intro b3 a w S)
  (refine wpl_p S rfl rfl rfl ?_; clear S a; intro a S)
  (refine wpList_nil (hKq1 _ _ (wp_sr fun Kq2 hKq2 => ?_)); try clear hKq1 Kq1)
  iterate 2 (refine wpl_p S rfl rfl rfl ?_; clear S a; intro a S)
  (refine wpList_nil (hKq2 _ _ ?_); try clear hKq2 Kq2)
  refine wp_ret ?_
  (have S' := frzAll [(b3, _), (b2, _)] S; clear S; obtain ⟨F5, hle5, hbl, S⟩ := S'; have h6 := hbl _ (List.mem_cons_of_mem _ (List.mem_cons_self ..)); have h8 := hbl _ (List.mem_cons_self ..))
  refine fin_ret S (results1 Tryz.results34 (RV.tmp S rfl)) ?_
  (exact ⟨b2, b3, rfl, ⟨_, _, _, h6, by cases fi <;> first | rfl | cases h1⟩, ⟨_, _, _, h8, by cases fb <;> first | rfl | cases h2⟩⟩)
theorem ord1Ct (F : Heap) (k : Nat) (b fid : Nat) [HasFn Tryz.prog fid] (h2 : Cel F b 0 (.func (.func fid) ⟨[]⟩ ⟨[]⟩)) (hO : ∀ (F : Heap) (c : Int), Ct Tryz.prog fid [.int .i64 c] F [] (fun _ _ u => u = .bool (ordT k c)))
    (x y : Vv) (cx cy : List Value) (gx : GV x) (gy : GV y) (hx : VaC F cx x.1 x.2) (hy : VaC F cy y.1 y.2) : Ct Tryz.prog 78 ([] ++ [.agg ⟨cx⟩, .agg ⟨cy⟩] ++ [ptr b]) F [] (fun F' _ u => AnsR F' u (ordO k x y)) := by
  have hc := cmpVCt F x y cx cy (Nat.le_trans gx.2.2 (by decide)) (Nat.le_trans gy.2.2 (by decide)) hx hy
  obtain ⟨v1, rfl, ⟨a1, c1, rfl, -⟩, -⟩ := hx
  obtain ⟨v2, rfl, ⟨a2, c2, rfl, -⟩, -⟩ := hy
  refine Ct.enter Tryz.func78 rfl Tryz.ntmps78 rfl fun w0 a S => ?_
  refine wp_sr fun Kq1 hKq1 => ?_
  (refine wpl_box S rfl rfl rfl rfl rfl ?_; clear S a; intro b3 a w S)
  (refine wpl_box S rfl rfl rfl rfl rfl ?_; clear S a; intro b4 a w S)
  (refine wpl_alloc S rfl rfl rfl rfl ?_; clear S a; intro b5 a w S)
  (refine wpl_p S rfl rfl rfl ?_; clear S a; intro a S)
  (refine wpList_nil (hKq1 _ _ (wp_seq_k fun Kq2 hKq2 => ?_)); try clear hKq1 Kq1)
  (refine wpc_mixM [0, 1, 2] [0, 1, 2] [] (.one 0 (.one 1 (.one 2 (.one 3 (.one 4 (.one 5 (.one 6 (.one 7 .nil)))))))) [b3, b4] S mixed (by kernel_rfl) ?_; clear S; intro w S)
  (refine wpm_lateF S rfl rfl rfl (want_none _ rfl) rfl rfl (fun w' S => sv_loadF S rfl rfl h2) ?_; clear S a; intro a S)
  (refine wpm_o b3 S rfl rfl rfl (want_none _ rfl) rfl rfl ?_; clear S a; intro a S)
  (refine wpm_o b4 S rfl rfl rfl (want_none _ rfl) rfl rfl ?_; clear S a; intro a S)
  refine wpm_eff rfl rfl (kwa S) ?_
  (refine wpl_call0 S rfl rfl rfl rfl rfl rfl hc rfl ?_; clear S a; intro v a w hv S; subst hv)
  refine wpList_nil ?_
  refine wpm_eff rfl rfl (kwa S) ?_
  (refine wpl_call0 S rfl rfl rfl rfl rfl rfl (hO F _) rfl ?_; clear S a; intro v a w hv S; subst hv)
  refine wpList_nil ?_
  refine wpm_eff rfl rfl (kwa S) ?_
  (refine wpl_call0 S rfl rfl rfl rfl rfl rfl (eTruthCt F _) rfl ?_; clear S a; intro v a w hv S; subst hv)
  refine wpList_nil ?_
  refine wpm_eff rfl rfl (kwa S) ?_
  (refine wpl_storeO S rfl rfl rfl rfl rfl (by rfl) (by simp [Value.cells, Value.oneCell', splice]) (by rfl) ?_; clear S; intro w S)
  refine wpList_nil ?_
  refine wpm_eff rfl rfl (kwa S) ?_
  (refine wpl_p S rfl rfl rfl ?_; clear S a; intro a S)
  refine wpList_nil ?_
  (refine wpm_nil (kwa S) (hKq2 _ _ ?_); try clear hKq2 Kq2)
  refine wp_ret (fin_ret S (results2 Tryz.results78 (RV.cellO S rfl (by rfl)) (RV.tmp S rfl)) ?_)
  (exact ⟨_, rfl, vac_z _ (k := 1) (s := []) (by decide)⟩)
theorem orderCt (F : Heap) (fi : Value) (h1 : fi.oneCell' = true) : Ct Tryz.prog 45 [fi] F [] (fun F' _ u => ∃ b2, u = .func (.func 78) ⟨[]⟩ ⟨[ptr b2]⟩ ∧ Cel F' b2 0 fi) := by
  refine Ct.enter Tryz.func45 rfl Tryz.ntmps45 rfl fun w0 a S => ?_
  refine wp_sr fun Kq1 hKq1 => ?_
  (refine wpl_box S rfl rfl rfl rfl rfl ?_; clear S a; intro b1 a w S)
  (refine wpl_p S rfl rfl rfl ?_; clear S a; intro a S)
  (refine wpList_nil (hKq1 _ _ (wp_sr fun Kq2 hKq2 => ?_)); try clear hKq1 Kq1)
  iterate 2 (refine wpl_p S rfl rfl rfl ?_; clear S a; intro a S)
  (refine wpList_nil (hKq2 _ _ ?_); try clear hKq2 Kq2)
  refine wp_ret ?_
  (have S' := frz1 S; clear S; obtain ⟨F5, hle5, h6, S⟩ := S')
  refine fin_ret S (results1 Tryz.results45 (RV.tmp S rfl)) ?_
  (exact ⟨b1, rfl, ⟨_, _, _, h6, by cases fi <;> first | rfl | cases h1⟩⟩)
theorem o1Ct (F : Heap) (c : Int) : Ct Tryz.prog 46 [.int .i64 c] F [] (fun _ _ u => u = .bool (ordT 0 c)) := by
  refine Ct.enter Tryz.func46 rfl Tryz.ntmps46 rfl fun w0 a S => ?_
  refine wp_sr fun Kq1 hKq1 => ?_
  (refine wpl_p S rfl rfl rfl ?_; clear S a; intro a S)
  (refine wpList_nil (hKq1 _ _ (wp_sr fun Kq2 hKq2 => ?_)); try clear hKq1 Kq1)
  iterate 3 (refine wpl_p S rfl rfl rfl ?_; clear S a; intro a S)
  (refine wpList_nil (hKq2 _ _ ?_); try clear hKq2 Kq2)
  exact wp_ret (fin_ret S (results1 Tryz.results46 (RV.tmp S rfl)) rfl)
theorem o2Ct (F : Heap) (c : Int) : Ct Tryz.prog 47 [.int .i64 c] F [] (fun _ _ u => u = .bool (ordT 1 c)) := by
  refine Ct.enter Tryz.func47 rfl Tryz.ntmps47 rfl fun w0 a S => ?_
  refine wp_sr fun Kq1 hKq1 => ?_
  (refine wpl_p S rfl rfl rfl ?_; clear S a; intro a S)
  (refine wpList_nil (hKq1 _ _ (wp_sr fun Kq2 hKq2 => ?_)); try clear hKq1 Kq1)
  iterate 3 (refine wpl_p S rfl rfl rfl ?_; clear S a; intro a S)
  (refine wpList_nil (hKq2 _ _ ?_); try clear hKq2 Kq2)
  refine wp_ret (fin_ret S (results1 Tryz.results47 (RV.tmp S rfl)) ?_)
  (show Value.bool (c != 0) = .bool (decide (c ≠ 0)); congr 1; by_cases h : c = 0 <;> simp [h])
theorem o3Ct (F : Heap) (c : Int) : Ct Tryz.prog 48 [.int .i64 c] F [] (fun _ _ u => u = .bool (ordT 2 c)) := by
  refine Ct.enter Tryz.func48 rfl Tryz.ntmps48 rfl fun w0 a S => ?_
  refine wp_sr fun Kq1 hKq1 => ?_
  (refine wpl_p S rfl rfl rfl ?_; clear S a; intro a S)
  (refine wpList_nil (hKq1 _ _ (wp_sr fun Kq2 hKq2 => ?_)); try clear hKq1 Kq1)
  iterate 3 (refine wpl_p S rfl rfl rfl ?_; clear S a; intro a S)
  (refine wpList_nil (hKq2 _ _ ?_); try clear hKq2 Kq2)
  exact wp_ret (fin_ret S (results1 Tryz.results48 (RV.tmp S rfl)) rfl)
theorem o4Ct (F : Heap) (c : Int) : Ct Tryz.prog 49 [.int .i64 c] F [] (fun _ _ u => u = .bool (ordT 3 c)) := by
  refine Ct.enter Tryz.func49 rfl Tryz.ntmps49 rfl fun w0 a S => ?_
  refine wp_sr fun Kq1 hKq1 => ?_
  (refine wpl_p S rfl rfl rfl ?_; clear S a; intro a S)
  (refine wpList_nil (hKq1 _ _ (wp_sr fun Kq2 hKq2 => ?_)); try clear hKq1 Kq1)
  iterate 3 (refine wpl_p S rfl rfl rfl ?_; clear S a; intro a S)
  (refine wpList_nil (hKq2 _ _ ?_); try clear hKq2 Kq2)
  exact wp_ret (fin_ret S (results1 Tryz.results49 (RV.tmp S rfl)) rfl)
theorem o5Ct (F : Heap) (c : Int) : Ct Tryz.prog 50 [.int .i64 c] F [] (fun _ _ u => u = .bool (ordT 4 c)) := by
  refine Ct.enter Tryz.func50 rfl Tryz.ntmps50 rfl fun w0 a S => ?_
  refine wp_sr fun Kq1 hKq1 => ?_
  (refine wpl_p S rfl rfl rfl ?_; clear S a; intro a S)
  (refine wpList_nil (hKq1 _ _ (wp_sr fun Kq2 hKq2 => ?_)); try clear hKq1 Kq1)
  iterate 3 (refine wpl_p S rfl rfl rfl ?_; clear S a; intro a S)
  (refine wpList_nil (hKq2 _ _ ?_); try clear hKq2 Kq2)
  exact wp_ret (fin_ret S (results1 Tryz.results50 (RV.tmp S rfl)) rfl)
theorem o6Ct (F : Heap) (c : Int) : Ct Tryz.prog 51 [.int .i64 c] F [] (fun _ _ u => u = .bool (ordT 5 c)) := by
  refine Ct.enter Tryz.func51 rfl Tryz.ntmps51 rfl fun w0 a S => ?_
  refine wp_sr fun Kq1 hKq1 => ?_
  (refine wpl_p S rfl rfl rfl ?_; clear S a; intro a S)
  (refine wpList_nil (hKq1 _ _ (wp_sr fun Kq2 hKq2 => ?_)); try clear hKq1 Kq1)
  iterate 3 (refine wpl_p S rfl rfl rfl ?_; clear S a; intro a S)
  (refine wpList_nil (hKq2 _ _ ?_); try clear hKq2 Kq2)
  exact wp_ret (fin_ret S (results1 Tryz.results51 (RV.tmp S rfl)) rfl)
/-! ### the map -/
/-- A function's value comes to that. -/
def Op2 (F : Heap) (u : Value) (f : Vv → Vv → Ans) : Prop := ∃ (fid : Nat) (ca : List Value), u = .func (.func fid) ⟨[]⟩ ⟨ca⟩ ∧ HasFn Tryz.prog fid ∧ ∀ (F' : Heap), (∀ b o, F b = some o → F' b = some o) → ∀ (x y : Vv) (cx cy : List Value), GV x → GV y → VaC F' cx x.1 x.2 → VaC F' cy y.1 y.2 →
  Ct Tryz.prog fid ([] ++ [.agg ⟨cx⟩, .agg ⟨cy⟩] ++ ca) F' [] (fun F2 _ u => AnsR F2 u (f x y))
theorem Op2.mono {F F' : Heap} {u : Value} {f : Vv → Vv → Ans} (hF : ∀ b o, F b = some o → F' b = some o) (h : Op2 F u f) : Op2 F' u f := by
  obtain ⟨fid, ca, h1, h2, h3⟩ := h
  exact ⟨fid, ca, h1, h2, fun F2 h4 => h3 F2 fun b o h5 => h4 _ _ (hF _ _ h5)⟩
def OpsM (F : Heap) : List (List UInt8 × Value) → List (List UInt8 × (Vv → Vv → Ans)) → Prop
  | [], [] => True
  | (k, u) :: es, (k2, f) :: l => k = k2 ∧ Op2 F u f ∧ OpsM F es l
  | _, _ => False
theorem OpsM.mono {F F' : Heap} (hF : ∀ b o, F b = some o → F' b = some o) : ∀ {es : List (List UInt8 × Value)} {l : List (List UInt8 × (Vv → Vv → Ans))}, OpsM F es l → OpsM F' es l
  | [], [], _ => trivial
  | [], _ :: _, h => h.elim
  | _ :: _, [], h => h.elim
  | (k, u) :: es, (k2, f) :: l, ⟨h1, h2, h3⟩ => ⟨h1, h2.mono hF, OpsM.mono hF h3⟩
theorem OpsM.get {F : Heap} : ∀ {es : List (List UInt8 × Value)} {l : List (List UInt8 × (Vv → Vv → Ans))}, OpsM F es l → ∀ s, (∃ f u, (l.find? fun x => decide (s = x.1)).map (·.2) = some f ∧ mGet es s = some u ∧ Op2 F u f) ∨ ((l.find? fun x => decide (s = x.1)).map (·.2) = none ∧ mGet es s = none)
  | [], [], _, s => .inr ⟨rfl, rfl⟩
  | [], _ :: _, h, _ => h.elim
  | _ :: _, [], h, _ => h.elim
  | (k, u) :: es, (k2, f) :: l, ⟨h1, h2, h3⟩, s => by
    subst h1
    unfold mGet
    rw [List.find?_cons, List.find?_cons]
    by_cases e : s = k
    · left
      refine ⟨f, u, ?_, ?_, h2⟩ <;> simp [e]
    · have h5 := OpsM.get h3 s
      unfold mGet at h5
      simpa [e] using h5
theorem num_op {F : Heap} {k : Nat} {b2 b3 fidI fidB : Nat} [HasFn Tryz.prog fidI] [HasFn Tryz.prog fidB] (h2 : Cel F b2 0 (.func (.func fidI) ⟨[]⟩ ⟨[]⟩)) (h3 : Cel F b3 0 (.func (.func fidB) ⟨[]⟩ ⟨[]⟩)) (hT : TabF F)
    (hI : ∀ (F : Heap) (x y : Int), in64 x → in64 y → Ct Tryz.prog fidI [.int .i64 x, .int .i64 y] F [] (fun _ _ u => u = cmpV (intO k x y))) (hB : ∀ (F : Heap), TabF F → ∀ (s t : List UInt8), s.length ≤ 1000000 → t.length ≤ 1000000 → Ct Tryz.prog fidB [.string (bs s), .string (bs t)] F [] (fun _ _ u => u = ansV (doA k s t)))
    (hd : ∀ s t, (doA k s t).1.length ≤ 140737488355328) : Op2 F (.func (.func 68) ⟨[]⟩ ⟨[ptr b2, ptr b3]⟩) (numO k) :=
  ⟨_, _, rfl, inferInstance, fun F' hF x y cx cy gx gy hx hy => num1Ct F' k b2 b3 fidI fidB (h2.mono hF) (h3.mono hF) (hI F') (hB F' (hT.mono hF)) x y cx cy gx gy hx hy (hd _ _)⟩
theorem ord_op {F : Heap} {k : Nat} {b fid : Nat} [HasFn Tryz.prog fid] (h2 : Cel F b 0 (.func (.func fid) ⟨[]⟩ ⟨[]⟩)) (hO : ∀ (F : Heap) (c : Int), Ct Tryz.prog fid [.int .i64 c] F [] (fun _ _ u => u = .bool (ordT k c))) : Op2 F (.func (.func 78) ⟨[]⟩ ⟨[ptr b]⟩) (ordO k) :=
  ⟨_, _, rfl, inferInstance, fun F' hF x y cx cy gx gy hx hy => ord1Ct F' k b fid (h2.mono hF) hO x y cx cy gx gy hx hy⟩
theorem cat_op (F : Heap) : Op2 F (.func (.func 52) ⟨[]⟩ ⟨[]⟩) catO :=
  ⟨_, _, rfl, inferInstance, fun F' hF x y cx cy gx gy hx hy => eTextsCt F' x y cx cy hx hy (Nat.le_trans gx.1.2 (by decide)) (Nat.le_trans gy.1.2 (by decide))⟩
end Go.Proofs.YtigblodhdfnleaaGreatDoor
