/- The walk of look. -/
import Derived.Test.YtigblodhdfnleaaGreatDoorDeX
namespace Go.Proofs.YtigblodhdfnleaaGreatDoor
open Go Go.Wk Go.Un Go.De
set_option linter.unusedSimpArgs false
set_option linter.unusedVariables false
attribute [local irreducible] Go.wpList Go.Code.wp Go.wpStill Go.Wk.wpPre Go.bodyPost Go.Calls Go.Wk.Ct Go.Wk.OwnS
attribute [local irreducible] Go.Wk.wpG Go.Wk.wpM

set_option maxRecDepth 20000 in
set_option maxHeartbeats 16000000 in
theorem lookCt (F : Heap) : ∀ (n : Nat) (vh : VH) (L : Vf) (cs : List Value), L.size ≤ n → VaC F cs vh L → Ct Tryz.prog 59 [.agg ⟨cs⟩] F [] (fun _ _ u => u = .tuple ⟨[.bool (formH vh L.len && formL L), .bool (fitsH vh L.len && fitsL L)]⟩) := by
  intro n
  induction n using Nat.strongRecOn with
  | _ n ih =>
  intro vh L cs hn hV
  obtain ⟨v, rfl, ⟨ao, cap, rfl, hcap, hpos⟩, hsb⟩ := hV
  refine Ct.enter Tryz.func59 rfl Tryz.ntmps59 rfl fun w0 a S => ?_
  refine wp_sr fun Kq1 hKq1 => ?_
  (refine wpl_box S rfl rfl rfl rfl rfl ?_; clear S a; intro b1 a w S)
  iterate 2 (refine wpl_p S rfl rfl rfl ?_; clear S a; intro a S)
  (refine wpList_nil (hKq1 _ _ (wp_seq_k fun Kq2 hKq2 => ?_)); try clear hKq1 Kq1)
  replace hKq2 : ∀ (a' : Act) (w' : World), (∃ p1 : Bool, St 182 [(1, ptr b1), (2, .bool p1), (3, .bool true)] w0 F [] F [[(b1, .cells ⟨[.int .u8 (vh.k : Int), .int .i64 vh.n, .string (bs vh.s), .slice ao L.len cap]⟩ 83 (0, 0))]] a' w') → Kq2 a' w' := (by
   (intro a w hM; refine hKq2 _ _ ?_; clear hKq2 Kq2; clear S; obtain ⟨p1, S⟩ := hM)
   (refine wp_seq_k ?_; intro Kq3 hKq3)
   replace hKq3 : ∀ (a' : Act) (w' : World), (∃ p1 p2 : Bool, p1 = formH vh L.len ∧ p2 = fitsH vh L.len ∧ St 182 [(1, ptr b1), (2, .bool p1), (3, .bool p2)] w0 F [] F [[(b1, .cells ⟨[.int .u8 (vh.k : Int), .int .i64 vh.n, .string (bs vh.s), .slice ao L.len cap]⟩ 83 (0, 0))]] a' w') → Kq3 a' w' := (by
    (intro a w hM; refine hKq3 _ _ ?_; clear hKq3 Kq3; clear S; obtain ⟨p1, p2, hp1, hp2, S⟩ := hM)
    (refine wp_seq_k ?_; intro Kq4 hKq4)
    refine wp_sr fun Kq5 hKq5 => ?_
    (refine wpl_f S rfl rfl rfl ?_; clear S a; intro a S)
    (refine wpl_l S rfl rfl rfl ?_; clear S a; intro a S)
    (refine wpl_n S rfl rfl rfl ?_; clear S a; intro a S)
    (refine wpl_p S rfl rfl rfl ?_; clear S a; intro a S)
    (refine wpList_nil (hKq5 _ _ ?_); try clear hKq5 Kq5)
    refine wp_block ?_
    refine wpc_loop (fun m a w' => ∃ (k : Nat) (q1 q2 : Bool), m = L.len - k ∧ k ≤ L.len ∧ (q1 && formL (L.drop k)) = (formH vh L.len && formL L) ∧ (q2 && fitsL (L.drop k)) = (fitsH vh L.len && fitsL L) ∧ St 182 [(1, ptr b1), (2, .bool q1), (3, .bool q2), (160, .slice ao L.len cap), (161, .int .i64 L.len), (162, .int .i64 k)] w0 F [] F [[(b1, .cells ⟨[.int .u8 (vh.k : Int), .int .i64 vh.n, .string (bs vh.s), .slice ao L.len cap]⟩ 83 (0, 0))]] a w') ?_ ?_
    · (refine ⟨L.len, 0, p1, p2, by omega, Nat.zero_le _, by rw [hp1]; rfl, by rw [hp2]; rfl, ?_⟩; refine S.keep ?_; repeat (first | exact trivial | refine ⟨rfl, ?_⟩))
    (clear S; rintro m a w ⟨k, q1, q2, rfl, hkl, hq1, hq2, S⟩)
    refine wp_sr fun Kq6 hKq6 => ?_
    (refine wpl_p S rfl rfl rfl ?_; clear S a; intro a S)
    (refine wpList_nil (hKq6 _ _ (wp_seq_k fun Kq7 hKq7 => ?_)); try clear hKq6 Kq6)
    refine wpc_split S rfl (fun h => ?_) (fun h => ?_)
    · (skip; (try simp only [tq] at h))
      refine wp_skip ?_
      (refine hKq7 _ _ ?_; try (clear hKq7 Kq7))
      (refine wp_seq_k ?_; intro Kq8 hKq8)
      refine wp_block ?_
      (refine wp_seq_k ?_; intro Kq9 hKq9)
      (obtain ⟨b8, o8, hao, x, cs1, v1, hx, hc1, hw9, hT1⟩ := TrM.pos hpos (k := k) (by omega); rw [hao] at S; have hxs := Rose.size_get hx; have hdr := Rose.drop_get hx; have hT1c := hT1; obtain ⟨a91, c91, rfl, -⟩ := hT1c; have hw9c := hw9.1; subst hw9c; (simp only [List.cons_append, List.nil_append] at hc1))
      refine wp_region_lit ?_
      (refine wpl_i S rfl rfl rfl ?_; clear S a; intro a S)
      (refine wpl_l S rfl rfl rfl ?_; clear S a; intro a S)
      (refine wpl_alloc S rfl rfl rfl rfl ?_; clear S a; intro b10 a w S)
      (refine wpl_storeO S rfl rfl rfl rfl rfl (by rfl) (by simp [Value.cells, Value.oneCell', splice]) (by rfl) ?_; clear S; intro w S)
      (refine wpList_nil (hKq9 _ _ (wp_sr fun Kq10 hKq10 => ?_)); try clear hKq9 Kq9)
      (refine wpl_l S rfl rfl rfl ?_; clear S a; intro a S)
      (refine wpl_call0 S rfl rfl rfl rfl rfl rfl (ih x.2.size (by omega) x.1 x.2 _ (Nat.le_refl _) ⟨_, rfl, hT1, hw9.2⟩) rfl ?_; clear S a; intro v a w hv S; subst hv)
      iterate 5 (refine wpl_p S rfl rfl rfl ?_; clear S a; intro a S)
      (refine wpList_nil (hKq10 _ _ ?_); try clear hKq10 Kq10)
      refine wp_region_lit ?_
      iterate 2 (refine wpl_p S rfl rfl rfl ?_; clear S a; intro a S)
      refine wpl_guard S rfl rfl rfl rfl rfl ?_ ?_
      · (intro h S'; clear S; have S := S'; clear S'; (try simp only [tq] at h))
        iterate 4 (refine wpl_p S rfl rfl rfl ?_; clear S a; intro a S)
        refine wpl_guard S rfl rfl rfl rfl rfl ?_ ?_
        · (intro h S'; clear S; have S := S'; clear S'; (try simp only [tq] at h))
          iterate 4 (refine wpl_p S rfl rfl rfl ?_; clear S a; intro a S)
          (refine wpList_nil (hKq8 _ _ ?_); try clear hKq8 Kq8)
          refine wp_region_lit ?_
          (refine wpl_a S rfl rfl rfl ?_; clear S a; intro a S)
          (refine wpl_p S rfl rfl rfl ?_; clear S a; intro a S)
          refine wpList_nil ?_
          change ∃ m', _ ∧ _
          (rw [← hao] at S; replace S := S.drop1; refine ⟨L.len - (k + 1), by omega, k + 1, ?_⟩; apply Exists.intro; apply Exists.intro; refine ⟨rfl, by omega, ?_, ?_, ?_⟩; rotate_left 2; (refine S.keep ?_; repeat (first | exact trivial | refine ⟨rfl, ?_⟩)); (rw [← hq1]; first | rw [hdr, formL_cons, (by assumption : q1 = true), Bool.true_and] | (rw [(by assumption : q1 = false), Bool.false_and, Bool.false_and])); (rw [← hq2]; first | rw [hdr, fitsL_cons, (by assumption : q2 = true), Bool.true_and] | (rw [(by assumption : q2 = false), Bool.false_and, Bool.false_and])))
        (intro h; clear S a; intro a S; (try simp only [tq] at h))
        iterate 3 (refine wpl_p S rfl rfl rfl ?_; clear S a; intro a S)
        (refine wpList_nil (hKq8 _ _ ?_); try clear hKq8 Kq8)
        refine wp_region_lit ?_
        (refine wpl_a S rfl rfl rfl ?_; clear S a; intro a S)
        (refine wpl_p S rfl rfl rfl ?_; clear S a; intro a S)
        refine wpList_nil ?_
        change ∃ m', _ ∧ _
        (rw [← hao] at S; replace S := S.drop1; refine ⟨L.len - (k + 1), by omega, k + 1, ?_⟩; apply Exists.intro; apply Exists.intro; refine ⟨rfl, by omega, ?_, ?_, ?_⟩; rotate_left 2; (refine S.keep ?_; repeat (first | exact trivial | refine ⟨rfl, ?_⟩)); (rw [← hq1]; first | rw [hdr, formL_cons, (by assumption : q1 = true), Bool.true_and] | (rw [(by assumption : q1 = false), Bool.false_and, Bool.false_and])); (rw [← hq2]; first | rw [hdr, fitsL_cons, (by assumption : q2 = true), Bool.true_and] | (rw [(by assumption : q2 = false), Bool.false_and, Bool.false_and])))
      (intro h; clear S a; intro a S; (try simp only [tq] at h))
      iterate 3 (refine wpl_p S rfl rfl rfl ?_; clear S a; intro a S)
      refine wpl_guard S rfl rfl rfl rfl rfl ?_ ?_
      · (intro h S'; clear S; have S := S'; clear S'; (try simp only [tq] at h))
        iterate 4 (refine wpl_p S rfl rfl rfl ?_; clear S a; intro a S)
        (refine wpList_nil (hKq8 _ _ ?_); try clear hKq8 Kq8)
        refine wp_region_lit ?_
        (refine wpl_a S rfl rfl rfl ?_; clear S a; intro a S)
        (refine wpl_p S rfl rfl rfl ?_; clear S a; intro a S)
        refine wpList_nil ?_
        change ∃ m', _ ∧ _
        (rw [← hao] at S; replace S := S.drop1; refine ⟨L.len - (k + 1), by omega, k + 1, ?_⟩; apply Exists.intro; apply Exists.intro; refine ⟨rfl, by omega, ?_, ?_, ?_⟩; rotate_left 2; (refine S.keep ?_; repeat (first | exact trivial | refine ⟨rfl, ?_⟩)); (rw [← hq1]; first | rw [hdr, formL_cons, (by assumption : q1 = true), Bool.true_and] | (rw [(by assumption : q1 = false), Bool.false_and, Bool.false_and])); (rw [← hq2]; first | rw [hdr, fitsL_cons, (by assumption : q2 = true), Bool.true_and] | (rw [(by assumption : q2 = false), Bool.false_and, Bool.false_and])))
      (intro h; clear S a; intro a S; (try simp only [tq] at h))
      iterate 3 (refine wpl_p S rfl rfl rfl ?_; clear S a; intro a S)
      (refine wpList_nil (hKq8 _ _ ?_); try clear hKq8 Kq8)
      refine wp_region_lit ?_
      (refine wpl_a S rfl rfl rfl ?_; clear S a; intro a S)
      (refine wpl_p S rfl rfl rfl ?_; clear S a; intro a S)
      refine wpList_nil ?_
      change ∃ m', _ ∧ _
      (rw [← hao] at S; replace S := S.drop1; refine ⟨L.len - (k + 1), by omega, k + 1, ?_⟩; apply Exists.intro; apply Exists.intro; refine ⟨rfl, by omega, ?_, ?_, ?_⟩; rotate_left 2; (refine S.keep ?_; repeat (first | exact trivial | refine ⟨rfl, ?_⟩)); (rw [← hq1]; first | rw [hdr, formL_cons, (by assumption : q1 = true), Bool.true_and] | (rw [(by assumption : q1 = false), Bool.false_and, Bool.false_and])); (rw [← hq2]; first | rw [hdr, fitsL_cons, (by assumption : q2 = true), Bool.true_and] | (rw [(by assumption : q2 = false), Bool.false_and, Bool.false_and])))
    (skip; (try simp only [tq] at h))
    refine wp_exit ?_
    (refine hKq4 _ _ ?_; try (clear hKq4 Kq4))
    refine wp_sr fun Kq8 hKq8 => ?_
    iterate 4 (refine wpl_p S rfl rfl rfl ?_; clear S a; intro a S)
    (refine wpList_nil (hKq8 _ _ ?_); try clear hKq8 Kq8)
    refine wp_ret (fin_ret S (results2 Tryz.results59 (RV.tmp S rfl) (RV.tmp S rfl)) ?_)
    (rw [← hq1, ← hq2, Rose.drop_len (by omega)]; rw [show formL .nil = true from rfl, show fitsL .nil = true from rfl, Bool.and_true, Bool.and_true]))
   refine wp_sr fun Kq9 hKq9 => ?_
   (refine wpl_f S rfl rfl rfl ?_; clear S a; intro a S)
   (refine wpl_l S rfl rfl rfl ?_; clear S a; intro a S)
   (refine wpList_nil (hKq9 _ _ ?_); try clear hKq9 Kq9)
   refine wp_block ?_
   refine wp_sr fun Kq10 hKq10 => ?_
   iterate 2 (refine wpl_p S rfl rfl rfl ?_; clear S a; intro a S)
   (refine wpList_nil (hKq10 _ _ ?_); try clear hKq10 Kq10)
   refine wpc_split S rfl (fun h => ?_) (fun h => ?_)
   · (skip; (try simp only [tq] at h))
     refine wp_region_lit ?_
     (refine wpl_f S rfl rfl rfl ?_; clear S a; intro a S)
     (refine wpl_l S rfl rfl rfl ?_; clear S a; intro a S)
     iterate 2 (refine wpl_p S rfl rfl rfl ?_; clear S a; intro a S)
     refine wpl_guard S rfl rfl rfl rfl rfl ?_ ?_
     · (intro h S'; clear S; have S := S'; clear S'; (try simp only [tq] at h))
       (refine wpl_f S rfl rfl rfl ?_; clear S a; intro a S)
       refine wpl_take S rfl rfl rfl ?_
       (refine wpl_l S rfl rfl rfl ?_; clear S a; intro a S)
       refine wpl_take S rfl rfl rfl ?_
       iterate 3 (refine wpl_p S rfl rfl rfl ?_; clear S a; intro a S)
       refine wpl_guard S rfl rfl rfl rfl rfl ?_ ?_
       · (intro h S'; clear S; have S := S'; clear S'; (try simp only [tq] at h))
         (refine wpl_f S rfl rfl rfl ?_; clear S a; intro a S)
         refine wpl_take S rfl rfl rfl ?_
         (refine wpl_l S rfl rfl rfl ?_; clear S a; intro a S)
         refine wpl_take S rfl rfl rfl ?_
         iterate 3 (refine wpl_p S rfl rfl rfl ?_; clear S a; intro a S)
         refine wpl_guard S rfl rfl rfl rfl rfl ?_ ?_
         · (intro h S'; clear S; have S := S'; clear S'; (try simp only [tq] at h))
           (refine wpl_f S rfl rfl rfl ?_; clear S a; intro a S)
           refine wpl_take S rfl rfl rfl ?_
           (refine wpl_l S rfl rfl rfl ?_; clear S a; intro a S)
           refine wpl_take S rfl rfl rfl ?_
           (refine wpl_n S rfl rfl rfl ?_; clear S a; intro a S)
           refine wpl_take S rfl rfl rfl ?_
           iterate 3 (refine wpl_p S rfl rfl rfl ?_; clear S a; intro a S)
           refine wpList_nil ?_
           (refine hKq3 _ _ ?_)
           (apply Exists.intro; apply Exists.intro; refine ⟨?_, ?_, ?_⟩; rotate_left 2; (refine S.keep ?_; repeat (first | exact trivial | refine ⟨rfl, ?_⟩)); (clear S hKq3 Kq3 ih; first | (exact absurd ((by assumption : cutC vh.s = true).symm.trans (by assumption : cutC vh.s = false)) (by decide)) | (unfold formH; first | (rw [if_neg (by omega), if_neg (by omega), if_neg (by omega), if_neg (by omega), if_neg (by omega), if_pos (by omega), (by assumption : cutC vh.s = false), decide_eq_false (fun h9 : vh.s ≠ sTrue ∧ vh.s ≠ sFalse => h9.1 (by assumption))]; simp) | (rw [if_pos (by omega)] <;> (rw [Bool.eq_iff_iff]; simp [*, sTrue, sFalse] <;> omega)) | (rw [if_neg (by omega), if_pos (by omega)] <;> (rw [Bool.eq_iff_iff]; simp [*, sTrue, sFalse] <;> omega)) | (rw [if_neg (by omega), if_neg (by omega), if_pos (by omega)] <;> (rw [Bool.eq_iff_iff]; simp [*, sTrue, sFalse] <;> omega)) | (rw [if_neg (by omega), if_neg (by omega), if_neg (by omega), if_pos (by omega)] <;> (rw [Bool.eq_iff_iff]; simp [*, sTrue, sFalse] <;> omega)) | (rw [if_neg (by omega), if_neg (by omega), if_neg (by omega), if_neg (by omega), if_pos (by omega)] <;> (rw [Bool.eq_iff_iff]; simp [*, sTrue, sFalse] <;> omega)) | (rw [if_neg (by omega), if_neg (by omega), if_neg (by omega), if_neg (by omega), if_neg (by omega), if_pos (by omega)] <;> (rw [Bool.eq_iff_iff]; simp [*, sTrue, sFalse] <;> omega)) | (rw [if_neg (by omega), if_neg (by omega), if_neg (by omega), if_neg (by omega), if_neg (by omega), if_neg (by omega)]) | (rw [if_neg (by omega), if_neg (by omega), if_neg (by omega), if_neg (by omega)]) | done)); (clear S hKq3 Kq3 ih; first | (exact absurd ((by assumption : cutC vh.s = true).symm.trans (by assumption : cutC vh.s = false)) (by decide)) | (unfold fitsH; first | (rw [if_pos (by omega)] <;> (rw [Bool.eq_iff_iff]; simp [*, sTrue, sFalse] <;> omega)) | (rw [if_neg (by omega), if_pos (by omega)] <;> (rw [Bool.eq_iff_iff]; simp [*, sTrue, sFalse] <;> omega)) | (rw [if_neg (by omega), if_neg (by omega), if_pos (by omega)] <;> (rw [Bool.eq_iff_iff]; simp [*, sTrue, sFalse] <;> omega)) | (rw [if_neg (by omega), if_neg (by omega), if_neg (by omega), if_pos (by omega)] <;> (rw [Bool.eq_iff_iff]; simp [*, sTrue, sFalse] <;> omega)) | (rw [if_neg (by omega), if_neg (by omega), if_neg (by omega), if_neg (by omega), if_pos (by omega)] <;> (rw [Bool.eq_iff_iff]; simp [*, sTrue, sFalse] <;> omega)) | (rw [if_neg (by omega), if_neg (by omega), if_neg (by omega), if_neg (by omega), if_neg (by omega), if_pos (by omega)] <;> (rw [Bool.eq_iff_iff]; simp [*, sTrue, sFalse] <;> omega)) | (rw [if_neg (by omega), if_neg (by omega), if_neg (by omega), if_neg (by omega), if_neg (by omega), if_neg (by omega)]) | (rw [if_neg (by omega), if_neg (by omega), if_neg (by omega), if_neg (by omega)]) | done)))
         (intro h; clear S a; intro a S; (try simp only [tq] at h))
         iterate 3 (refine wpl_skip S rfl rfl rfl rfl rfl ?_; clear S a; intro a S)
         iterate 2 (refine wpl_p S rfl rfl rfl ?_; clear S a; intro a S)
         refine wpList_nil ?_
         (refine hKq3 _ _ ?_)
         (apply Exists.intro; apply Exists.intro; refine ⟨?_, ?_, ?_⟩; rotate_left 2; (refine S.keep ?_; repeat (first | exact trivial | refine ⟨rfl, ?_⟩)); (clear S hKq3 Kq3 ih; first | (exact absurd ((by assumption : cutC vh.s = true).symm.trans (by assumption : cutC vh.s = false)) (by decide)) | (unfold formH; first | (rw [if_neg (by omega), if_neg (by omega), if_neg (by omega), if_neg (by omega), if_neg (by omega), if_pos (by omega), (by assumption : cutC vh.s = false), decide_eq_false (fun h9 : vh.s ≠ sTrue ∧ vh.s ≠ sFalse => h9.1 (by assumption))]; simp) | (rw [if_pos (by omega)] <;> (rw [Bool.eq_iff_iff]; simp [*, sTrue, sFalse] <;> omega)) | (rw [if_neg (by omega), if_pos (by omega)] <;> (rw [Bool.eq_iff_iff]; simp [*, sTrue, sFalse] <;> omega)) | (rw [if_neg (by omega), if_neg (by omega), if_pos (by omega)] <;> (rw [Bool.eq_iff_iff]; simp [*, sTrue, sFalse] <;> omega)) | (rw [if_neg (by omega), if_neg (by omega), if_neg (by omega), if_pos (by omega)] <;> (rw [Bool.eq_iff_iff]; simp [*, sTrue, sFalse] <;> omega)) | (rw [if_neg (by omega), if_neg (by omega), if_neg (by omega), if_neg (by omega), if_pos (by omega)] <;> (rw [Bool.eq_iff_iff]; simp [*, sTrue, sFalse] <;> omega)) | (rw [if_neg (by omega), if_neg (by omega), if_neg (by omega), if_neg (by omega), if_neg (by omega), if_pos (by omega)] <;> (rw [Bool.eq_iff_iff]; simp [*, sTrue, sFalse] <;> omega)) | (rw [if_neg (by omega), if_neg (by omega), if_neg (by omega), if_neg (by omega), if_neg (by omega), if_neg (by omega)]) | (rw [if_neg (by omega), if_neg (by omega), if_neg (by omega), if_neg (by omega)]) | done)); (clear S hKq3 Kq3 ih; first | (exact absurd ((by assumption : cutC vh.s = true).symm.trans (by assumption : cutC vh.s = false)) (by decide)) | (unfold fitsH; first | (rw [if_pos (by omega)] <;> (rw [Bool.eq_iff_iff]; simp [*, sTrue, sFalse] <;> omega)) | (rw [if_neg (by omega), if_pos (by omega)] <;> (rw [Bool.eq_iff_iff]; simp [*, sTrue, sFalse] <;> omega)) | (rw [if_neg (by omega), if_neg (by omega), if_pos (by omega)] <;> (rw [Bool.eq_iff_iff]; simp [*, sTrue, sFalse] <;> omega)) | (rw [if_neg (by omega), if_neg (by omega), if_neg (by omega), if_pos (by omega)] <;> (rw [Bool.eq_iff_iff]; simp [*, sTrue, sFalse] <;> omega)) | (rw [if_neg (by omega), if_neg (by omega), if_neg (by omega), if_neg (by omega), if_pos (by omega)] <;> (rw [Bool.eq_iff_iff]; simp [*, sTrue, sFalse] <;> omega)) | (rw [if_neg (by omega), if_neg (by omega), if_neg (by omega), if_neg (by omega), if_neg (by omega), if_pos (by omega)] <;> (rw [Bool.eq_iff_iff]; simp [*, sTrue, sFalse] <;> omega)) | (rw [if_neg (by omega), if_neg (by omega), if_neg (by omega), if_neg (by omega), if_neg (by omega), if_neg (by omega)]) | (rw [if_neg (by omega), if_neg (by omega), if_neg (by omega), if_neg (by omega)]) | done)))
       (intro h; clear S a; intro a S; (try simp only [tq] at h))
       iterate 2 (refine wpl_skip S rfl rfl rfl rfl rfl ?_; clear S a; intro a S)
       iterate 2 (refine wpl_p S rfl rfl rfl ?_; clear S a; intro a S)
       iterate 4 (refine wpl_skip S rfl rfl rfl rfl rfl ?_; clear S a; intro a S)
       iterate 2 (refine wpl_p S rfl rfl rfl ?_; clear S a; intro a S)
       refine wpList_nil ?_
       (refine hKq3 _ _ ?_)
       (apply Exists.intro; apply Exists.intro; refine ⟨?_, ?_, ?_⟩; rotate_left 2; (refine S.keep ?_; repeat (first | exact trivial | refine ⟨rfl, ?_⟩)); (clear S hKq3 Kq3 ih; first | (exact absurd ((by assumption : cutC vh.s = true).symm.trans (by assumption : cutC vh.s = false)) (by decide)) | (unfold formH; first | (rw [if_neg (by omega), if_neg (by omega), if_neg (by omega), if_neg (by omega), if_neg (by omega), if_pos (by omega), (by assumption : cutC vh.s = false), decide_eq_false (fun h9 : vh.s ≠ sTrue ∧ vh.s ≠ sFalse => h9.1 (by assumption))]; simp) | (rw [if_pos (by omega)] <;> (rw [Bool.eq_iff_iff]; simp [*, sTrue, sFalse] <;> omega)) | (rw [if_neg (by omega), if_pos (by omega)] <;> (rw [Bool.eq_iff_iff]; simp [*, sTrue, sFalse] <;> omega)) | (rw [if_neg (by omega), if_neg (by omega), if_pos (by omega)] <;> (rw [Bool.eq_iff_iff]; simp [*, sTrue, sFalse] <;> omega)) | (rw [if_neg (by omega), if_neg (by omega), if_neg (by omega), if_pos (by omega)] <;> (rw [Bool.eq_iff_iff]; simp [*, sTrue, sFalse] <;> omega)) | (rw [if_neg (by omega), if_neg (by omega), if_neg (by omega), if_neg (by omega), if_pos (by omega)] <;> (rw [Bool.eq_iff_iff]; simp [*, sTrue, sFalse] <;> omega)) | (rw [if_neg (by omega), if_neg (by omega), if_neg (by omega), if_neg (by omega), if_neg (by omega), if_pos (by omega)] <;> (rw [Bool.eq_iff_iff]; simp [*, sTrue, sFalse] <;> omega)) | (rw [if_neg (by omega), if_neg (by omega), if_neg (by omega), if_neg (by omega), if_neg (by omega), if_neg (by omega)]) | (rw [if_neg (by omega), if_neg (by omega), if_neg (by omega), if_neg (by omega)]) | done)); (clear S hKq3 Kq3 ih; first | (exact absurd ((by assumption : cutC vh.s = true).symm.trans (by assumption : cutC vh.s = false)) (by decide)) | (unfold fitsH; first | (rw [if_pos (by omega)] <;> (rw [Bool.eq_iff_iff]; simp [*, sTrue, sFalse] <;> omega)) | (rw [if_neg (by omega), if_pos (by omega)] <;> (rw [Bool.eq_iff_iff]; simp [*, sTrue, sFalse] <;> omega)) | (rw [if_neg (by omega), if_neg (by omega), if_pos (by omega)] <;> (rw [Bool.eq_iff_iff]; simp [*, sTrue, sFalse] <;> omega)) | (rw [if_neg (by omega), if_neg (by omega), if_neg (by omega), if_pos (by omega)] <;> (rw [Bool.eq_iff_iff]; simp [*, sTrue, sFalse] <;> omega)) | (rw [if_neg (by omega), if_neg (by omega), if_neg (by omega), if_neg (by omega), if_pos (by omega)] <;> (rw [Bool.eq_iff_iff]; simp [*, sTrue, sFalse] <;> omega)) | (rw [if_neg (by omega), if_neg (by omega), if_neg (by omega), if_neg (by omega), if_neg (by omega), if_pos (by omega)] <;> (rw [Bool.eq_iff_iff]; simp [*, sTrue, sFalse] <;> omega)) | (rw [if_neg (by omega), if_neg (by omega), if_neg (by omega), if_neg (by omega), if_neg (by omega), if_neg (by omega)]) | (rw [if_neg (by omega), if_neg (by omega), if_neg (by omega), if_neg (by omega)]) | done)))
     (intro h; clear S a; intro a S; (try simp only [tq] at h))
     iterate 2 (refine wpl_skip S rfl rfl rfl rfl rfl ?_; clear S a; intro a S)
     iterate 2 (refine wpl_p S rfl rfl rfl ?_; clear S a; intro a S)
     refine wpl_take S rfl rfl rfl ?_
     (refine wpl_f S rfl rfl rfl ?_; clear S a; intro a S)
     refine wpl_take S rfl rfl rfl ?_
     (refine wpl_l S rfl rfl rfl ?_; clear S a; intro a S)
     refine wpl_take S rfl rfl rfl ?_
     iterate 3 (refine wpl_p S rfl rfl rfl ?_; clear S a; intro a S)
     refine wpl_guard S rfl rfl rfl rfl rfl ?_ ?_
     · (intro h S'; clear S; have S := S'; clear S'; (try simp only [tq] at h))
       (refine wpl_f S rfl rfl rfl ?_; clear S a; intro a S)
       refine wpl_take S rfl rfl rfl ?_
       (refine wpl_l S rfl rfl rfl ?_; clear S a; intro a S)
       refine wpl_take S rfl rfl rfl ?_
       (refine wpl_n S rfl rfl rfl ?_; clear S a; intro a S)
       refine wpl_take S rfl rfl rfl ?_
       iterate 3 (refine wpl_p S rfl rfl rfl ?_; clear S a; intro a S)
       refine wpList_nil ?_
       (refine hKq3 _ _ ?_)
       (apply Exists.intro; apply Exists.intro; refine ⟨?_, ?_, ?_⟩; rotate_left 2; (refine S.keep ?_; repeat (first | exact trivial | refine ⟨rfl, ?_⟩)); (clear S hKq3 Kq3 ih; first | (exact absurd ((by assumption : cutC vh.s = true).symm.trans (by assumption : cutC vh.s = false)) (by decide)) | (unfold formH; first | (rw [if_neg (by omega), if_neg (by omega), if_neg (by omega), if_neg (by omega), if_neg (by omega), if_pos (by omega), (by assumption : cutC vh.s = false), decide_eq_false (fun h9 : vh.s ≠ sTrue ∧ vh.s ≠ sFalse => h9.1 (by assumption))]; simp) | (rw [if_pos (by omega)] <;> (rw [Bool.eq_iff_iff]; simp [*, sTrue, sFalse] <;> omega)) | (rw [if_neg (by omega), if_pos (by omega)] <;> (rw [Bool.eq_iff_iff]; simp [*, sTrue, sFalse] <;> omega)) | (rw [if_neg (by omega), if_neg (by omega), if_pos (by omega)] <;> (rw [Bool.eq_iff_iff]; simp [*, sTrue, sFalse] <;> omega)) | (rw [if_neg (by omega), if_neg (by omega), if_neg (by omega), if_pos (by omega)] <;> (rw [Bool.eq_iff_iff]; simp [*, sTrue, sFalse] <;> omega)) | (rw [if_neg (by omega), if_neg (by omega), if_neg (by omega), if_neg (by omega), if_pos (by omega)] <;> (rw [Bool.eq_iff_iff]; simp [*, sTrue, sFalse] <;> omega)) | (rw [if_neg (by omega), if_neg (by omega), if_neg (by omega), if_neg (by omega), if_neg (by omega), if_pos (by omega)] <;> (rw [Bool.eq_iff_iff]; simp [*, sTrue, sFalse] <;> omega)) | (rw [if_neg (by omega), if_neg (by omega), if_neg (by omega), if_neg (by omega), if_neg (by omega), if_neg (by omega)]) | (rw [if_neg (by omega), if_neg (by omega), if_neg (by omega), if_neg (by omega)]) | done)); (clear S hKq3 Kq3 ih; first | (exact absurd ((by assumption : cutC vh.s = true).symm.trans (by assumption : cutC vh.s = false)) (by decide)) | (unfold fitsH; first | (rw [if_pos (by omega)] <;> (rw [Bool.eq_iff_iff]; simp [*, sTrue, sFalse] <;> omega)) | (rw [if_neg (by omega), if_pos (by omega)] <;> (rw [Bool.eq_iff_iff]; simp [*, sTrue, sFalse] <;> omega)) | (rw [if_neg (by omega), if_neg (by omega), if_pos (by omega)] <;> (rw [Bool.eq_iff_iff]; simp [*, sTrue, sFalse] <;> omega)) | (rw [if_neg (by omega), if_neg (by omega), if_neg (by omega), if_pos (by omega)] <;> (rw [Bool.eq_iff_iff]; simp [*, sTrue, sFalse] <;> omega)) | (rw [if_neg (by omega), if_neg (by omega), if_neg (by omega), if_neg (by omega), if_pos (by omega)] <;> (rw [Bool.eq_iff_iff]; simp [*, sTrue, sFalse] <;> omega)) | (rw [if_neg (by omega), if_neg (by omega), if_neg (by omega), if_neg (by omega), if_neg (by omega), if_pos (by omega)] <;> (rw [Bool.eq_iff_iff]; simp [*, sTrue, sFalse] <;> omega)) | (rw [if_neg (by omega), if_neg (by omega), if_neg (by omega), if_neg (by omega), if_neg (by omega), if_neg (by omega)]) | (rw [if_neg (by omega), if_neg (by omega), if_neg (by omega), if_neg (by omega)]) | done)))
     (intro h; clear S a; intro a S; (try simp only [tq] at h))
     iterate 3 (refine wpl_skip S rfl rfl rfl rfl rfl ?_; clear S a; intro a S)
     iterate 2 (refine wpl_p S rfl rfl rfl ?_; clear S a; intro a S)
     refine wpList_nil ?_
     (refine hKq3 _ _ ?_)
     (apply Exists.intro; apply Exists.intro; refine ⟨?_, ?_, ?_⟩; rotate_left 2; (refine S.keep ?_; repeat (first | exact trivial | refine ⟨rfl, ?_⟩)); (clear S hKq3 Kq3 ih; first | (exact absurd ((by assumption : cutC vh.s = true).symm.trans (by assumption : cutC vh.s = false)) (by decide)) | (unfold formH; first | (rw [if_neg (by omega), if_neg (by omega), if_neg (by omega), if_neg (by omega), if_neg (by omega), if_pos (by omega), (by assumption : cutC vh.s = false), decide_eq_false (fun h9 : vh.s ≠ sTrue ∧ vh.s ≠ sFalse => h9.1 (by assumption))]; simp) | (rw [if_pos (by omega)] <;> (rw [Bool.eq_iff_iff]; simp [*, sTrue, sFalse] <;> omega)) | (rw [if_neg (by omega), if_pos (by omega)] <;> (rw [Bool.eq_iff_iff]; simp [*, sTrue, sFalse] <;> omega)) | (rw [if_neg (by omega), if_neg (by omega), if_pos (by omega)] <;> (rw [Bool.eq_iff_iff]; simp [*, sTrue, sFalse] <;> omega)) | (rw [if_neg (by omega), if_neg (by omega), if_neg (by omega), if_pos (by omega)] <;> (rw [Bool.eq_iff_iff]; simp [*, sTrue, sFalse] <;> omega)) | (rw [if_neg (by omega), if_neg (by omega), if_neg (by omega), if_neg (by omega), if_pos (by omega)] <;> (rw [Bool.eq_iff_iff]; simp [*, sTrue, sFalse] <;> omega)) | (rw [if_neg (by omega), if_neg (by omega), if_neg (by omega), if_neg (by omega), if_neg (by omega), if_pos (by omega)] <;> (rw [Bool.eq_iff_iff]; simp [*, sTrue, sFalse] <;> omega)) | (rw [if_neg (by omega), if_neg (by omega), if_neg (by omega), if_neg (by omega), if_neg (by omega), if_neg (by omega)]) | (rw [if_neg (by omega), if_neg (by omega), if_neg (by omega), if_neg (by omega)]) | done)); (clear S hKq3 Kq3 ih; first | (exact absurd ((by assumption : cutC vh.s = true).symm.trans (by assumption : cutC vh.s = false)) (by decide)) | (unfold fitsH; first | (rw [if_pos (by omega)] <;> (rw [Bool.eq_iff_iff]; simp [*, sTrue, sFalse] <;> omega)) | (rw [if_neg (by omega), if_pos (by omega)] <;> (rw [Bool.eq_iff_iff]; simp [*, sTrue, sFalse] <;> omega)) | (rw [if_neg (by omega), if_neg (by omega), if_pos (by omega)] <;> (rw [Bool.eq_iff_iff]; simp [*, sTrue, sFalse] <;> omega)) | (rw [if_neg (by omega), if_neg (by omega), if_neg (by omega), if_pos (by omega)] <;> (rw [Bool.eq_iff_iff]; simp [*, sTrue, sFalse] <;> omega)) | (rw [if_neg (by omega), if_neg (by omega), if_neg (by omega), if_neg (by omega), if_pos (by omega)] <;> (rw [Bool.eq_iff_iff]; simp [*, sTrue, sFalse] <;> omega)) | (rw [if_neg (by omega), if_neg (by omega), if_neg (by omega), if_neg (by omega), if_neg (by omega), if_pos (by omega)] <;> (rw [Bool.eq_iff_iff]; simp [*, sTrue, sFalse] <;> omega)) | (rw [if_neg (by omega), if_neg (by omega), if_neg (by omega), if_neg (by omega), if_neg (by omega), if_neg (by omega)]) | (rw [if_neg (by omega), if_neg (by omega), if_neg (by omega), if_neg (by omega)]) | done)))
   (skip; (try simp only [tq] at h))
   refine wp_sr fun Kq11 hKq11 => ?_
   iterate 2 (refine wpl_p S rfl rfl rfl ?_; clear S a; intro a S)
   (refine wpList_nil (hKq11 _ _ ?_); try clear hKq11 Kq11)
   refine wpc_split S rfl (fun h => ?_) (fun h => ?_)
   · (skip; (try simp only [tq] at h))
     refine wp_region_lit ?_
     (refine wpl_f S rfl rfl rfl ?_; clear S a; intro a S)
     (refine wpl_l S rfl rfl rfl ?_; clear S a; intro a S)
     iterate 2 (refine wpl_p S rfl rfl rfl ?_; clear S a; intro a S)
     refine wpl_guard S rfl rfl rfl rfl rfl ?_ ?_
     · (intro h S'; clear S; have S := S'; clear S'; (try simp only [tq] at h))
       (refine wpl_f S rfl rfl rfl ?_; clear S a; intro a S)
       refine wpl_take S rfl rfl rfl ?_
       (refine wpl_l S rfl rfl rfl ?_; clear S a; intro a S)
       refine wpl_take S rfl rfl rfl ?_
       (refine wpl_n S rfl rfl rfl ?_; clear S a; intro a S)
       refine wpl_take S rfl rfl rfl ?_
       iterate 3 (refine wpl_p S rfl rfl rfl ?_; clear S a; intro a S)
       refine wpList_nil ?_
       (refine hKq3 _ _ ?_)
       (apply Exists.intro; apply Exists.intro; refine ⟨?_, ?_, ?_⟩; rotate_left 2; (refine S.keep ?_; repeat (first | exact trivial | refine ⟨rfl, ?_⟩)); (clear S hKq3 Kq3 ih; first | (exact absurd ((by assumption : cutC vh.s = true).symm.trans (by assumption : cutC vh.s = false)) (by decide)) | (unfold formH; first | (rw [if_neg (by omega), if_neg (by omega), if_neg (by omega), if_neg (by omega), if_neg (by omega), if_pos (by omega), (by assumption : cutC vh.s = false), decide_eq_false (fun h9 : vh.s ≠ sTrue ∧ vh.s ≠ sFalse => h9.1 (by assumption))]; simp) | (rw [if_pos (by omega)] <;> (rw [Bool.eq_iff_iff]; simp [*, sTrue, sFalse] <;> omega)) | (rw [if_neg (by omega), if_pos (by omega)] <;> (rw [Bool.eq_iff_iff]; simp [*, sTrue, sFalse] <;> omega)) | (rw [if_neg (by omega), if_neg (by omega), if_pos (by omega)] <;> (rw [Bool.eq_iff_iff]; simp [*, sTrue, sFalse] <;> omega)) | (rw [if_neg (by omega), if_neg (by omega), if_neg (by omega), if_pos (by omega)] <;> (rw [Bool.eq_iff_iff]; simp [*, sTrue, sFalse] <;> omega)) | (rw [if_neg (by omega), if_neg (by omega), if_neg (by omega), if_neg (by omega), if_pos (by omega)] <;> (rw [Bool.eq_iff_iff]; simp [*, sTrue, sFalse] <;> omega)) | (rw [if_neg (by omega), if_neg (by omega), if_neg (by omega), if_neg (by omega), if_neg (by omega), if_pos (by omega)] <;> (rw [Bool.eq_iff_iff]; simp [*, sTrue, sFalse] <;> omega)) | (rw [if_neg (by omega), if_neg (by omega), if_neg (by omega), if_neg (by omega), if_neg (by omega), if_neg (by omega)]) | (rw [if_neg (by omega), if_neg (by omega), if_neg (by omega), if_neg (by omega)]) | done)); (clear S hKq3 Kq3 ih; first | (exact absurd ((by assumption : cutC vh.s = true).symm.trans (by assumption : cutC vh.s = false)) (by decide)) | (unfold fitsH; first | (rw [if_pos (by omega)] <;> (rw [Bool.eq_iff_iff]; simp [*, sTrue, sFalse] <;> omega)) | (rw [if_neg (by omega), if_pos (by omega)] <;> (rw [Bool.eq_iff_iff]; simp [*, sTrue, sFalse] <;> omega)) | (rw [if_neg (by omega), if_neg (by omega), if_pos (by omega)] <;> (rw [Bool.eq_iff_iff]; simp [*, sTrue, sFalse] <;> omega)) | (rw [if_neg (by omega), if_neg (by omega), if_neg (by omega), if_pos (by omega)] <;> (rw [Bool.eq_iff_iff]; simp [*, sTrue, sFalse] <;> omega)) | (rw [if_neg (by omega), if_neg (by omega), if_neg (by omega), if_neg (by omega), if_pos (by omega)] <;> (rw [Bool.eq_iff_iff]; simp [*, sTrue, sFalse] <;> omega)) | (rw [if_neg (by omega), if_neg (by omega), if_neg (by omega), if_neg (by omega), if_neg (by omega), if_pos (by omega)] <;> (rw [Bool.eq_iff_iff]; simp [*, sTrue, sFalse] <;> omega)) | (rw [if_neg (by omega), if_neg (by omega), if_neg (by omega), if_neg (by omega), if_neg (by omega), if_neg (by omega)]) | (rw [if_neg (by omega), if_neg (by omega), if_neg (by omega), if_neg (by omega)]) | done)))
     (intro h; clear S a; intro a S; (try simp only [tq] at h))
     iterate 3 (refine wpl_skip S rfl rfl rfl rfl rfl ?_; clear S a; intro a S)
     iterate 2 (refine wpl_p S rfl rfl rfl ?_; clear S a; intro a S)
     refine wpList_nil ?_
     (refine hKq3 _ _ ?_)
     (apply Exists.intro; apply Exists.intro; refine ⟨?_, ?_, ?_⟩; rotate_left 2; (refine S.keep ?_; repeat (first | exact trivial | refine ⟨rfl, ?_⟩)); (clear S hKq3 Kq3 ih; first | (exact absurd ((by assumption : cutC vh.s = true).symm.trans (by assumption : cutC vh.s = false)) (by decide)) | (unfold formH; first | (rw [if_neg (by omega), if_neg (by omega), if_neg (by omega), if_neg (by omega), if_neg (by omega), if_pos (by omega), (by assumption : cutC vh.s = false), decide_eq_false (fun h9 : vh.s ≠ sTrue ∧ vh.s ≠ sFalse => h9.1 (by assumption))]; simp) | (rw [if_pos (by omega)] <;> (rw [Bool.eq_iff_iff]; simp [*, sTrue, sFalse] <;> omega)) | (rw [if_neg (by omega), if_pos (by omega)] <;> (rw [Bool.eq_iff_iff]; simp [*, sTrue, sFalse] <;> omega)) | (rw [if_neg (by omega), if_neg (by omega), if_pos (by omega)] <;> (rw [Bool.eq_iff_iff]; simp [*, sTrue, sFalse] <;> omega)) | (rw [if_neg (by omega), if_neg (by omega), if_neg (by omega), if_pos (by omega)] <;> (rw [Bool.eq_iff_iff]; simp [*, sTrue, sFalse] <;> omega)) | (rw [if_neg (by omega), if_neg (by omega), if_neg (by omega), if_neg (by omega), if_pos (by omega)] <;> (rw [Bool.eq_iff_iff]; simp [*, sTrue, sFalse] <;> omega)) | (rw [if_neg (by omega), if_neg (by omega), if_neg (by omega), if_neg (by omega), if_neg (by omega), if_pos (by omega)] <;> (rw [Bool.eq_iff_iff]; simp [*, sTrue, sFalse] <;> omega)) | (rw [if_neg (by omega), if_neg (by omega), if_neg (by omega), if_neg (by omega), if_neg (by omega), if_neg (by omega)]) | (rw [if_neg (by omega), if_neg (by omega), if_neg (by omega), if_neg (by omega)]) | done)); (clear S hKq3 Kq3 ih; first | (exact absurd ((by assumption : cutC vh.s = true).symm.trans (by assumption : cutC vh.s = false)) (by decide)) | (unfold fitsH; first | (rw [if_pos (by omega)] <;> (rw [Bool.eq_iff_iff]; simp [*, sTrue, sFalse] <;> omega)) | (rw [if_neg (by omega), if_pos (by omega)] <;> (rw [Bool.eq_iff_iff]; simp [*, sTrue, sFalse] <;> omega)) | (rw [if_neg (by omega), if_neg (by omega), if_pos (by omega)] <;> (rw [Bool.eq_iff_iff]; simp [*, sTrue, sFalse] <;> omega)) | (rw [if_neg (by omega), if_neg (by omega), if_neg (by omega), if_pos (by omega)] <;> (rw [Bool.eq_iff_iff]; simp [*, sTrue, sFalse] <;> omega)) | (rw [if_neg (by omega), if_neg (by omega), if_neg (by omega), if_neg (by omega), if_pos (by omega)] <;> (rw [Bool.eq_iff_iff]; simp [*, sTrue, sFalse] <;> omega)) | (rw [if_neg (by omega), if_neg (by omega), if_neg (by omega), if_neg (by omega), if_neg (by omega), if_pos (by omega)] <;> (rw [Bool.eq_iff_iff]; simp [*, sTrue, sFalse] <;> omega)) | (rw [if_neg (by omega), if_neg (by omega), if_neg (by omega), if_neg (by omega), if_neg (by omega), if_neg (by omega)]) | (rw [if_neg (by omega), if_neg (by omega), if_neg (by omega), if_neg (by omega)]) | done)))
   (skip; (try simp only [tq] at h))
   refine wp_sr fun Kq12 hKq12 => ?_
   iterate 2 (refine wpl_p S rfl rfl rfl ?_; clear S a; intro a S)
   (refine wpList_nil (hKq12 _ _ ?_); try clear hKq12 Kq12)
   refine wpc_split S rfl (fun h => ?_) (fun h => ?_)
   · (skip; (try simp only [tq] at h))
     refine wp_sr fun Kq13 hKq13 => ?_
     (refine wpl_f S rfl rfl rfl ?_; clear S a; intro a S)
     (refine wpl_l S rfl rfl rfl ?_; clear S a; intro a S)
     (refine wpl_call0 S rfl rfl rfl rfl rfl rfl (numberCt F vh.s hsb) rfl ?_; clear S a; intro v a w hv S; subst hv)
     iterate 5 (refine wpl_p S rfl rfl rfl ?_; clear S a; intro a S)
     (refine wpList_nil (hKq13 _ _ ?_); try clear hKq13 Kq13)
     refine wp_region_lit ?_
     iterate 2 (refine wpl_p S rfl rfl rfl ?_; clear S a; intro a S)
     refine wpl_guard S rfl rfl rfl rfl rfl ?_ ?_
     · (intro h S'; clear S; have S := S'; clear S'; (try simp only [tq] at h))
       (refine wpl_f S rfl rfl rfl ?_; clear S a; intro a S)
       refine wpl_take S rfl rfl rfl ?_
       (refine wpl_l S rfl rfl rfl ?_; clear S a; intro a S)
       refine wpl_take S rfl rfl rfl ?_
       iterate 3 (refine wpl_p S rfl rfl rfl ?_; clear S a; intro a S)
       refine wpl_guard S rfl rfl rfl rfl rfl ?_ ?_
       · (intro h S'; clear S; have S := S'; clear S'; (try simp only [tq] at h))
         (refine wpl_f S rfl rfl rfl ?_; clear S a; intro a S)
         refine wpl_take S rfl rfl rfl ?_
         (refine wpl_l S rfl rfl rfl ?_; clear S a; intro a S)
         refine wpl_take S rfl rfl rfl ?_
         (refine wpl_n S rfl rfl rfl ?_; clear S a; intro a S)
         refine wpl_take S rfl rfl rfl ?_
         iterate 6 (refine wpl_p S rfl rfl rfl ?_; clear S a; intro a S)
         refine wpList_nil ?_
         (refine hKq3 _ _ ?_)
         (apply Exists.intro; apply Exists.intro; refine ⟨?_, ?_, ?_⟩; rotate_left 2; (refine S.keep ?_; repeat (first | exact trivial | refine ⟨rfl, ?_⟩)); (clear S hKq3 Kq3 ih; first | (exact absurd ((by assumption : cutC vh.s = true).symm.trans (by assumption : cutC vh.s = false)) (by decide)) | (unfold formH; first | (rw [if_neg (by omega), if_neg (by omega), if_neg (by omega), if_neg (by omega), if_neg (by omega), if_pos (by omega), (by assumption : cutC vh.s = false), decide_eq_false (fun h9 : vh.s ≠ sTrue ∧ vh.s ≠ sFalse => h9.1 (by assumption))]; simp) | (rw [if_pos (by omega)] <;> (rw [Bool.eq_iff_iff]; simp [*, sTrue, sFalse] <;> omega)) | (rw [if_neg (by omega), if_pos (by omega)] <;> (rw [Bool.eq_iff_iff]; simp [*, sTrue, sFalse] <;> omega)) | (rw [if_neg (by omega), if_neg (by omega), if_pos (by omega)] <;> (rw [Bool.eq_iff_iff]; simp [*, sTrue, sFalse] <;> omega)) | (rw [if_neg (by omega), if_neg (by omega), if_neg (by omega), if_pos (by omega)] <;> (rw [Bool.eq_iff_iff]; simp [*, sTrue, sFalse] <;> omega)) | (rw [if_neg (by omega), if_neg (by omega), if_neg (by omega), if_neg (by omega), if_pos (by omega)] <;> (rw [Bool.eq_iff_iff]; simp [*, sTrue, sFalse] <;> omega)) | (rw [if_neg (by omega), if_neg (by omega), if_neg (by omega), if_neg (by omega), if_neg (by omega), if_pos (by omega)] <;> (rw [Bool.eq_iff_iff]; simp [*, sTrue, sFalse] <;> omega)) | (rw [if_neg (by omega), if_neg (by omega), if_neg (by omega), if_neg (by omega), if_neg (by omega), if_neg (by omega)]) | (rw [if_neg (by omega), if_neg (by omega), if_neg (by omega), if_neg (by omega)]) | done)); (clear S hKq3 Kq3 ih; first | (exact absurd ((by assumption : cutC vh.s = true).symm.trans (by assumption : cutC vh.s = false)) (by decide)) | (unfold fitsH; first | (rw [if_pos (by omega)] <;> (rw [Bool.eq_iff_iff]; simp [*, sTrue, sFalse] <;> omega)) | (rw [if_neg (by omega), if_pos (by omega)] <;> (rw [Bool.eq_iff_iff]; simp [*, sTrue, sFalse] <;> omega)) | (rw [if_neg (by omega), if_neg (by omega), if_pos (by omega)] <;> (rw [Bool.eq_iff_iff]; simp [*, sTrue, sFalse] <;> omega)) | (rw [if_neg (by omega), if_neg (by omega), if_neg (by omega), if_pos (by omega)] <;> (rw [Bool.eq_iff_iff]; simp [*, sTrue, sFalse] <;> omega)) | (rw [if_neg (by omega), if_neg (by omega), if_neg (by omega), if_neg (by omega), if_pos (by omega)] <;> (rw [Bool.eq_iff_iff]; simp [*, sTrue, sFalse] <;> omega)) | (rw [if_neg (by omega), if_neg (by omega), if_neg (by omega), if_neg (by omega), if_neg (by omega), if_pos (by omega)] <;> (rw [Bool.eq_iff_iff]; simp [*, sTrue, sFalse] <;> omega)) | (rw [if_neg (by omega), if_neg (by omega), if_neg (by omega), if_neg (by omega), if_neg (by omega), if_neg (by omega)]) | (rw [if_neg (by omega), if_neg (by omega), if_neg (by omega), if_neg (by omega)]) | done)))
       (intro h; clear S a; intro a S; (try simp only [tq] at h))
       iterate 3 (refine wpl_skip S rfl rfl rfl rfl rfl ?_; clear S a; intro a S)
       iterate 5 (refine wpl_p S rfl rfl rfl ?_; clear S a; intro a S)
       refine wpList_nil ?_
       (refine hKq3 _ _ ?_)
       (apply Exists.intro; apply Exists.intro; refine ⟨?_, ?_, ?_⟩; rotate_left 2; (refine S.keep ?_; repeat (first | exact trivial | refine ⟨rfl, ?_⟩)); (clear S hKq3 Kq3 ih; first | (exact absurd ((by assumption : cutC vh.s = true).symm.trans (by assumption : cutC vh.s = false)) (by decide)) | (unfold formH; first | (rw [if_neg (by omega), if_neg (by omega), if_neg (by omega), if_neg (by omega), if_neg (by omega), if_pos (by omega), (by assumption : cutC vh.s = false), decide_eq_false (fun h9 : vh.s ≠ sTrue ∧ vh.s ≠ sFalse => h9.1 (by assumption))]; simp) | (rw [if_pos (by omega)] <;> (rw [Bool.eq_iff_iff]; simp [*, sTrue, sFalse] <;> omega)) | (rw [if_neg (by omega), if_pos (by omega)] <;> (rw [Bool.eq_iff_iff]; simp [*, sTrue, sFalse] <;> omega)) | (rw [if_neg (by omega), if_neg (by omega), if_pos (by omega)] <;> (rw [Bool.eq_iff_iff]; simp [*, sTrue, sFalse] <;> omega)) | (rw [if_neg (by omega), if_neg (by omega), if_neg (by omega), if_pos (by omega)] <;> (rw [Bool.eq_iff_iff]; simp [*, sTrue, sFalse] <;> omega)) | (rw [if_neg (by omega), if_neg (by omega), if_neg (by omega), if_neg (by omega), if_pos (by omega)] <;> (rw [Bool.eq_iff_iff]; simp [*, sTrue, sFalse] <;> omega)) | (rw [if_neg (by omega), if_neg (by omega), if_neg (by omega), if_neg (by omega), if_neg (by omega), if_pos (by omega)] <;> (rw [Bool.eq_iff_iff]; simp [*, sTrue, sFalse] <;> omega)) | (rw [if_neg (by omega), if_neg (by omega), if_neg (by omega), if_neg (by omega), if_neg (by omega), if_neg (by omega)]) | (rw [if_neg (by omega), if_neg (by omega), if_neg (by omega), if_neg (by omega)]) | done)); (clear S hKq3 Kq3 ih; first | (exact absurd ((by assumption : cutC vh.s = true).symm.trans (by assumption : cutC vh.s = false)) (by decide)) | (unfold fitsH; first | (rw [if_pos (by omega)] <;> (rw [Bool.eq_iff_iff]; simp [*, sTrue, sFalse] <;> omega)) | (rw [if_neg (by omega), if_pos (by omega)] <;> (rw [Bool.eq_iff_iff]; simp [*, sTrue, sFalse] <;> omega)) | (rw [if_neg (by omega), if_neg (by omega), if_pos (by omega)] <;> (rw [Bool.eq_iff_iff]; simp [*, sTrue, sFalse] <;> omega)) | (rw [if_neg (by omega), if_neg (by omega), if_neg (by omega), if_pos (by omega)] <;> (rw [Bool.eq_iff_iff]; simp [*, sTrue, sFalse] <;> omega)) | (rw [if_neg (by omega), if_neg (by omega), if_neg (by omega), if_neg (by omega), if_pos (by omega)] <;> (rw [Bool.eq_iff_iff]; simp [*, sTrue, sFalse] <;> omega)) | (rw [if_neg (by omega), if_neg (by omega), if_neg (by omega), if_neg (by omega), if_neg (by omega), if_pos (by omega)] <;> (rw [Bool.eq_iff_iff]; simp [*, sTrue, sFalse] <;> omega)) | (rw [if_neg (by omega), if_neg (by omega), if_neg (by omega), if_neg (by omega), if_neg (by omega), if_neg (by omega)]) | (rw [if_neg (by omega), if_neg (by omega), if_neg (by omega), if_neg (by omega)]) | done)))
     (intro h; clear S a; intro a S; (try simp only [tq] at h))
     iterate 2 (refine wpl_skip S rfl rfl rfl rfl rfl ?_; clear S a; intro a S)
     iterate 2 (refine wpl_p S rfl rfl rfl ?_; clear S a; intro a S)
     iterate 4 (refine wpl_skip S rfl rfl rfl rfl rfl ?_; clear S a; intro a S)
     iterate 5 (refine wpl_p S rfl rfl rfl ?_; clear S a; intro a S)
     refine wpList_nil ?_
     (refine hKq3 _ _ ?_)
     (apply Exists.intro; apply Exists.intro; refine ⟨?_, ?_, ?_⟩; rotate_left 2; (refine S.keep ?_; repeat (first | exact trivial | refine ⟨rfl, ?_⟩)); (clear S hKq3 Kq3 ih; first | (exact absurd ((by assumption : cutC vh.s = true).symm.trans (by assumption : cutC vh.s = false)) (by decide)) | (unfold formH; first | (rw [if_neg (by omega), if_neg (by omega), if_neg (by omega), if_neg (by omega), if_neg (by omega), if_pos (by omega), (by assumption : cutC vh.s = false), decide_eq_false (fun h9 : vh.s ≠ sTrue ∧ vh.s ≠ sFalse => h9.1 (by assumption))]; simp) | (rw [if_pos (by omega)] <;> (rw [Bool.eq_iff_iff]; simp [*, sTrue, sFalse] <;> omega)) | (rw [if_neg (by omega), if_pos (by omega)] <;> (rw [Bool.eq_iff_iff]; simp [*, sTrue, sFalse] <;> omega)) | (rw [if_neg (by omega), if_neg (by omega), if_pos (by omega)] <;> (rw [Bool.eq_iff_iff]; simp [*, sTrue, sFalse] <;> omega)) | (rw [if_neg (by omega), if_neg (by omega), if_neg (by omega), if_pos (by omega)] <;> (rw [Bool.eq_iff_iff]; simp [*, sTrue, sFalse] <;> omega)) | (rw [if_neg (by omega), if_neg (by omega), if_neg (by omega), if_neg (by omega), if_pos (by omega)] <;> (rw [Bool.eq_iff_iff]; simp [*, sTrue, sFalse] <;> omega)) | (rw [if_neg (by omega), if_neg (by omega), if_neg (by omega), if_neg (by omega), if_neg (by omega), if_pos (by omega)] <;> (rw [Bool.eq_iff_iff]; simp [*, sTrue, sFalse] <;> omega)) | (rw [if_neg (by omega), if_neg (by omega), if_neg (by omega), if_neg (by omega), if_neg (by omega), if_neg (by omega)]) | (rw [if_neg (by omega), if_neg (by omega), if_neg (by omega), if_neg (by omega)]) | done)); (clear S hKq3 Kq3 ih; first | (exact absurd ((by assumption : cutC vh.s = true).symm.trans (by assumption : cutC vh.s = false)) (by decide)) | (unfold fitsH; first | (rw [if_pos (by omega)] <;> (rw [Bool.eq_iff_iff]; simp [*, sTrue, sFalse] <;> omega)) | (rw [if_neg (by omega), if_pos (by omega)] <;> (rw [Bool.eq_iff_iff]; simp [*, sTrue, sFalse] <;> omega)) | (rw [if_neg (by omega), if_neg (by omega), if_pos (by omega)] <;> (rw [Bool.eq_iff_iff]; simp [*, sTrue, sFalse] <;> omega)) | (rw [if_neg (by omega), if_neg (by omega), if_neg (by omega), if_pos (by omega)] <;> (rw [Bool.eq_iff_iff]; simp [*, sTrue, sFalse] <;> omega)) | (rw [if_neg (by omega), if_neg (by omega), if_neg (by omega), if_neg (by omega), if_pos (by omega)] <;> (rw [Bool.eq_iff_iff]; simp [*, sTrue, sFalse] <;> omega)) | (rw [if_neg (by omega), if_neg (by omega), if_neg (by omega), if_neg (by omega), if_neg (by omega), if_pos (by omega)] <;> (rw [Bool.eq_iff_iff]; simp [*, sTrue, sFalse] <;> omega)) | (rw [if_neg (by omega), if_neg (by omega), if_neg (by omega), if_neg (by omega), if_neg (by omega), if_neg (by omega)]) | (rw [if_neg (by omega), if_neg (by omega), if_neg (by omega), if_neg (by omega)]) | done)))
   (skip; (try simp only [tq] at h))
   refine wp_sr fun Kq13 hKq13 => ?_
   iterate 2 (refine wpl_p S rfl rfl rfl ?_; clear S a; intro a S)
   (refine wpList_nil (hKq13 _ _ ?_); try clear hKq13 Kq13)
   refine wpc_split S rfl (fun h => ?_) (fun h => ?_)
   · (skip; (try simp only [tq] at h))
     (refine wpc_mixM [0, 1, 2, 3, 4, 5, 6, 7, 8, 9, 10, 11, 12] [1, 5, 10] [] (.one 0 (.one 1 (.one 2 (.one 3 (.one 4 (.one 5 (.one 6 (.one 7 (.one 8 (.one 9 (.one 10 (.one 11 (.one 12 (.one 13 (.one 14 .nil))))))))))))))) [b1] S mixed (by kernel_rfl) ?_; clear S; intro w S)
     (refine wpm_f S rfl rfl rfl (want_none _ rfl) rfl rfl ?_; clear S a; intro a S)
     (refine wpm_o b1 S rfl rfl rfl (want_none _ rfl) rfl rfl ?_; clear S a; intro a S)
     iterate 2 (refine wpm_p S rfl rfl rfl (want_none _ rfl) rfl rfl ?_; clear S a; intro a S)
     refine St.part (dj := 88) (want := true) S rfl ?_ ?_
     · (intro h S'; clear S; have S := S'; clear S'; (try simp only [tq] at h))
       (refine wpm_f S rfl rfl rfl (want_yes S rfl rfl rfl) rfl rfl ?_; clear S a; intro a S)
       (refine wpm_o b1 S rfl rfl rfl (want_yes S rfl rfl rfl) rfl rfl ?_; clear S a; intro a S)
       (refine wpm_n S rfl rfl rfl (want_yes S rfl rfl rfl) rfl rfl ?_; clear S a; intro a S)
       (refine wpm_p S rfl rfl rfl (want_yes S rfl rfl rfl) rfl rfl ?_; clear S a; intro a S)
       (refine wpm_p S rfl rfl rfl (want_none _ rfl) rfl rfl ?_; clear S a; intro a S)
       (refine wpm_f S rfl rfl rfl (want_none _ rfl) rfl rfl ?_; clear S a; intro a S)
       (refine wpm_o b1 S rfl rfl rfl (want_none _ rfl) rfl rfl ?_; clear S a; intro a S)
       (refine wpm_s S rfl rfl rfl (want_none _ rfl) rfl rfl ?_; clear S a; intro a S)
       (refine wpm_p S rfl rfl rfl (want_none _ rfl) rfl rfl ?_; clear S a; intro a S)
       refine wpm_eff rfl rfl (kwa S) ?_
       (refine wpl_p S rfl rfl rfl ?_; clear S a; intro a S)
       refine wpList_nil ?_
       refine wpm_eff rfl rfl (kwa S) ?_
       (refine wpl_p S rfl rfl rfl ?_; clear S a; intro a S)
       refine wpList_nil ?_
       refine wpm_nil (kwa S) ?_
       (refine hKq3 _ _ ?_)
       (apply Exists.intro; apply Exists.intro; refine ⟨?_, ?_, ?_⟩; rotate_left 2; (refine S.keep ?_; repeat (first | exact trivial | refine ⟨rfl, ?_⟩)); (clear S hKq3 Kq3 ih; first | (exact absurd ((by assumption : cutC vh.s = true).symm.trans (by assumption : cutC vh.s = false)) (by decide)) | (unfold formH; first | (rw [if_neg (by omega), if_neg (by omega), if_neg (by omega), if_neg (by omega), if_neg (by omega), if_pos (by omega), (by assumption : cutC vh.s = false), decide_eq_false (fun h9 : vh.s ≠ sTrue ∧ vh.s ≠ sFalse => h9.1 (by assumption))]; simp) | (rw [if_pos (by omega)] <;> (rw [Bool.eq_iff_iff]; simp [*, sTrue, sFalse] <;> omega)) | (rw [if_neg (by omega), if_pos (by omega)] <;> (rw [Bool.eq_iff_iff]; simp [*, sTrue, sFalse] <;> omega)) | (rw [if_neg (by omega), if_neg (by omega), if_pos (by omega)] <;> (rw [Bool.eq_iff_iff]; simp [*, sTrue, sFalse] <;> omega)) | (rw [if_neg (by omega), if_neg (by omega), if_neg (by omega), if_pos (by omega)] <;> (rw [Bool.eq_iff_iff]; simp [*, sTrue, sFalse] <;> omega)) | (rw [if_neg (by omega), if_neg (by omega), if_neg (by omega), if_neg (by omega), if_pos (by omega)] <;> (rw [Bool.eq_iff_iff]; simp [*, sTrue, sFalse] <;> omega)) | (rw [if_neg (by omega), if_neg (by omega), if_neg (by omega), if_neg (by omega), if_neg (by omega), if_pos (by omega)] <;> (rw [Bool.eq_iff_iff]; simp [*, sTrue, sFalse] <;> omega)) | (rw [if_neg (by omega), if_neg (by omega), if_neg (by omega), if_neg (by omega), if_neg (by omega), if_neg (by omega)]) | (rw [if_neg (by omega), if_neg (by omega), if_neg (by omega), if_neg (by omega)]) | done)); (clear S hKq3 Kq3 ih; first | (exact absurd ((by assumption : cutC vh.s = true).symm.trans (by assumption : cutC vh.s = false)) (by decide)) | (unfold fitsH; first | (rw [if_pos (by omega)] <;> (rw [Bool.eq_iff_iff]; simp [*, sTrue, sFalse] <;> omega)) | (rw [if_neg (by omega), if_pos (by omega)] <;> (rw [Bool.eq_iff_iff]; simp [*, sTrue, sFalse] <;> omega)) | (rw [if_neg (by omega), if_neg (by omega), if_pos (by omega)] <;> (rw [Bool.eq_iff_iff]; simp [*, sTrue, sFalse] <;> omega)) | (rw [if_neg (by omega), if_neg (by omega), if_neg (by omega), if_pos (by omega)] <;> (rw [Bool.eq_iff_iff]; simp [*, sTrue, sFalse] <;> omega)) | (rw [if_neg (by omega), if_neg (by omega), if_neg (by omega), if_neg (by omega), if_pos (by omega)] <;> (rw [Bool.eq_iff_iff]; simp [*, sTrue, sFalse] <;> omega)) | (rw [if_neg (by omega), if_neg (by omega), if_neg (by omega), if_neg (by omega), if_neg (by omega), if_pos (by omega)] <;> (rw [Bool.eq_iff_iff]; simp [*, sTrue, sFalse] <;> omega)) | (rw [if_neg (by omega), if_neg (by omega), if_neg (by omega), if_neg (by omega), if_neg (by omega), if_neg (by omega)]) | (rw [if_neg (by omega), if_neg (by omega), if_neg (by omega), if_neg (by omega)]) | done)))
     (intro h S'; clear S; have S := S'; clear S'; (try simp only [tq] at h))
     iterate 4 (refine wpm_skip S rfl rfl (want_no S rfl rfl rfl) rfl rfl ?_; clear S a; intro a S)
     (refine wpm_p S rfl rfl rfl (want_none _ rfl) rfl rfl ?_; clear S a; intro a S)
     (refine wpm_f S rfl rfl rfl (want_none _ rfl) rfl rfl ?_; clear S a; intro a S)
     (refine wpm_o b1 S rfl rfl rfl (want_none _ rfl) rfl rfl ?_; clear S a; intro a S)
     (refine wpm_s S rfl rfl rfl (want_none _ rfl) rfl rfl ?_; clear S a; intro a S)
     (refine wpm_p S rfl rfl rfl (want_none _ rfl) rfl rfl ?_; clear S a; intro a S)
     refine wpm_eff rfl rfl (kwa S) ?_
     (refine wpl_p S rfl rfl rfl ?_; clear S a; intro a S)
     refine wpList_nil ?_
     refine wpm_eff rfl rfl (kwa S) ?_
     (refine wpl_p S rfl rfl rfl ?_; clear S a; intro a S)
     refine wpList_nil ?_
     refine wpm_nil (kwa S) ?_
     (refine hKq3 _ _ ?_)
     (apply Exists.intro; apply Exists.intro; refine ⟨?_, ?_, ?_⟩; rotate_left 2; (refine S.keep ?_; repeat (first | exact trivial | refine ⟨rfl, ?_⟩)); (clear S hKq3 Kq3 ih; first | (exact absurd ((by assumption : cutC vh.s = true).symm.trans (by assumption : cutC vh.s = false)) (by decide)) | (unfold formH; first | (rw [if_neg (by omega), if_neg (by omega), if_neg (by omega), if_neg (by omega), if_neg (by omega), if_pos (by omega), (by assumption : cutC vh.s = false), decide_eq_false (fun h9 : vh.s ≠ sTrue ∧ vh.s ≠ sFalse => h9.1 (by assumption))]; simp) | (rw [if_pos (by omega)] <;> (rw [Bool.eq_iff_iff]; simp [*, sTrue, sFalse] <;> omega)) | (rw [if_neg (by omega), if_pos (by omega)] <;> (rw [Bool.eq_iff_iff]; simp [*, sTrue, sFalse] <;> omega)) | (rw [if_neg (by omega), if_neg (by omega), if_pos (by omega)] <;> (rw [Bool.eq_iff_iff]; simp [*, sTrue, sFalse] <;> omega)) | (rw [if_neg (by omega), if_neg (by omega), if_neg (by omega), if_pos (by omega)] <;> (rw [Bool.eq_iff_iff]; simp [*, sTrue, sFalse] <;> omega)) | (rw [if_neg (by omega), if_neg (by omega), if_neg (by omega), if_neg (by omega), if_pos (by omega)] <;> (rw [Bool.eq_iff_iff]; simp [*, sTrue, sFalse] <;> omega)) | (rw [if_neg (by omega), if_neg (by omega), if_neg (by omega), if_neg (by omega), if_neg (by omega), if_pos (by omega)] <;> (rw [Bool.eq_iff_iff]; simp [*, sTrue, sFalse] <;> omega)) | (rw [if_neg (by omega), if_neg (by omega), if_neg (by omega), if_neg (by omega), if_neg (by omega), if_neg (by omega)]) | (rw [if_neg (by omega), if_neg (by omega), if_neg (by omega), if_neg (by omega)]) | done)); (clear S hKq3 Kq3 ih; first | (exact absurd ((by assumption : cutC vh.s = true).symm.trans (by assumption : cutC vh.s = false)) (by decide)) | (unfold fitsH; first | (rw [if_pos (by omega)] <;> (rw [Bool.eq_iff_iff]; simp [*, sTrue, sFalse] <;> omega)) | (rw [if_neg (by omega), if_pos (by omega)] <;> (rw [Bool.eq_iff_iff]; simp [*, sTrue, sFalse] <;> omega)) | (rw [if_neg (by omega), if_neg (by omega), if_pos (by omega)] <;> (rw [Bool.eq_iff_iff]; simp [*, sTrue, sFalse] <;> omega)) | (rw [if_neg (by omega), if_neg (by omega), if_neg (by omega), if_pos (by omega)] <;> (rw [Bool.eq_iff_iff]; simp [*, sTrue, sFalse] <;> omega)) | (rw [if_neg (by omega), if_neg (by omega), if_neg (by omega), if_neg (by omega), if_pos (by omega)] <;> (rw [Bool.eq_iff_iff]; simp [*, sTrue, sFalse] <;> omega)) | (rw [if_neg (by omega), if_neg (by omega), if_neg (by omega), if_neg (by omega), if_neg (by omega), if_pos (by omega)] <;> (rw [Bool.eq_iff_iff]; simp [*, sTrue, sFalse] <;> omega)) | (rw [if_neg (by omega), if_neg (by omega), if_neg (by omega), if_neg (by omega), if_neg (by omega), if_neg (by omega)]) | (rw [if_neg (by omega), if_neg (by omega), if_neg (by omega), if_neg (by omega)]) | done)))
   (skip; (try simp only [tq] at h))
   refine wp_sr fun Kq14 hKq14 => ?_
   iterate 2 (refine wpl_p S rfl rfl rfl ?_; clear S a; intro a S)
   (refine wpList_nil (hKq14 _ _ ?_); try clear hKq14 Kq14)
   refine wpc_split S rfl (fun h => ?_) (fun h => ?_)
   · (skip; (try simp only [tq] at h))
     (refine wpc_mixM [0, 1, 2, 3, 4, 5, 6, 7, 8, 9, 10, 11, 12, 13, 14, 15, 16, 17] [1, 5, 10, 15] [] (.one 0 (.one 1 (.one 2 (.one 3 (.one 4 (.one 5 (.one 6 (.one 7 (.one 8 (.one 9 (.one 10 (.one 11 (.one 12 (.one 13 (.one 14 (.one 15 (.one 16 (.one 17 (.one 18 (.one 19 .nil)))))))))))))))))))) [b1] S mixed (by kernel_rfl) ?_; clear S; intro w S)
     (refine wpm_f S rfl rfl rfl (want_none _ rfl) rfl rfl ?_; clear S a; intro a S)
     (refine wpm_o b1 S rfl rfl rfl (want_none _ rfl) rfl rfl ?_; clear S a; intro a S)
     iterate 2 (refine wpm_p S rfl rfl rfl (want_none _ rfl) rfl rfl ?_; clear S a; intro a S)
     refine St.part (dj := 103) (want := true) S rfl ?_ ?_
     · (intro h S'; clear S; have S := S'; clear S'; (try simp only [tq] at h))
       (refine wpm_f S rfl rfl rfl (want_yes S rfl rfl rfl) rfl rfl ?_; clear S a; intro a S)
       (refine wpm_o b1 S rfl rfl rfl (want_yes S rfl rfl rfl) rfl rfl ?_; clear S a; intro a S)
       (refine wpm_p S rfl rfl rfl (want_yes S rfl rfl rfl) rfl rfl ?_; clear S a; intro a S)
       iterate 2 (refine wpm_p S rfl rfl rfl (want_none _ rfl) rfl rfl ?_; clear S a; intro a S)
       refine St.part (dj := 108) (want := true) S rfl ?_ ?_
       · (intro h S'; clear S; have S := S'; clear S'; (try simp only [tq] at h))
         (refine wpm_f S rfl rfl rfl (want_yes S rfl rfl rfl) rfl rfl ?_; clear S a; intro a S)
         (refine wpm_o b1 S rfl rfl rfl (want_yes S rfl rfl rfl) rfl rfl ?_; clear S a; intro a S)
         (refine wpm_n S rfl rfl rfl (want_yes S rfl rfl rfl) rfl rfl ?_; clear S a; intro a S)
         (refine wpm_p S rfl rfl rfl (want_yes S rfl rfl rfl) rfl rfl ?_; clear S a; intro a S)
         (refine wpm_p S rfl rfl rfl (want_none _ rfl) rfl rfl ?_; clear S a; intro a S)
         (refine wpm_f S rfl rfl rfl (want_none _ rfl) rfl rfl ?_; clear S a; intro a S)
         (refine wpm_o b1 S rfl rfl rfl (want_none _ rfl) rfl rfl ?_; clear S a; intro a S)
         (refine wpm_n S rfl rfl rfl (want_none _ rfl) rfl rfl ?_; clear S a; intro a S)
         (refine wpm_p S rfl rfl rfl (want_none _ rfl) rfl rfl ?_; clear S a; intro a S)
         refine wpm_eff rfl rfl (kwa S) ?_
         (refine wpl_p S rfl rfl rfl ?_; clear S a; intro a S)
         refine wpList_nil ?_
         refine wpm_eff rfl rfl (kwa S) ?_
         (refine wpl_p S rfl rfl rfl ?_; clear S a; intro a S)
         refine wpList_nil ?_
         refine wpm_nil (kwa S) ?_
         (refine hKq3 _ _ ?_)
         (apply Exists.intro; apply Exists.intro; refine ⟨?_, ?_, ?_⟩; rotate_left 2; (refine S.keep ?_; repeat (first | exact trivial | refine ⟨rfl, ?_⟩)); (clear S hKq3 Kq3 ih; first | (exact absurd ((by assumption : cutC vh.s = true).symm.trans (by assumption : cutC vh.s = false)) (by decide)) | (unfold formH; first | (rw [if_neg (by omega), if_neg (by omega), if_neg (by omega), if_neg (by omega), if_neg (by omega), if_pos (by omega), (by assumption : cutC vh.s = false), decide_eq_false (fun h9 : vh.s ≠ sTrue ∧ vh.s ≠ sFalse => h9.1 (by assumption))]; simp) | (rw [if_pos (by omega)] <;> (rw [Bool.eq_iff_iff]; simp [*, sTrue, sFalse] <;> omega)) | (rw [if_neg (by omega), if_pos (by omega)] <;> (rw [Bool.eq_iff_iff]; simp [*, sTrue, sFalse] <;> omega)) | (rw [if_neg (by omega), if_neg (by omega), if_pos (by omega)] <;> (rw [Bool.eq_iff_iff]; simp [*, sTrue, sFalse] <;> omega)) | (rw [if_neg (by omega), if_neg (by omega), if_neg (by omega), if_pos (by omega)] <;> (rw [Bool.eq_iff_iff]; simp [*, sTrue, sFalse] <;> omega)) | (rw [if_neg (by omega), if_neg (by omega), if_neg (by omega), if_neg (by omega), if_pos (by omega)] <;> (rw [Bool.eq_iff_iff]; simp [*, sTrue, sFalse] <;> omega)) | (rw [if_neg (by omega), if_neg (by omega), if_neg (by omega), if_neg (by omega), if_neg (by omega), if_pos (by omega)] <;> (rw [Bool.eq_iff_iff]; simp [*, sTrue, sFalse] <;> omega)) | (rw [if_neg (by omega), if_neg (by omega), if_neg (by omega), if_neg (by omega), if_neg (by omega), if_neg (by omega)]) | (rw [if_neg (by omega), if_neg (by omega), if_neg (by omega), if_neg (by omega)]) | done)); (clear S hKq3 Kq3 ih; first | (exact absurd ((by assumption : cutC vh.s = true).symm.trans (by assumption : cutC vh.s = false)) (by decide)) | (unfold fitsH; first | (rw [if_pos (by omega)] <;> (rw [Bool.eq_iff_iff]; simp [*, sTrue, sFalse] <;> omega)) | (rw [if_neg (by omega), if_pos (by omega)] <;> (rw [Bool.eq_iff_iff]; simp [*, sTrue, sFalse] <;> omega)) | (rw [if_neg (by omega), if_neg (by omega), if_pos (by omega)] <;> (rw [Bool.eq_iff_iff]; simp [*, sTrue, sFalse] <;> omega)) | (rw [if_neg (by omega), if_neg (by omega), if_neg (by omega), if_pos (by omega)] <;> (rw [Bool.eq_iff_iff]; simp [*, sTrue, sFalse] <;> omega)) | (rw [if_neg (by omega), if_neg (by omega), if_neg (by omega), if_neg (by omega), if_pos (by omega)] <;> (rw [Bool.eq_iff_iff]; simp [*, sTrue, sFalse] <;> omega)) | (rw [if_neg (by omega), if_neg (by omega), if_neg (by omega), if_neg (by omega), if_neg (by omega), if_pos (by omega)] <;> (rw [Bool.eq_iff_iff]; simp [*, sTrue, sFalse] <;> omega)) | (rw [if_neg (by omega), if_neg (by omega), if_neg (by omega), if_neg (by omega), if_neg (by omega), if_neg (by omega)]) | (rw [if_neg (by omega), if_neg (by omega), if_neg (by omega), if_neg (by omega)]) | done)))
       (intro h S'; clear S; have S := S'; clear S'; (try simp only [tq] at h))
       iterate 4 (refine wpm_skip S rfl rfl (want_no S rfl rfl rfl) rfl rfl ?_; clear S a; intro a S)
       (refine wpm_p S rfl rfl rfl (want_none _ rfl) rfl rfl ?_; clear S a; intro a S)
       (refine wpm_f S rfl rfl rfl (want_none _ rfl) rfl rfl ?_; clear S a; intro a S)
       (refine wpm_o b1 S rfl rfl rfl (want_none _ rfl) rfl rfl ?_; clear S a; intro a S)
       (refine wpm_n S rfl rfl rfl (want_none _ rfl) rfl rfl ?_; clear S a; intro a S)
       (refine wpm_p S rfl rfl rfl (want_none _ rfl) rfl rfl ?_; clear S a; intro a S)
       refine wpm_eff rfl rfl (kwa S) ?_
       (refine wpl_p S rfl rfl rfl ?_; clear S a; intro a S)
       refine wpList_nil ?_
       refine wpm_eff rfl rfl (kwa S) ?_
       (refine wpl_p S rfl rfl rfl ?_; clear S a; intro a S)
       refine wpList_nil ?_
       refine wpm_nil (kwa S) ?_
       (refine hKq3 _ _ ?_)
       (apply Exists.intro; apply Exists.intro; refine ⟨?_, ?_, ?_⟩; rotate_left 2; (refine S.keep ?_; repeat (first | exact trivial | refine ⟨rfl, ?_⟩)); (clear S hKq3 Kq3 ih; first | (exact absurd ((by assumption : cutC vh.s = true).symm.trans (by assumption : cutC vh.s = false)) (by decide)) | (unfold formH; first | (rw [if_neg (by omega), if_neg (by omega), if_neg (by omega), if_neg (by omega), if_neg (by omega), if_pos (by omega), (by assumption : cutC vh.s = false), decide_eq_false (fun h9 : vh.s ≠ sTrue ∧ vh.s ≠ sFalse => h9.1 (by assumption))]; simp) | (rw [if_pos (by omega)] <;> (rw [Bool.eq_iff_iff]; simp [*, sTrue, sFalse] <;> omega)) | (rw [if_neg (by omega), if_pos (by omega)] <;> (rw [Bool.eq_iff_iff]; simp [*, sTrue, sFalse] <;> omega)) | (rw [if_neg (by omega), if_neg (by omega), if_pos (by omega)] <;> (rw [Bool.eq_iff_iff]; simp [*, sTrue, sFalse] <;> omega)) | (rw [if_neg (by omega), if_neg (by omega), if_neg (by omega), if_pos (by omega)] <;> (rw [Bool.eq_iff_iff]; simp [*, sTrue, sFalse] <;> omega)) | (rw [if_neg (by omega), if_neg (by omega), if_neg (by omega), if_neg (by omega), if_pos (by omega)] <;> (rw [Bool.eq_iff_iff]; simp [*, sTrue, sFalse] <;> omega)) | (rw [if_neg (by omega), if_neg (by omega), if_neg (by omega), if_neg (by omega), if_neg (by omega), if_pos (by omega)] <;> (rw [Bool.eq_iff_iff]; simp [*, sTrue, sFalse] <;> omega)) | (rw [if_neg (by omega), if_neg (by omega), if_neg (by omega), if_neg (by omega), if_neg (by omega), if_neg (by omega)]) | (rw [if_neg (by omega), if_neg (by omega), if_neg (by omega), if_neg (by omega)]) | done)); (clear S hKq3 Kq3 ih; first | (exact absurd ((by assumption : cutC vh.s = true).symm.trans (by assumption : cutC vh.s = false)) (by decide)) | (unfold fitsH; first | (rw [if_pos (by omega)] <;> (rw [Bool.eq_iff_iff]; simp [*, sTrue, sFalse] <;> omega)) | (rw [if_neg (by omega), if_pos (by omega)] <;> (rw [Bool.eq_iff_iff]; simp [*, sTrue, sFalse] <;> omega)) | (rw [if_neg (by omega), if_neg (by omega), if_pos (by omega)] <;> (rw [Bool.eq_iff_iff]; simp [*, sTrue, sFalse] <;> omega)) | (rw [if_neg (by omega), if_neg (by omega), if_neg (by omega), if_pos (by omega)] <;> (rw [Bool.eq_iff_iff]; simp [*, sTrue, sFalse] <;> omega)) | (rw [if_neg (by omega), if_neg (by omega), if_neg (by omega), if_neg (by omega), if_pos (by omega)] <;> (rw [Bool.eq_iff_iff]; simp [*, sTrue, sFalse] <;> omega)) | (rw [if_neg (by omega), if_neg (by omega), if_neg (by omega), if_neg (by omega), if_neg (by omega), if_pos (by omega)] <;> (rw [Bool.eq_iff_iff]; simp [*, sTrue, sFalse] <;> omega)) | (rw [if_neg (by omega), if_neg (by omega), if_neg (by omega), if_neg (by omega), if_neg (by omega), if_neg (by omega)]) | (rw [if_neg (by omega), if_neg (by omega), if_neg (by omega), if_neg (by omega)]) | done)))
     (intro h S'; clear S; have S := S'; clear S'; (try simp only [tq] at h))
     iterate 3 (refine wpm_skip S rfl rfl (want_no S rfl rfl rfl) rfl rfl ?_; clear S a; intro a S)
     iterate 2 (refine wpm_p S rfl rfl rfl (want_none _ rfl) rfl rfl ?_; clear S a; intro a S)
     iterate 4 (refine wpm_skip S rfl rfl (want_no S rfl rfl rfl) rfl rfl ?_; clear S a; intro a S)
     (refine wpm_p S rfl rfl rfl (want_none _ rfl) rfl rfl ?_; clear S a; intro a S)
     (refine wpm_f S rfl rfl rfl (want_none _ rfl) rfl rfl ?_; clear S a; intro a S)
     (refine wpm_o b1 S rfl rfl rfl (want_none _ rfl) rfl rfl ?_; clear S a; intro a S)
     (refine wpm_n S rfl rfl rfl (want_none _ rfl) rfl rfl ?_; clear S a; intro a S)
     (refine wpm_p S rfl rfl rfl (want_none _ rfl) rfl rfl ?_; clear S a; intro a S)
     refine wpm_eff rfl rfl (kwa S) ?_
     (refine wpl_p S rfl rfl rfl ?_; clear S a; intro a S)
     refine wpList_nil ?_
     refine wpm_eff rfl rfl (kwa S) ?_
     (refine wpl_p S rfl rfl rfl ?_; clear S a; intro a S)
     refine wpList_nil ?_
     refine wpm_nil (kwa S) ?_
     (refine hKq3 _ _ ?_)
     (apply Exists.intro; apply Exists.intro; refine ⟨?_, ?_, ?_⟩; rotate_left 2; (refine S.keep ?_; repeat (first | exact trivial | refine ⟨rfl, ?_⟩)); (clear S hKq3 Kq3 ih; first | (exact absurd ((by assumption : cutC vh.s = true).symm.trans (by assumption : cutC vh.s = false)) (by decide)) | (unfold formH; first | (rw [if_neg (by omega), if_neg (by omega), if_neg (by omega), if_neg (by omega), if_neg (by omega), if_pos (by omega), (by assumption : cutC vh.s = false), decide_eq_false (fun h9 : vh.s ≠ sTrue ∧ vh.s ≠ sFalse => h9.1 (by assumption))]; simp) | (rw [if_pos (by omega)] <;> (rw [Bool.eq_iff_iff]; simp [*, sTrue, sFalse] <;> omega)) | (rw [if_neg (by omega), if_pos (by omega)] <;> (rw [Bool.eq_iff_iff]; simp [*, sTrue, sFalse] <;> omega)) | (rw [if_neg (by omega), if_neg (by omega), if_pos (by omega)] <;> (rw [Bool.eq_iff_iff]; simp [*, sTrue, sFalse] <;> omega)) | (rw [if_neg (by omega), if_neg (by omega), if_neg (by omega), if_pos (by omega)] <;> (rw [Bool.eq_iff_iff]; simp [*, sTrue, sFalse] <;> omega)) | (rw [if_neg (by omega), if_neg (by omega), if_neg (by omega), if_neg (by omega), if_pos (by omega)] <;> (rw [Bool.eq_iff_iff]; simp [*, sTrue, sFalse] <;> omega)) | (rw [if_neg (by omega), if_neg (by omega), if_neg (by omega), if_neg (by omega), if_neg (by omega), if_pos (by omega)] <;> (rw [Bool.eq_iff_iff]; simp [*, sTrue, sFalse] <;> omega)) | (rw [if_neg (by omega), if_neg (by omega), if_neg (by omega), if_neg (by omega), if_neg (by omega), if_neg (by omega)]) | (rw [if_neg (by omega), if_neg (by omega), if_neg (by omega), if_neg (by omega)]) | done)); (clear S hKq3 Kq3 ih; first | (exact absurd ((by assumption : cutC vh.s = true).symm.trans (by assumption : cutC vh.s = false)) (by decide)) | (unfold fitsH; first | (rw [if_pos (by omega)] <;> (rw [Bool.eq_iff_iff]; simp [*, sTrue, sFalse] <;> omega)) | (rw [if_neg (by omega), if_pos (by omega)] <;> (rw [Bool.eq_iff_iff]; simp [*, sTrue, sFalse] <;> omega)) | (rw [if_neg (by omega), if_neg (by omega), if_pos (by omega)] <;> (rw [Bool.eq_iff_iff]; simp [*, sTrue, sFalse] <;> omega)) | (rw [if_neg (by omega), if_neg (by omega), if_neg (by omega), if_pos (by omega)] <;> (rw [Bool.eq_iff_iff]; simp [*, sTrue, sFalse] <;> omega)) | (rw [if_neg (by omega), if_neg (by omega), if_neg (by omega), if_neg (by omega), if_pos (by omega)] <;> (rw [Bool.eq_iff_iff]; simp [*, sTrue, sFalse] <;> omega)) | (rw [if_neg (by omega), if_neg (by omega), if_neg (by omega), if_neg (by omega), if_neg (by omega), if_pos (by omega)] <;> (rw [Bool.eq_iff_iff]; simp [*, sTrue, sFalse] <;> omega)) | (rw [if_neg (by omega), if_neg (by omega), if_neg (by omega), if_neg (by omega), if_neg (by omega), if_neg (by omega)]) | (rw [if_neg (by omega), if_neg (by omega), if_neg (by omega), if_neg (by omega)]) | done)))
   (skip; (try simp only [tq] at h))
   refine wp_sr fun Kq15 hKq15 => ?_
   iterate 2 (refine wpl_p S rfl rfl rfl ?_; clear S a; intro a S)
   (refine wpList_nil (hKq15 _ _ ?_); try clear hKq15 Kq15)
   refine wpc_split S rfl (fun h => ?_) (fun h => ?_)
   · (skip; (try simp only [tq] at h))
     refine wp_sr fun Kq16 hKq16 => ?_
     (refine wpl_f S rfl rfl rfl ?_; clear S a; intro a S)
     (refine wpl_l S rfl rfl rfl ?_; clear S a; intro a S)
     (refine wpl_call0 S rfl rfl rfl rfl rfl rfl (cutCt F vh.s hsb) rfl ?_; clear S a; intro v a w hv S; subst hv)
     iterate 7 (refine wpl_p S rfl rfl rfl ?_; clear S a; intro a S)
     (refine wpList_nil (hKq16 _ _ ?_); try clear hKq16 Kq16)
     (refine wpc_mixM [0, 1, 2, 3, 4, 6, 7, 8, 9, 10, 12, 13, 14, 15, 16, 17, 18, 19, 20, 21, 22, 23, 24, 25, 26, 27, 28, 29, 30, 31] [1, 18, 23, 29] [] (.one 0 (.one 1 (.one 2 (.one 3 (.one 4 (.one 28 (.one 29 (.one 30 (.one 31 (.one 5 (.one 6 (.one 7 (.one 8 (.one 9 (.one 10 (.one 11 (.one 12 (.one 13 (.one 14 (.one 15 (.one 16 (.one 17 (.one 18 (.one 19 (.one 20 (.one 21 (.one 22 (.one 23 (.one 24 (.one 25 (.one 26 (.one 27 (.one 32 (.one 33 .nil)))))))))))))))))))))))))))))))))) [b1] S mixed (by kernel_rfl) ?_; clear S; intro w S)
     (refine wpm_f S rfl rfl rfl (want_none _ rfl) rfl rfl ?_; clear S a; intro a S)
     (refine wpm_o b1 S rfl rfl rfl (want_none _ rfl) rfl rfl ?_; clear S a; intro a S)
     iterate 2 (refine wpm_p S rfl rfl rfl (want_none _ rfl) rfl rfl ?_; clear S a; intro a S)
     refine St.part (dj := 130) (want := true) S rfl ?_ ?_
     · (intro h S'; clear S; have S := S'; clear S'; (try simp only [tq] at h))
       (refine wpm_p S rfl rfl rfl (want_yes S rfl rfl rfl) rfl rfl ?_; clear S a; intro a S)
       (refine wpm_f S rfl rfl rfl (want_none _ rfl) rfl rfl ?_; clear S a; intro a S)
       (refine wpm_o b1 S rfl rfl rfl (want_none _ rfl) rfl rfl ?_; clear S a; intro a S)
       (refine wpm_n S rfl rfl rfl (want_none _ rfl) rfl rfl ?_; clear S a; intro a S)
       (refine wpm_p S rfl rfl rfl (want_none _ rfl) rfl rfl ?_; clear S a; intro a S)
       refine wpm_eff rfl rfl (kwa S) ?_
       refine wpl_take S rfl rfl rfl ?_
       (refine wpl_call0 S rfl rfl rfl rfl rfl rfl (nameCt F (cutA vh.s)) rfl ?_; clear S a; intro v a w hv S; subst hv)
       refine wpList_nil ?_
       iterate 2 (refine wpm_p S rfl rfl rfl (want_none _ rfl) rfl rfl ?_; clear S a; intro a S)
       refine St.part (dj := 134) (want := true) S rfl ?_ ?_
       · (intro h S'; clear S; have S := S'; clear S'; (try simp only [tq] at h))
         iterate 2 (refine wpm_p S rfl rfl rfl (want_yes S rfl rfl rfl) rfl rfl ?_; clear S a; intro a S)
         refine St.part (dj := 136) (want := true) S rfl ?_ ?_
         · (intro h S'; clear S; have S := S'; clear S'; (try simp only [tq] at h))
           (refine wpm_p S rfl rfl rfl (want_yes S rfl rfl rfl) rfl rfl ?_; clear S a; intro a S)
           refine wpm_eff rfl rfl (kwa S) ?_
           refine wpl_take S rfl rfl rfl ?_
           (refine wpl_call0 S rfl rfl rfl rfl rfl rfl (nameCt F (cutB vh.s)) rfl ?_; clear S a; intro v a w hv S; subst hv)
           refine wpList_nil ?_
           iterate 2 (refine wpm_p S rfl rfl rfl (want_yes S rfl rfl rfl) rfl rfl ?_; clear S a; intro a S)
           refine St.part (dj := 140) (want := false) S rfl ?_ ?_
           · (intro h S'; clear S; have S := S'; clear S'; (try simp only [tq] at h))
             iterate 3 (refine wpm_p S rfl rfl rfl (want_yes S rfl rfl rfl) rfl rfl ?_; clear S a; intro a S)
             refine St.part (dj := 143) (want := true) S rfl ?_ ?_
             · (intro h S'; clear S; have S := S'; clear S'; (try simp only [tq] at h))
               (refine wpm_f S rfl rfl rfl (want_yes S rfl rfl rfl) rfl rfl ?_; clear S a; intro a S)
               (refine wpm_o b1 S rfl rfl rfl (want_yes S rfl rfl rfl) rfl rfl ?_; clear S a; intro a S)
               iterate 3 (refine wpm_p S rfl rfl rfl (want_yes S rfl rfl rfl) rfl rfl ?_; clear S a; intro a S)
               refine St.part (dj := 148) (want := true) S rfl ?_ ?_
               · (intro h S'; clear S; have S := S'; clear S'; (try simp only [tq] at h))
                 (refine wpm_f S rfl rfl rfl (want_yes S rfl rfl rfl) rfl rfl ?_; clear S a; intro a S)
                 (refine wpm_o b1 S rfl rfl rfl (want_yes S rfl rfl rfl) rfl rfl ?_; clear S a; intro a S)
                 iterate 3 (refine wpm_p S rfl rfl rfl (want_yes S rfl rfl rfl) rfl rfl ?_; clear S a; intro a S)
                 (refine wpm_p S rfl rfl rfl (want_none _ rfl) rfl rfl ?_; clear S a; intro a S)
                 refine wpm_eff rfl rfl (kwa S) ?_
                 (refine wpl_p S rfl rfl rfl ?_; clear S a; intro a S)
                 refine wpList_nil ?_
                 refine wpm_eff rfl rfl (kwa S) ?_
                 (refine wpl_p S rfl rfl rfl ?_; clear S a; intro a S)
                 refine wpList_nil ?_
                 refine wpm_nil (kwa S) ?_
                 (refine hKq3 _ _ ?_)
                 (apply Exists.intro; apply Exists.intro; refine ⟨?_, ?_, ?_⟩; rotate_left 2; (refine S.keep ?_; repeat (first | exact trivial | refine ⟨rfl, ?_⟩)); (clear S hKq3 Kq3 ih; first | (exact absurd ((by assumption : cutC vh.s = true).symm.trans (by assumption : cutC vh.s = false)) (by decide)) | (unfold formH; first | (rw [if_neg (by omega), if_neg (by omega), if_neg (by omega), if_neg (by omega), if_neg (by omega), if_pos (by omega), (by assumption : cutC vh.s = false), decide_eq_false (fun h9 : vh.s ≠ sTrue ∧ vh.s ≠ sFalse => h9.1 (by assumption))]; simp) | (rw [if_pos (by omega)] <;> (rw [Bool.eq_iff_iff]; simp [*, sTrue, sFalse] <;> omega)) | (rw [if_neg (by omega), if_pos (by omega)] <;> (rw [Bool.eq_iff_iff]; simp [*, sTrue, sFalse] <;> omega)) | (rw [if_neg (by omega), if_neg (by omega), if_pos (by omega)] <;> (rw [Bool.eq_iff_iff]; simp [*, sTrue, sFalse] <;> omega)) | (rw [if_neg (by omega), if_neg (by omega), if_neg (by omega), if_pos (by omega)] <;> (rw [Bool.eq_iff_iff]; simp [*, sTrue, sFalse] <;> omega)) | (rw [if_neg (by omega), if_neg (by omega), if_neg (by omega), if_neg (by omega), if_pos (by omega)] <;> (rw [Bool.eq_iff_iff]; simp [*, sTrue, sFalse] <;> omega)) | (rw [if_neg (by omega), if_neg (by omega), if_neg (by omega), if_neg (by omega), if_neg (by omega), if_pos (by omega)] <;> (rw [Bool.eq_iff_iff]; simp [*, sTrue, sFalse] <;> omega)) | (rw [if_neg (by omega), if_neg (by omega), if_neg (by omega), if_neg (by omega), if_neg (by omega), if_neg (by omega)]) | (rw [if_neg (by omega), if_neg (by omega), if_neg (by omega), if_neg (by omega)]) | done)); (clear S hKq3 Kq3 ih; first | (exact absurd ((by assumption : cutC vh.s = true).symm.trans (by assumption : cutC vh.s = false)) (by decide)) | (unfold fitsH; first | (rw [if_pos (by omega)] <;> (rw [Bool.eq_iff_iff]; simp [*, sTrue, sFalse] <;> omega)) | (rw [if_neg (by omega), if_pos (by omega)] <;> (rw [Bool.eq_iff_iff]; simp [*, sTrue, sFalse] <;> omega)) | (rw [if_neg (by omega), if_neg (by omega), if_pos (by omega)] <;> (rw [Bool.eq_iff_iff]; simp [*, sTrue, sFalse] <;> omega)) | (rw [if_neg (by omega), if_neg (by omega), if_neg (by omega), if_pos (by omega)] <;> (rw [Bool.eq_iff_iff]; simp [*, sTrue, sFalse] <;> omega)) | (rw [if_neg (by omega), if_neg (by omega), if_neg (by omega), if_neg (by omega), if_pos (by omega)] <;> (rw [Bool.eq_iff_iff]; simp [*, sTrue, sFalse] <;> omega)) | (rw [if_neg (by omega), if_neg (by omega), if_neg (by omega), if_neg (by omega), if_neg (by omega), if_pos (by omega)] <;> (rw [Bool.eq_iff_iff]; simp [*, sTrue, sFalse] <;> omega)) | (rw [if_neg (by omega), if_neg (by omega), if_neg (by omega), if_neg (by omega), if_neg (by omega), if_neg (by omega)]) | (rw [if_neg (by omega), if_neg (by omega), if_neg (by omega), if_neg (by omega)]) | done)))
               (intro h S'; clear S; have S := S'; clear S'; (try simp only [tq] at h))
               iterate 3 (refine wpm_skip S rfl rfl (want_no S rfl rfl rfl) rfl rfl ?_; clear S a; intro a S)
               iterate 2 (refine wpm_p S rfl rfl rfl (want_yes S rfl rfl rfl) rfl rfl ?_; clear S a; intro a S)
               (refine wpm_p S rfl rfl rfl (want_none _ rfl) rfl rfl ?_; clear S a; intro a S)
               refine wpm_eff rfl rfl (kwa S) ?_
               (refine wpl_p S rfl rfl rfl ?_; clear S a; intro a S)
               refine wpList_nil ?_
               refine wpm_eff rfl rfl (kwa S) ?_
               (refine wpl_p S rfl rfl rfl ?_; clear S a; intro a S)
               refine wpList_nil ?_
               refine wpm_nil (kwa S) ?_
               (refine hKq3 _ _ ?_)
               (apply Exists.intro; apply Exists.intro; refine ⟨?_, ?_, ?_⟩; rotate_left 2; (refine S.keep ?_; repeat (first | exact trivial | refine ⟨rfl, ?_⟩)); (clear S hKq3 Kq3 ih; first | (exact absurd ((by assumption : cutC vh.s = true).symm.trans (by assumption : cutC vh.s = false)) (by decide)) | (unfold formH; first | (rw [if_neg (by omega), if_neg (by omega), if_neg (by omega), if_neg (by omega), if_neg (by omega), if_pos (by omega), (by assumption : cutC vh.s = false), decide_eq_false (fun h9 : vh.s ≠ sTrue ∧ vh.s ≠ sFalse => h9.1 (by assumption))]; simp) | (rw [if_pos (by omega)] <;> (rw [Bool.eq_iff_iff]; simp [*, sTrue, sFalse] <;> omega)) | (rw [if_neg (by omega), if_pos (by omega)] <;> (rw [Bool.eq_iff_iff]; simp [*, sTrue, sFalse] <;> omega)) | (rw [if_neg (by omega), if_neg (by omega), if_pos (by omega)] <;> (rw [Bool.eq_iff_iff]; simp [*, sTrue, sFalse] <;> omega)) | (rw [if_neg (by omega), if_neg (by omega), if_neg (by omega), if_pos (by omega)] <;> (rw [Bool.eq_iff_iff]; simp [*, sTrue, sFalse] <;> omega)) | (rw [if_neg (by omega), if_neg (by omega), if_neg (by omega), if_neg (by omega), if_pos (by omega)] <;> (rw [Bool.eq_iff_iff]; simp [*, sTrue, sFalse] <;> omega)) | (rw [if_neg (by omega), if_neg (by omega), if_neg (by omega), if_neg (by omega), if_neg (by omega), if_pos (by omega)] <;> (rw [Bool.eq_iff_iff]; simp [*, sTrue, sFalse] <;> omega)) | (rw [if_neg (by omega), if_neg (by omega), if_neg (by omega), if_neg (by omega), if_neg (by omega), if_neg (by omega)]) | (rw [if_neg (by omega), if_neg (by omega), if_neg (by omega), if_neg (by omega)]) | done)); (clear S hKq3 Kq3 ih; first | (exact absurd ((by assumption : cutC vh.s = true).symm.trans (by assumption : cutC vh.s = false)) (by decide)) | (unfold fitsH; first | (rw [if_pos (by omega)] <;> (rw [Bool.eq_iff_iff]; simp [*, sTrue, sFalse] <;> omega)) | (rw [if_neg (by omega), if_pos (by omega)] <;> (rw [Bool.eq_iff_iff]; simp [*, sTrue, sFalse] <;> omega)) | (rw [if_neg (by omega), if_neg (by omega), if_pos (by omega)] <;> (rw [Bool.eq_iff_iff]; simp [*, sTrue, sFalse] <;> omega)) | (rw [if_neg (by omega), if_neg (by omega), if_neg (by omega), if_pos (by omega)] <;> (rw [Bool.eq_iff_iff]; simp [*, sTrue, sFalse] <;> omega)) | (rw [if_neg (by omega), if_neg (by omega), if_neg (by omega), if_neg (by omega), if_pos (by omega)] <;> (rw [Bool.eq_iff_iff]; simp [*, sTrue, sFalse] <;> omega)) | (rw [if_neg (by omega), if_neg (by omega), if_neg (by omega), if_neg (by omega), if_neg (by omega), if_pos (by omega)] <;> (rw [Bool.eq_iff_iff]; simp [*, sTrue, sFalse] <;> omega)) | (rw [if_neg (by omega), if_neg (by omega), if_neg (by omega), if_neg (by omega), if_neg (by omega), if_neg (by omega)]) | (rw [if_neg (by omega), if_neg (by omega), if_neg (by omega), if_neg (by omega)]) | done)))
             (intro h S'; clear S; have S := S'; clear S'; (try simp only [tq] at h))
             iterate 3 (refine wpm_skip S rfl rfl (want_no S rfl rfl rfl) rfl rfl ?_; clear S a; intro a S)
             iterate 2 (refine wpm_p S rfl rfl rfl (want_yes S rfl rfl rfl) rfl rfl ?_; clear S a; intro a S)
             iterate 3 (refine wpm_skip S rfl rfl (want_no S rfl rfl rfl) rfl rfl ?_; clear S a; intro a S)
             iterate 2 (refine wpm_p S rfl rfl rfl (want_yes S rfl rfl rfl) rfl rfl ?_; clear S a; intro a S)
             (refine wpm_p S rfl rfl rfl (want_none _ rfl) rfl rfl ?_; clear S a; intro a S)
             refine wpm_eff rfl rfl (kwa S) ?_
             (refine wpl_p S rfl rfl rfl ?_; clear S a; intro a S)
             refine wpList_nil ?_
             refine wpm_eff rfl rfl (kwa S) ?_
             (refine wpl_p S rfl rfl rfl ?_; clear S a; intro a S)
             refine wpList_nil ?_
             refine wpm_nil (kwa S) ?_
             (refine hKq3 _ _ ?_)
             (apply Exists.intro; apply Exists.intro; refine ⟨?_, ?_, ?_⟩; rotate_left 2; (refine S.keep ?_; repeat (first | exact trivial | refine ⟨rfl, ?_⟩)); (clear S hKq3 Kq3 ih; first | (exact absurd ((by assumption : cutC vh.s = true).symm.trans (by assumption : cutC vh.s = false)) (by decide)) | (unfold formH; first | (rw [if_neg (by omega), if_neg (by omega), if_neg (by omega), if_neg (by omega), if_neg (by omega), if_pos (by omega), (by assumption : cutC vh.s = false), decide_eq_false (fun h9 : vh.s ≠ sTrue ∧ vh.s ≠ sFalse => h9.1 (by assumption))]; simp) | (rw [if_pos (by omega)] <;> (rw [Bool.eq_iff_iff]; simp [*, sTrue, sFalse] <;> omega)) | (rw [if_neg (by omega), if_pos (by omega)] <;> (rw [Bool.eq_iff_iff]; simp [*, sTrue, sFalse] <;> omega)) | (rw [if_neg (by omega), if_neg (by omega), if_pos (by omega)] <;> (rw [Bool.eq_iff_iff]; simp [*, sTrue, sFalse] <;> omega)) | (rw [if_neg (by omega), if_neg (by omega), if_neg (by omega), if_pos (by omega)] <;> (rw [Bool.eq_iff_iff]; simp [*, sTrue, sFalse] <;> omega)) | (rw [if_neg (by omega), if_neg (by omega), if_neg (by omega), if_neg (by omega), if_pos (by omega)] <;> (rw [Bool.eq_iff_iff]; simp [*, sTrue, sFalse] <;> omega)) | (rw [if_neg (by omega), if_neg (by omega), if_neg (by omega), if_neg (by omega), if_neg (by omega), if_pos (by omega)] <;> (rw [Bool.eq_iff_iff]; simp [*, sTrue, sFalse] <;> omega)) | (rw [if_neg (by omega), if_neg (by omega), if_neg (by omega), if_neg (by omega), if_neg (by omega), if_neg (by omega)]) | (rw [if_neg (by omega), if_neg (by omega), if_neg (by omega), if_neg (by omega)]) | done)); (clear S hKq3 Kq3 ih; first | (exact absurd ((by assumption : cutC vh.s = true).symm.trans (by assumption : cutC vh.s = false)) (by decide)) | (unfold fitsH; first | (rw [if_pos (by omega)] <;> (rw [Bool.eq_iff_iff]; simp [*, sTrue, sFalse] <;> omega)) | (rw [if_neg (by omega), if_pos (by omega)] <;> (rw [Bool.eq_iff_iff]; simp [*, sTrue, sFalse] <;> omega)) | (rw [if_neg (by omega), if_neg (by omega), if_pos (by omega)] <;> (rw [Bool.eq_iff_iff]; simp [*, sTrue, sFalse] <;> omega)) | (rw [if_neg (by omega), if_neg (by omega), if_neg (by omega), if_pos (by omega)] <;> (rw [Bool.eq_iff_iff]; simp [*, sTrue, sFalse] <;> omega)) | (rw [if_neg (by omega), if_neg (by omega), if_neg (by omega), if_neg (by omega), if_pos (by omega)] <;> (rw [Bool.eq_iff_iff]; simp [*, sTrue, sFalse] <;> omega)) | (rw [if_neg (by omega), if_neg (by omega), if_neg (by omega), if_neg (by omega), if_neg (by omega), if_pos (by omega)] <;> (rw [Bool.eq_iff_iff]; simp [*, sTrue, sFalse] <;> omega)) | (rw [if_neg (by omega), if_neg (by omega), if_neg (by omega), if_neg (by omega), if_neg (by omega), if_neg (by omega)]) | (rw [if_neg (by omega), if_neg (by omega), if_neg (by omega), if_neg (by omega)]) | done)))
           (intro h S'; clear S; have S := S'; clear S'; (try simp only [tq] at h))
           iterate 3 (refine wpm_skip S rfl rfl (want_no S rfl rfl rfl) rfl rfl ?_; clear S a; intro a S)
           iterate 3 (refine wpm_skip S rfl rfl (want_undef S rfl rfl rfl) rfl rfl ?_; clear S a; intro a S)
           iterate 2 (refine wpm_skip S rfl rfl (want_no S rfl rfl rfl) rfl rfl ?_; clear S a; intro a S)
           iterate 3 (refine wpm_skip S rfl rfl (want_undef S rfl rfl rfl) rfl rfl ?_; clear S a; intro a S)
           (refine wpm_skip S rfl rfl (want_no S rfl rfl rfl) rfl rfl ?_; clear S a; intro a S)
           (refine wpm_p S rfl rfl rfl (want_yes S rfl rfl rfl) rfl rfl ?_; clear S a; intro a S)
           (refine wpm_p S rfl rfl rfl (want_none _ rfl) rfl rfl ?_; clear S a; intro a S)
           refine wpm_eff rfl rfl (kwa S) ?_
           (refine wpl_p S rfl rfl rfl ?_; clear S a; intro a S)
           refine wpList_nil ?_
           refine wpm_eff rfl rfl (kwa S) ?_
           (refine wpl_p S rfl rfl rfl ?_; clear S a; intro a S)
           refine wpList_nil ?_
           refine wpm_nil (kwa S) ?_
           (refine hKq3 _ _ ?_)
           (apply Exists.intro; apply Exists.intro; refine ⟨?_, ?_, ?_⟩; rotate_left 2; (refine S.keep ?_; repeat (first | exact trivial | refine ⟨rfl, ?_⟩)); (clear S hKq3 Kq3 ih; first | (exact absurd ((by assumption : cutC vh.s = true).symm.trans (by assumption : cutC vh.s = false)) (by decide)) | (unfold formH; first | (rw [if_neg (by omega), if_neg (by omega), if_neg (by omega), if_neg (by omega), if_neg (by omega), if_pos (by omega), (by assumption : cutC vh.s = false), decide_eq_false (fun h9 : vh.s ≠ sTrue ∧ vh.s ≠ sFalse => h9.1 (by assumption))]; simp) | (rw [if_pos (by omega)] <;> (rw [Bool.eq_iff_iff]; simp [*, sTrue, sFalse] <;> omega)) | (rw [if_neg (by omega), if_pos (by omega)] <;> (rw [Bool.eq_iff_iff]; simp [*, sTrue, sFalse] <;> omega)) | (rw [if_neg (by omega), if_neg (by omega), if_pos (by omega)] <;> (rw [Bool.eq_iff_iff]; simp [*, sTrue, sFalse] <;> omega)) | (rw [if_neg (by omega), if_neg (by omega), if_neg (by omega), if_pos (by omega)] <;> (rw [Bool.eq_iff_iff]; simp [*, sTrue, sFalse] <;> omega)) | (rw [if_neg (by omega), if_neg (by omega), if_neg (by omega), if_neg (by omega), if_pos (by omega)] <;> (rw [Bool.eq_iff_iff]; simp [*, sTrue, sFalse] <;> omega)) | (rw [if_neg (by omega), if_neg (by omega), if_neg (by omega), if_neg (by omega), if_neg (by omega), if_pos (by omega)] <;> (rw [Bool.eq_iff_iff]; simp [*, sTrue, sFalse] <;> omega)) | (rw [if_neg (by omega), if_neg (by omega), if_neg (by omega), if_neg (by omega), if_neg (by omega), if_neg (by omega)]) | (rw [if_neg (by omega), if_neg (by omega), if_neg (by omega), if_neg (by omega)]) | done)); (clear S hKq3 Kq3 ih; first | (exact absurd ((by assumption : cutC vh.s = true).symm.trans (by assumption : cutC vh.s = false)) (by decide)) | (unfold fitsH; first | (rw [if_pos (by omega)] <;> (rw [Bool.eq_iff_iff]; simp [*, sTrue, sFalse] <;> omega)) | (rw [if_neg (by omega), if_pos (by omega)] <;> (rw [Bool.eq_iff_iff]; simp [*, sTrue, sFalse] <;> omega)) | (rw [if_neg (by omega), if_neg (by omega), if_pos (by omega)] <;> (rw [Bool.eq_iff_iff]; simp [*, sTrue, sFalse] <;> omega)) | (rw [if_neg (by omega), if_neg (by omega), if_neg (by omega), if_pos (by omega)] <;> (rw [Bool.eq_iff_iff]; simp [*, sTrue, sFalse] <;> omega)) | (rw [if_neg (by omega), if_neg (by omega), if_neg (by omega), if_neg (by omega), if_pos (by omega)] <;> (rw [Bool.eq_iff_iff]; simp [*, sTrue, sFalse] <;> omega)) | (rw [if_neg (by omega), if_neg (by omega), if_neg (by omega), if_neg (by omega), if_neg (by omega), if_pos (by omega)] <;> (rw [Bool.eq_iff_iff]; simp [*, sTrue, sFalse] <;> omega)) | (rw [if_neg (by omega), if_neg (by omega), if_neg (by omega), if_neg (by omega), if_neg (by omega), if_neg (by omega)]) | (rw [if_neg (by omega), if_neg (by omega), if_neg (by omega), if_neg (by omega)]) | done)))
         (intro h S'; clear S; have S := S'; clear S'; (try simp only [tq] at h))
         (refine wpm_skip S rfl rfl (want_no S rfl rfl rfl) rfl rfl ?_; clear S a; intro a S)
         (refine wpm_skipE S rfl rfl (want_no S rfl rfl rfl) (kwa S) rfl rfl ?_; clear S a; intro a S)
         iterate 5 (refine wpm_p S rfl rfl rfl (want_yes S rfl rfl rfl) rfl rfl ?_; clear S a; intro a S)
         refine St.part (dj := 143) (want := true) S rfl ?_ ?_
         · (intro h S'; clear S; have S := S'; clear S'; (try simp only [tq] at h))
           (refine wpm_f S rfl rfl rfl (want_yes S rfl rfl rfl) rfl rfl ?_; clear S a; intro a S)
           (refine wpm_o b1 S rfl rfl rfl (want_yes S rfl rfl rfl) rfl rfl ?_; clear S a; intro a S)
           iterate 3 (refine wpm_p S rfl rfl rfl (want_yes S rfl rfl rfl) rfl rfl ?_; clear S a; intro a S)
           refine St.part (dj := 148) (want := true) S rfl ?_ ?_
           · (intro h S'; clear S; have S := S'; clear S'; (try simp only [tq] at h))
             (refine wpm_f S rfl rfl rfl (want_yes S rfl rfl rfl) rfl rfl ?_; clear S a; intro a S)
             (refine wpm_o b1 S rfl rfl rfl (want_yes S rfl rfl rfl) rfl rfl ?_; clear S a; intro a S)
             iterate 3 (refine wpm_p S rfl rfl rfl (want_yes S rfl rfl rfl) rfl rfl ?_; clear S a; intro a S)
             (refine wpm_p S rfl rfl rfl (want_none _ rfl) rfl rfl ?_; clear S a; intro a S)
             refine wpm_eff rfl rfl (kwa S) ?_
             (refine wpl_p S rfl rfl rfl ?_; clear S a; intro a S)
             refine wpList_nil ?_
             refine wpm_eff rfl rfl (kwa S) ?_
             (refine wpl_p S rfl rfl rfl ?_; clear S a; intro a S)
             refine wpList_nil ?_
             refine wpm_nil (kwa S) ?_
             (refine hKq3 _ _ ?_)
             (apply Exists.intro; apply Exists.intro; refine ⟨?_, ?_, ?_⟩; rotate_left 2; (refine S.keep ?_; repeat (first | exact trivial | refine ⟨rfl, ?_⟩)); (clear S hKq3 Kq3 ih; first | (exact absurd ((by assumption : cutC vh.s = true).symm.trans (by assumption : cutC vh.s = false)) (by decide)) | (unfold formH; first | (rw [if_neg (by omega), if_neg (by omega), if_neg (by omega), if_neg (by omega), if_neg (by omega), if_pos (by omega), (by assumption : cutC vh.s = false), decide_eq_false (fun h9 : vh.s ≠ sTrue ∧ vh.s ≠ sFalse => h9.1 (by assumption))]; simp) | (rw [if_pos (by omega)] <;> (rw [Bool.eq_iff_iff]; simp [*, sTrue, sFalse] <;> omega)) | (rw [if_neg (by omega), if_pos (by omega)] <;> (rw [Bool.eq_iff_iff]; simp [*, sTrue, sFalse] <;> omega)) | (rw [if_neg (by omega), if_neg (by omega), if_pos (by omega)] <;> (rw [Bool.eq_iff_iff]; simp [*, sTrue, sFalse] <;> omega)) | (rw [if_neg (by omega), if_neg (by omega), if_neg (by omega), if_pos (by omega)] <;> (rw [Bool.eq_iff_iff]; simp [*, sTrue, sFalse] <;> omega)) | (rw [if_neg (by omega), if_neg (by omega), if_neg (by omega), if_neg (by omega), if_pos (by omega)] <;> (rw [Bool.eq_iff_iff]; simp [*, sTrue, sFalse] <;> omega)) | (rw [if_neg (by omega), if_neg (by omega), if_neg (by omega), if_neg (by omega), if_neg (by omega), if_pos (by omega)] <;> (rw [Bool.eq_iff_iff]; simp [*, sTrue, sFalse] <;> omega)) | (rw [if_neg (by omega), if_neg (by omega), if_neg (by omega), if_neg (by omega), if_neg (by omega), if_neg (by omega)]) | (rw [if_neg (by omega), if_neg (by omega), if_neg (by omega), if_neg (by omega)]) | done)); (clear S hKq3 Kq3 ih; first | (exact absurd ((by assumption : cutC vh.s = true).symm.trans (by assumption : cutC vh.s = false)) (by decide)) | (unfold fitsH; first | (rw [if_pos (by omega)] <;> (rw [Bool.eq_iff_iff]; simp [*, sTrue, sFalse] <;> omega)) | (rw [if_neg (by omega), if_pos (by omega)] <;> (rw [Bool.eq_iff_iff]; simp [*, sTrue, sFalse] <;> omega)) | (rw [if_neg (by omega), if_neg (by omega), if_pos (by omega)] <;> (rw [Bool.eq_iff_iff]; simp [*, sTrue, sFalse] <;> omega)) | (rw [if_neg (by omega), if_neg (by omega), if_neg (by omega), if_pos (by omega)] <;> (rw [Bool.eq_iff_iff]; simp [*, sTrue, sFalse] <;> omega)) | (rw [if_neg (by omega), if_neg (by omega), if_neg (by omega), if_neg (by omega), if_pos (by omega)] <;> (rw [Bool.eq_iff_iff]; simp [*, sTrue, sFalse] <;> omega)) | (rw [if_neg (by omega), if_neg (by omega), if_neg (by omega), if_neg (by omega), if_neg (by omega), if_pos (by omega)] <;> (rw [Bool.eq_iff_iff]; simp [*, sTrue, sFalse] <;> omega)) | (rw [if_neg (by omega), if_neg (by omega), if_neg (by omega), if_neg (by omega), if_neg (by omega), if_neg (by omega)]) | (rw [if_neg (by omega), if_neg (by omega), if_neg (by omega), if_neg (by omega)]) | done)))
           (intro h S'; clear S; have S := S'; clear S'; (try simp only [tq] at h))
           iterate 3 (refine wpm_skip S rfl rfl (want_no S rfl rfl rfl) rfl rfl ?_; clear S a; intro a S)
           iterate 2 (refine wpm_p S rfl rfl rfl (want_yes S rfl rfl rfl) rfl rfl ?_; clear S a; intro a S)
           (refine wpm_p S rfl rfl rfl (want_none _ rfl) rfl rfl ?_; clear S a; intro a S)
           refine wpm_eff rfl rfl (kwa S) ?_
           (refine wpl_p S rfl rfl rfl ?_; clear S a; intro a S)
           refine wpList_nil ?_
           refine wpm_eff rfl rfl (kwa S) ?_
           (refine wpl_p S rfl rfl rfl ?_; clear S a; intro a S)
           refine wpList_nil ?_
           refine wpm_nil (kwa S) ?_
           (refine hKq3 _ _ ?_)
           (apply Exists.intro; apply Exists.intro; refine ⟨?_, ?_, ?_⟩; rotate_left 2; (refine S.keep ?_; repeat (first | exact trivial | refine ⟨rfl, ?_⟩)); (clear S hKq3 Kq3 ih; first | (exact absurd ((by assumption : cutC vh.s = true).symm.trans (by assumption : cutC vh.s = false)) (by decide)) | (unfold formH; first | (rw [if_neg (by omega), if_neg (by omega), if_neg (by omega), if_neg (by omega), if_neg (by omega), if_pos (by omega), (by assumption : cutC vh.s = false), decide_eq_false (fun h9 : vh.s ≠ sTrue ∧ vh.s ≠ sFalse => h9.1 (by assumption))]; simp) | (rw [if_pos (by omega)] <;> (rw [Bool.eq_iff_iff]; simp [*, sTrue, sFalse] <;> omega)) | (rw [if_neg (by omega), if_pos (by omega)] <;> (rw [Bool.eq_iff_iff]; simp [*, sTrue, sFalse] <;> omega)) | (rw [if_neg (by omega), if_neg (by omega), if_pos (by omega)] <;> (rw [Bool.eq_iff_iff]; simp [*, sTrue, sFalse] <;> omega)) | (rw [if_neg (by omega), if_neg (by omega), if_neg (by omega), if_pos (by omega)] <;> (rw [Bool.eq_iff_iff]; simp [*, sTrue, sFalse] <;> omega)) | (rw [if_neg (by omega), if_neg (by omega), if_neg (by omega), if_neg (by omega), if_pos (by omega)] <;> (rw [Bool.eq_iff_iff]; simp [*, sTrue, sFalse] <;> omega)) | (rw [if_neg (by omega), if_neg (by omega), if_neg (by omega), if_neg (by omega), if_neg (by omega), if_pos (by omega)] <;> (rw [Bool.eq_iff_iff]; simp [*, sTrue, sFalse] <;> omega)) | (rw [if_neg (by omega), if_neg (by omega), if_neg (by omega), if_neg (by omega), if_neg (by omega), if_neg (by omega)]) | (rw [if_neg (by omega), if_neg (by omega), if_neg (by omega), if_neg (by omega)]) | done)); (clear S hKq3 Kq3 ih; first | (exact absurd ((by assumption : cutC vh.s = true).symm.trans (by assumption : cutC vh.s = false)) (by decide)) | (unfold fitsH; first | (rw [if_pos (by omega)] <;> (rw [Bool.eq_iff_iff]; simp [*, sTrue, sFalse] <;> omega)) | (rw [if_neg (by omega), if_pos (by omega)] <;> (rw [Bool.eq_iff_iff]; simp [*, sTrue, sFalse] <;> omega)) | (rw [if_neg (by omega), if_neg (by omega), if_pos (by omega)] <;> (rw [Bool.eq_iff_iff]; simp [*, sTrue, sFalse] <;> omega)) | (rw [if_neg (by omega), if_neg (by omega), if_neg (by omega), if_pos (by omega)] <;> (rw [Bool.eq_iff_iff]; simp [*, sTrue, sFalse] <;> omega)) | (rw [if_neg (by omega), if_neg (by omega), if_neg (by omega), if_neg (by omega), if_pos (by omega)] <;> (rw [Bool.eq_iff_iff]; simp [*, sTrue, sFalse] <;> omega)) | (rw [if_neg (by omega), if_neg (by omega), if_neg (by omega), if_neg (by omega), if_neg (by omega), if_pos (by omega)] <;> (rw [Bool.eq_iff_iff]; simp [*, sTrue, sFalse] <;> omega)) | (rw [if_neg (by omega), if_neg (by omega), if_neg (by omega), if_neg (by omega), if_neg (by omega), if_neg (by omega)]) | (rw [if_neg (by omega), if_neg (by omega), if_neg (by omega), if_neg (by omega)]) | done)))
         (intro h S'; clear S; have S := S'; clear S'; (try simp only [tq] at h))
         iterate 3 (refine wpm_skip S rfl rfl (want_no S rfl rfl rfl) rfl rfl ?_; clear S a; intro a S)
         iterate 2 (refine wpm_p S rfl rfl rfl (want_yes S rfl rfl rfl) rfl rfl ?_; clear S a; intro a S)
         iterate 3 (refine wpm_skip S rfl rfl (want_no S rfl rfl rfl) rfl rfl ?_; clear S a; intro a S)
         iterate 2 (refine wpm_p S rfl rfl rfl (want_yes S rfl rfl rfl) rfl rfl ?_; clear S a; intro a S)
         (refine wpm_p S rfl rfl rfl (want_none _ rfl) rfl rfl ?_; clear S a; intro a S)
         refine wpm_eff rfl rfl (kwa S) ?_
         (refine wpl_p S rfl rfl rfl ?_; clear S a; intro a S)
         refine wpList_nil ?_
         refine wpm_eff rfl rfl (kwa S) ?_
         (refine wpl_p S rfl rfl rfl ?_; clear S a; intro a S)
         refine wpList_nil ?_
         refine wpm_nil (kwa S) ?_
         (refine hKq3 _ _ ?_)
         (apply Exists.intro; apply Exists.intro; refine ⟨?_, ?_, ?_⟩; rotate_left 2; (refine S.keep ?_; repeat (first | exact trivial | refine ⟨rfl, ?_⟩)); (clear S hKq3 Kq3 ih; first | (exact absurd ((by assumption : cutC vh.s = true).symm.trans (by assumption : cutC vh.s = false)) (by decide)) | (unfold formH; first | (rw [if_neg (by omega), if_neg (by omega), if_neg (by omega), if_neg (by omega), if_neg (by omega), if_pos (by omega), (by assumption : cutC vh.s = false), decide_eq_false (fun h9 : vh.s ≠ sTrue ∧ vh.s ≠ sFalse => h9.1 (by assumption))]; simp) | (rw [if_pos (by omega)] <;> (rw [Bool.eq_iff_iff]; simp [*, sTrue, sFalse] <;> omega)) | (rw [if_neg (by omega), if_pos (by omega)] <;> (rw [Bool.eq_iff_iff]; simp [*, sTrue, sFalse] <;> omega)) | (rw [if_neg (by omega), if_neg (by omega), if_pos (by omega)] <;> (rw [Bool.eq_iff_iff]; simp [*, sTrue, sFalse] <;> omega)) | (rw [if_neg (by omega), if_neg (by omega), if_neg (by omega), if_pos (by omega)] <;> (rw [Bool.eq_iff_iff]; simp [*, sTrue, sFalse] <;> omega)) | (rw [if_neg (by omega), if_neg (by omega), if_neg (by omega), if_neg (by omega), if_pos (by omega)] <;> (rw [Bool.eq_iff_iff]; simp [*, sTrue, sFalse] <;> omega)) | (rw [if_neg (by omega), if_neg (by omega), if_neg (by omega), if_neg (by omega), if_neg (by omega), if_pos (by omega)] <;> (rw [Bool.eq_iff_iff]; simp [*, sTrue, sFalse] <;> omega)) | (rw [if_neg (by omega), if_neg (by omega), if_neg (by omega), if_neg (by omega), if_neg (by omega), if_neg (by omega)]) | (rw [if_neg (by omega), if_neg (by omega), if_neg (by omega), if_neg (by omega)]) | done)); (clear S hKq3 Kq3 ih; first | (exact absurd ((by assumption : cutC vh.s = true).symm.trans (by assumption : cutC vh.s = false)) (by decide)) | (unfold fitsH; first | (rw [if_pos (by omega)] <;> (rw [Bool.eq_iff_iff]; simp [*, sTrue, sFalse] <;> omega)) | (rw [if_neg (by omega), if_pos (by omega)] <;> (rw [Bool.eq_iff_iff]; simp [*, sTrue, sFalse] <;> omega)) | (rw [if_neg (by omega), if_neg (by omega), if_pos (by omega)] <;> (rw [Bool.eq_iff_iff]; simp [*, sTrue, sFalse] <;> omega)) | (rw [if_neg (by omega), if_neg (by omega), if_neg (by omega), if_pos (by omega)] <;> (rw [Bool.eq_iff_iff]; simp [*, sTrue, sFalse] <;> omega)) | (rw [if_neg (by omega), if_neg (by omega), if_neg (by omega), if_neg (by omega), if_pos (by omega)] <;> (rw [Bool.eq_iff_iff]; simp [*, sTrue, sFalse] <;> omega)) | (rw [if_neg (by omega), if_neg (by omega), if_neg (by omega), if_neg (by omega), if_neg (by omega), if_pos (by omega)] <;> (rw [Bool.eq_iff_iff]; simp [*, sTrue, sFalse] <;> omega)) | (rw [if_neg (by omega), if_neg (by omega), if_neg (by omega), if_neg (by omega), if_neg (by omega), if_neg (by omega)]) | (rw [if_neg (by omega), if_neg (by omega), if_neg (by omega), if_neg (by omega)]) | done)))
       (intro h S'; clear S; have S := S'; clear S'; (try simp only [tq] at h))
       iterate 2 (refine wpm_skip S rfl rfl (want_no S rfl rfl rfl) rfl rfl ?_; clear S a; intro a S)
       (refine wpm_skip S rfl rfl (want_undef S rfl rfl rfl) rfl rfl ?_; clear S a; intro a S)
       (refine wpm_skipE S rfl rfl (want_undef S rfl rfl rfl) (kwa S) rfl rfl ?_; clear S a; intro a S)
       iterate 2 (refine wpm_skip S rfl rfl (want_no S rfl rfl rfl) rfl rfl ?_; clear S a; intro a S)
       iterate 12 (refine wpm_skip S rfl rfl (want_undef S rfl rfl rfl) rfl rfl ?_; clear S a; intro a S)
       (refine wpm_skip S rfl rfl (want_no S rfl rfl rfl) rfl rfl ?_; clear S a; intro a S)
       (refine wpm_p S rfl rfl rfl (want_none _ rfl) rfl rfl ?_; clear S a; intro a S)
       refine wpm_eff rfl rfl (kwa S) ?_
       (refine wpl_p S rfl rfl rfl ?_; clear S a; intro a S)
       refine wpList_nil ?_
       refine wpm_eff rfl rfl (kwa S) ?_
       (refine wpl_p S rfl rfl rfl ?_; clear S a; intro a S)
       refine wpList_nil ?_
       refine wpm_nil (kwa S) ?_
       (refine hKq3 _ _ ?_)
       (apply Exists.intro; apply Exists.intro; refine ⟨?_, ?_, ?_⟩; rotate_left 2; (refine S.keep ?_; repeat (first | exact trivial | refine ⟨rfl, ?_⟩)); (clear S hKq3 Kq3 ih; first | (exact absurd ((by assumption : cutC vh.s = true).symm.trans (by assumption : cutC vh.s = false)) (by decide)) | (unfold formH; first | (rw [if_neg (by omega), if_neg (by omega), if_neg (by omega), if_neg (by omega), if_neg (by omega), if_pos (by omega), (by assumption : cutC vh.s = false), decide_eq_false (fun h9 : vh.s ≠ sTrue ∧ vh.s ≠ sFalse => h9.1 (by assumption))]; simp) | (rw [if_pos (by omega)] <;> (rw [Bool.eq_iff_iff]; simp [*, sTrue, sFalse] <;> omega)) | (rw [if_neg (by omega), if_pos (by omega)] <;> (rw [Bool.eq_iff_iff]; simp [*, sTrue, sFalse] <;> omega)) | (rw [if_neg (by omega), if_neg (by omega), if_pos (by omega)] <;> (rw [Bool.eq_iff_iff]; simp [*, sTrue, sFalse] <;> omega)) | (rw [if_neg (by omega), if_neg (by omega), if_neg (by omega), if_pos (by omega)] <;> (rw [Bool.eq_iff_iff]; simp [*, sTrue, sFalse] <;> omega)) | (rw [if_neg (by omega), if_neg (by omega), if_neg (by omega), if_neg (by omega), if_pos (by omega)] <;> (rw [Bool.eq_iff_iff]; simp [*, sTrue, sFalse] <;> omega)) | (rw [if_neg (by omega), if_neg (by omega), if_neg (by omega), if_neg (by omega), if_neg (by omega), if_pos (by omega)] <;> (rw [Bool.eq_iff_iff]; simp [*, sTrue, sFalse] <;> omega)) | (rw [if_neg (by omega), if_neg (by omega), if_neg (by omega), if_neg (by omega), if_neg (by omega), if_neg (by omega)]) | (rw [if_neg (by omega), if_neg (by omega), if_neg (by omega), if_neg (by omega)]) | done)); (clear S hKq3 Kq3 ih; first | (exact absurd ((by assumption : cutC vh.s = true).symm.trans (by assumption : cutC vh.s = false)) (by decide)) | (unfold fitsH; first | (rw [if_pos (by omega)] <;> (rw [Bool.eq_iff_iff]; simp [*, sTrue, sFalse] <;> omega)) | (rw [if_neg (by omega), if_pos (by omega)] <;> (rw [Bool.eq_iff_iff]; simp [*, sTrue, sFalse] <;> omega)) | (rw [if_neg (by omega), if_neg (by omega), if_pos (by omega)] <;> (rw [Bool.eq_iff_iff]; simp [*, sTrue, sFalse] <;> omega)) | (rw [if_neg (by omega), if_neg (by omega), if_neg (by omega), if_pos (by omega)] <;> (rw [Bool.eq_iff_iff]; simp [*, sTrue, sFalse] <;> omega)) | (rw [if_neg (by omega), if_neg (by omega), if_neg (by omega), if_neg (by omega), if_pos (by omega)] <;> (rw [Bool.eq_iff_iff]; simp [*, sTrue, sFalse] <;> omega)) | (rw [if_neg (by omega), if_neg (by omega), if_neg (by omega), if_neg (by omega), if_neg (by omega), if_pos (by omega)] <;> (rw [Bool.eq_iff_iff]; simp [*, sTrue, sFalse] <;> omega)) | (rw [if_neg (by omega), if_neg (by omega), if_neg (by omega), if_neg (by omega), if_neg (by omega), if_neg (by omega)]) | (rw [if_neg (by omega), if_neg (by omega), if_neg (by omega), if_neg (by omega)]) | done)))
     (intro h S'; clear S; have S := S'; clear S'; (try simp only [tq] at h))
     (refine wpm_skip S rfl rfl (want_no S rfl rfl rfl) rfl rfl ?_; clear S a; intro a S)
     (refine wpm_f S rfl rfl rfl (want_none _ rfl) rfl rfl ?_; clear S a; intro a S)
     (refine wpm_o b1 S rfl rfl rfl (want_none _ rfl) rfl rfl ?_; clear S a; intro a S)
     (refine wpm_n S rfl rfl rfl (want_none _ rfl) rfl rfl ?_; clear S a; intro a S)
     (refine wpm_p S rfl rfl rfl (want_none _ rfl) rfl rfl ?_; clear S a; intro a S)
     (refine wpm_skipE S rfl rfl (want_no S rfl rfl rfl) (kwa S) rfl rfl ?_; clear S a; intro a S)
     iterate 2 (refine wpm_p S rfl rfl rfl (want_none _ rfl) rfl rfl ?_; clear S a; intro a S)
     iterate 2 (refine wpm_skip S rfl rfl (want_no S rfl rfl rfl) rfl rfl ?_; clear S a; intro a S)
     (refine wpm_skip S rfl rfl (want_undef S rfl rfl rfl) rfl rfl ?_; clear S a; intro a S)
     (refine wpm_skipE S rfl rfl (want_undef S rfl rfl rfl) (kwa S) rfl rfl ?_; clear S a; intro a S)
     iterate 2 (refine wpm_skip S rfl rfl (want_no S rfl rfl rfl) rfl rfl ?_; clear S a; intro a S)
     iterate 12 (refine wpm_skip S rfl rfl (want_undef S rfl rfl rfl) rfl rfl ?_; clear S a; intro a S)
     (refine wpm_skip S rfl rfl (want_no S rfl rfl rfl) rfl rfl ?_; clear S a; intro a S)
     (refine wpm_p S rfl rfl rfl (want_none _ rfl) rfl rfl ?_; clear S a; intro a S)
     refine wpm_eff rfl rfl (kwa S) ?_
     (refine wpl_p S rfl rfl rfl ?_; clear S a; intro a S)
     refine wpList_nil ?_
     refine wpm_eff rfl rfl (kwa S) ?_
     (refine wpl_p S rfl rfl rfl ?_; clear S a; intro a S)
     refine wpList_nil ?_
     refine wpm_nil (kwa S) ?_
     (refine hKq3 _ _ ?_)
     (apply Exists.intro; apply Exists.intro; refine ⟨?_, ?_, ?_⟩; rotate_left 2; (refine S.keep ?_; repeat (first | exact trivial | refine ⟨rfl, ?_⟩)); (clear S hKq3 Kq3 ih; first | (exact absurd ((by assumption : cutC vh.s = true).symm.trans (by assumption : cutC vh.s = false)) (by decide)) | (unfold formH; first | (rw [if_neg (by omega), if_neg (by omega), if_neg (by omega), if_neg (by omega), if_neg (by omega), if_pos (by omega), (by assumption : cutC vh.s = false), decide_eq_false (fun h9 : vh.s ≠ sTrue ∧ vh.s ≠ sFalse => h9.1 (by assumption))]; simp) | (rw [if_pos (by omega)] <;> (rw [Bool.eq_iff_iff]; simp [*, sTrue, sFalse] <;> omega)) | (rw [if_neg (by omega), if_pos (by omega)] <;> (rw [Bool.eq_iff_iff]; simp [*, sTrue, sFalse] <;> omega)) | (rw [if_neg (by omega), if_neg (by omega), if_pos (by omega)] <;> (rw [Bool.eq_iff_iff]; simp [*, sTrue, sFalse] <;> omega)) | (rw [if_neg (by omega), if_neg (by omega), if_neg (by omega), if_pos (by omega)] <;> (rw [Bool.eq_iff_iff]; simp [*, sTrue, sFalse] <;> omega)) | (rw [if_neg (by omega), if_neg (by omega), if_neg (by omega), if_neg (by omega), if_pos (by omega)] <;> (rw [Bool.eq_iff_iff]; simp [*, sTrue, sFalse] <;> omega)) | (rw [if_neg (by omega), if_neg (by omega), if_neg (by omega), if_neg (by omega), if_neg (by omega), if_pos (by omega)] <;> (rw [Bool.eq_iff_iff]; simp [*, sTrue, sFalse] <;> omega)) | (rw [if_neg (by omega), if_neg (by omega), if_neg (by omega), if_neg (by omega), if_neg (by omega), if_neg (by omega)]) | (rw [if_neg (by omega), if_neg (by omega), if_neg (by omega), if_neg (by omega)]) | done)); (clear S hKq3 Kq3 ih; first | (exact absurd ((by assumption : cutC vh.s = true).symm.trans (by assumption : cutC vh.s = false)) (by decide)) | (unfold fitsH; first | (rw [if_pos (by omega)] <;> (rw [Bool.eq_iff_iff]; simp [*, sTrue, sFalse] <;> omega)) | (rw [if_neg (by omega), if_pos (by omega)] <;> (rw [Bool.eq_iff_iff]; simp [*, sTrue, sFalse] <;> omega)) | (rw [if_neg (by omega), if_neg (by omega), if_pos (by omega)] <;> (rw [Bool.eq_iff_iff]; simp [*, sTrue, sFalse] <;> omega)) | (rw [if_neg (by omega), if_neg (by omega), if_neg (by omega), if_pos (by omega)] <;> (rw [Bool.eq_iff_iff]; simp [*, sTrue, sFalse] <;> omega)) | (rw [if_neg (by omega), if_neg (by omega), if_neg (by omega), if_neg (by omega), if_pos (by omega)] <;> (rw [Bool.eq_iff_iff]; simp [*, sTrue, sFalse] <;> omega)) | (rw [if_neg (by omega), if_neg (by omega), if_neg (by omega), if_neg (by omega), if_neg (by omega), if_pos (by omega)] <;> (rw [Bool.eq_iff_iff]; simp [*, sTrue, sFalse] <;> omega)) | (rw [if_neg (by omega), if_neg (by omega), if_neg (by omega), if_neg (by omega), if_neg (by omega), if_neg (by omega)]) | (rw [if_neg (by omega), if_neg (by omega), if_neg (by omega), if_neg (by omega)]) | done)))
   (skip; (try simp only [tq] at h))
   refine wp_region_lit ?_
   (refine wpl_p S rfl rfl rfl ?_; clear S a; intro a S)
   refine wpList_nil ?_
   (refine hKq3 _ _ ?_)
   (apply Exists.intro; apply Exists.intro; refine ⟨?_, ?_, ?_⟩; rotate_left 2; (refine S.keep ?_; repeat (first | exact trivial | refine ⟨rfl, ?_⟩)); (clear S hKq3 Kq3 ih; first | (exact absurd ((by assumption : cutC vh.s = true).symm.trans (by assumption : cutC vh.s = false)) (by decide)) | (unfold formH; first | (rw [if_neg (by omega), if_neg (by omega), if_neg (by omega), if_neg (by omega), if_neg (by omega), if_pos (by omega), (by assumption : cutC vh.s = false), decide_eq_false (fun h9 : vh.s ≠ sTrue ∧ vh.s ≠ sFalse => h9.1 (by assumption))]; simp) | (rw [if_pos (by omega)] <;> (rw [Bool.eq_iff_iff]; simp [*, sTrue, sFalse] <;> omega)) | (rw [if_neg (by omega), if_pos (by omega)] <;> (rw [Bool.eq_iff_iff]; simp [*, sTrue, sFalse] <;> omega)) | (rw [if_neg (by omega), if_neg (by omega), if_pos (by omega)] <;> (rw [Bool.eq_iff_iff]; simp [*, sTrue, sFalse] <;> omega)) | (rw [if_neg (by omega), if_neg (by omega), if_neg (by omega), if_pos (by omega)] <;> (rw [Bool.eq_iff_iff]; simp [*, sTrue, sFalse] <;> omega)) | (rw [if_neg (by omega), if_neg (by omega), if_neg (by omega), if_neg (by omega), if_pos (by omega)] <;> (rw [Bool.eq_iff_iff]; simp [*, sTrue, sFalse] <;> omega)) | (rw [if_neg (by omega), if_neg (by omega), if_neg (by omega), if_neg (by omega), if_neg (by omega), if_pos (by omega)] <;> (rw [Bool.eq_iff_iff]; simp [*, sTrue, sFalse] <;> omega)) | (rw [if_neg (by omega), if_neg (by omega), if_neg (by omega), if_neg (by omega), if_neg (by omega), if_neg (by omega)]) | (rw [if_neg (by omega), if_neg (by omega), if_neg (by omega), if_neg (by omega)]) | done)); (clear S hKq3 Kq3 ih; first | (exact absurd ((by assumption : cutC vh.s = true).symm.trans (by assumption : cutC vh.s = false)) (by decide)) | (unfold fitsH; first | (rw [if_pos (by omega)] <;> (rw [Bool.eq_iff_iff]; simp [*, sTrue, sFalse] <;> omega)) | (rw [if_neg (by omega), if_pos (by omega)] <;> (rw [Bool.eq_iff_iff]; simp [*, sTrue, sFalse] <;> omega)) | (rw [if_neg (by omega), if_neg (by omega), if_pos (by omega)] <;> (rw [Bool.eq_iff_iff]; simp [*, sTrue, sFalse] <;> omega)) | (rw [if_neg (by omega), if_neg (by omega), if_neg (by omega), if_pos (by omega)] <;> (rw [Bool.eq_iff_iff]; simp [*, sTrue, sFalse] <;> omega)) | (rw [if_neg (by omega), if_neg (by omega), if_neg (by omega), if_neg (by omega), if_pos (by omega)] <;> (rw [Bool.eq_iff_iff]; simp [*, sTrue, sFalse] <;> omega)) | (rw [if_neg (by omega), if_neg (by omega), if_neg (by omega), if_neg (by omega), if_neg (by omega), if_pos (by omega)] <;> (rw [Bool.eq_iff_iff]; simp [*, sTrue, sFalse] <;> omega)) | (rw [if_neg (by omega), if_neg (by omega), if_neg (by omega), if_neg (by omega), if_neg (by omega), if_neg (by omega)]) | (rw [if_neg (by omega), if_neg (by omega), if_neg (by omega), if_neg (by omega)]) | done))))
  refine wp_region_lit ?_
  (refine wpl_f S rfl rfl rfl ?_; clear S a; intro a S)
  (refine wpl_l S rfl rfl rfl ?_; clear S a; intro a S)
  iterate 2 (refine wpl_p S rfl rfl rfl ?_; clear S a; intro a S)
  refine wpl_guard S rfl rfl rfl rfl rfl ?_ ?_
  · (intro h S'; clear S; have S := S'; clear S'; (try simp only [tq] at h))
    (refine wpl_f S rfl rfl rfl ?_; clear S a; intro a S)
    refine wpl_take S rfl rfl rfl ?_
    (refine wpl_l S rfl rfl rfl ?_; clear S a; intro a S)
    refine wpl_take S rfl rfl rfl ?_
    iterate 3 (refine wpl_p S rfl rfl rfl ?_; clear S a; intro a S)
    refine wpl_guard S rfl rfl rfl rfl rfl ?_ ?_
    · (intro h S'; clear S; have S := S'; clear S'; (try simp only [tq] at h))
      (refine wpl_f S rfl rfl rfl ?_; clear S a; intro a S)
      refine wpl_take S rfl rfl rfl ?_
      (refine wpl_l S rfl rfl rfl ?_; clear S a; intro a S)
      refine wpl_take S rfl rfl rfl ?_
      (refine wpl_n S rfl rfl rfl ?_; clear S a; intro a S)
      refine wpl_take S rfl rfl rfl ?_
      iterate 4 (refine wpl_p S rfl rfl rfl ?_; clear S a; intro a S)
      refine wpList_nil ?_
      (refine hKq2 _ _ ?_)
      (apply Exists.intro; (refine S.keep ?_; repeat (first | exact trivial | refine ⟨rfl, ?_⟩)))
    (intro h; clear S a; intro a S; (try simp only [tq] at h))
    iterate 3 (refine wpl_skip S rfl rfl rfl rfl rfl ?_; clear S a; intro a S)
    iterate 3 (refine wpl_p S rfl rfl rfl ?_; clear S a; intro a S)
    refine wpList_nil ?_
    (refine hKq2 _ _ ?_)
    (apply Exists.intro; (refine S.keep ?_; repeat (first | exact trivial | refine ⟨rfl, ?_⟩)))
  (intro h; clear S a; intro a S; (try simp only [tq] at h))
  iterate 2 (refine wpl_skip S rfl rfl rfl rfl rfl ?_; clear S a; intro a S)
  iterate 2 (refine wpl_p S rfl rfl rfl ?_; clear S a; intro a S)
  iterate 4 (refine wpl_skip S rfl rfl rfl rfl rfl ?_; clear S a; intro a S)
  iterate 3 (refine wpl_p S rfl rfl rfl ?_; clear S a; intro a S)
  refine wpList_nil ?_
  (refine hKq2 _ _ ?_)
  (apply Exists.intro; (refine S.keep ?_; repeat (first | exact trivial | refine ⟨rfl, ?_⟩)))
end Go.Proofs.YtigblodhdfnleaaGreatDoor
