/- The walk of look. The walk of Check of values. Division digit by digit: what the next digit of the quotient, and what is left, are. No program. strconv.FormatInt at the base ten and strings.Repeat, as contracts of the steps' own kind; decimal numerals joined. -/
import Derived.Test.YtigblodhdfnleaaGreatDoorDeX
import Derived.Test.YtigblodhdfnleaaGreatDoorWk7
import Derived.Test.YtigblodhdfnleaaGreatDoorBld
import Derived.Test.YtigblodhdfnleaaGreatDoorShelf
import Derived.Lib.ItoaMem
import Derived.Lib.AppendIntMem
namespace Go.Proofs.YtigblodhdfnleaaGreatDoor
open Go Go.Wk Go.Un Go.De
set_option linter.unusedSimpArgs false
set_option linter.unusedVariables false
attribute [local irreducible] Go.wpList Go.Code.wp Go.wpStill Go.Wk.wpPre Go.bodyPost Go.Calls Go.Wk.Ct Go.Wk.OwnS
attribute [local irreducible] Go.Wk.wpG Go.Wk.wpM

theorem zzDeY0 {p : Prop} (h : p := by (rw [← hao] at S; replace S := S.drop1; refine ⟨L.len - (k + 1), by omega, k + 1, ?_⟩; apply Exists.intro; apply Exists.intro; refine ⟨rfl, by omega, ?_, ?_, ?_⟩; rotate_left 2; (refine S.keep ?_; repeat (first | exact trivial | refine ⟨rfl, ?_⟩)); (rw [← hq1]; first | rw [hdr, formL_cons, (by assumption : q1 = true), Bool.true_and] | (rw [(by assumption : q1 = false), Bool.false_and, Bool.false_and])); (rw [← hq2]; first | rw [hdr, fitsL_cons, (by assumption : q2 = true), Bool.true_and] | (rw [(by assumption : q2 = false), Bool.false_and, Bool.false_and])))) : p := h
theorem zzDeY1 {p : Prop} (h : p := by (apply Exists.intro; apply Exists.intro; refine ⟨?_, ?_, ?_⟩; rotate_left 2; (refine S.keep ?_; repeat (first | exact trivial | refine ⟨rfl, ?_⟩)); (clear S hZ Z ih; first | (exact absurd ((by assumption : cutC vh.s = true).symm.trans (by assumption : cutC vh.s = false)) (by decide)) | (unfold formH; first | (rw [if_neg (by omega), if_neg (by omega), if_neg (by omega), if_neg (by omega), if_neg (by omega), if_pos (by omega), (by assumption : cutC vh.s = false), decide_eq_false (fun h9 : vh.s ≠ sTrue ∧ vh.s ≠ sFalse => h9.1 (by assumption))]; simp) | (rw [if_pos (by omega)] <;> (rw [Bool.eq_iff_iff]; simp [*, sTrue, sFalse] <;> omega)) | (rw [if_neg (by omega), if_pos (by omega)] <;> (rw [Bool.eq_iff_iff]; simp [*, sTrue, sFalse] <;> omega)) | (rw [if_neg (by omega), if_neg (by omega), if_pos (by omega)] <;> (rw [Bool.eq_iff_iff]; simp [*, sTrue, sFalse] <;> omega)) | (rw [if_neg (by omega), if_neg (by omega), if_neg (by omega), if_pos (by omega)] <;> (rw [Bool.eq_iff_iff]; simp [*, sTrue, sFalse] <;> omega)) | (rw [if_neg (by omega), if_neg (by omega), if_neg (by omega), if_neg (by omega), if_pos (by omega)] <;> (rw [Bool.eq_iff_iff]; simp [*, sTrue, sFalse] <;> omega)) | (rw [if_neg (by omega), if_neg (by omega), if_neg (by omega), if_neg (by omega), if_neg (by omega), if_pos (by omega)] <;> (rw [Bool.eq_iff_iff]; simp [*, sTrue, sFalse] <;> omega)) | (rw [if_neg (by omega), if_neg (by omega), if_neg (by omega), if_neg (by omega), if_neg (by omega), if_neg (by omega)]) | (rw [if_neg (by omega), if_neg (by omega), if_neg (by omega), if_neg (by omega)]) | done)); (clear S hZ Z ih; first | (exact absurd ((by assumption : cutC vh.s = true).symm.trans (by assumption : cutC vh.s = false)) (by decide)) | (unfold fitsH; first | (rw [if_pos (by omega)] <;> (rw [Bool.eq_iff_iff]; simp [*, sTrue, sFalse] <;> omega)) | (rw [if_neg (by omega), if_pos (by omega)] <;> (rw [Bool.eq_iff_iff]; simp [*, sTrue, sFalse] <;> omega)) | (rw [if_neg (by omega), if_neg (by omega), if_pos (by omega)] <;> (rw [Bool.eq_iff_iff]; simp [*, sTrue, sFalse] <;> omega)) | (rw [if_neg (by omega), if_neg (by omega), if_neg (by omega), if_pos (by omega)] <;> (rw [Bool.eq_iff_iff]; simp [*, sTrue, sFalse] <;> omega)) | (rw [if_neg (by omega), if_neg (by omega), if_neg (by omega), if_neg (by omega), if_pos (by omega)] <;> (rw [Bool.eq_iff_iff]; simp [*, sTrue, sFalse] <;> omega)) | (rw [if_neg (by omega), if_neg (by omega), if_neg (by omega), if_neg (by omega), if_neg (by omega), if_pos (by omega)] <;> (rw [Bool.eq_iff_iff]; simp [*, sTrue, sFalse] <;> omega)) | (rw [if_neg (by omega), if_neg (by omega), if_neg (by omega), if_neg (by omega), if_neg (by omega), if_neg (by omega)]) | (rw [if_neg (by omega), if_neg (by omega), if_neg (by omega), if_neg (by omega)]) | done)))) : p := h
set_option maxRecDepth 20000 in
set_option maxHeartbeats 16000000 in
theorem lookCt (F : Heap) : ∀ (n : Nat) (vh : VH) (L : Vf) (cs : List Value), L.size ≤ n → VaC F cs vh L → Ct Tryz.prog 59 [.agg ⟨cs⟩] F [] (fun _ _ u => u = .tuple ⟨[.bool (formH vh L.len && formL L), .bool (fitsH vh L.len && fitsL L)]⟩) := by
  intro n
  induction n using Nat.strongRecOn with
  | _ n ih =>
  intro vh L cs hn hV
  obtain ⟨v, rfl, ⟨ao, cap, rfl, hcap, hpos⟩, hsb⟩ := hV
  refine Ct.enter Tryz.func59 rfl Tryz.ntmps59 rfl fun w0 a S => ?_
  refine wp_sr fun Z hZ => ?_
  (refine wpl_box S rfl rfl rfl rfl rfl ?_; clear S a; intro b1 a w S)
  (revert S a; revert hZ Z; refine go10 4 ?_; intro a S)
  (refine wp_seq_k ?_; intro Z hZ)
  replace hZ : ∀ (a' : Act) (w' : World), (∃ p1 : Bool, St 182 [(1, ptr b1), (2, .bool p1), (3, .bool true)] w0 F [] F [[(b1, .cells ⟨[.int .u8 (vh.k : Int), .int .i64 vh.n, .string (bs vh.s), .slice ao L.len cap]⟩ 83 (0, 0))]] a' w') → Z a' w' := (by
   (intro a w hM; refine hZ _ _ ?_; clear hZ Z; clear S; obtain ⟨p1, S⟩ := hM)
   (refine wp_seq_k ?_; intro Z hZ)
   replace hZ : ∀ (a' : Act) (w' : World), (∃ p1 p2 : Bool, p1 = formH vh L.len ∧ p2 = fitsH vh L.len ∧ St 182 [(1, ptr b1), (2, .bool p1), (3, .bool p2)] w0 F [] F [[(b1, .cells ⟨[.int .u8 (vh.k : Int), .int .i64 vh.n, .string (bs vh.s), .slice ao L.len cap]⟩ 83 (0, 0))]] a' w') → Z a' w' := (by
    (intro a w hM; refine hZ _ _ ?_; clear hZ Z; clear S; obtain ⟨p1, p2, hp1, hp2, S⟩ := hM)
    (revert S a; refine go01 9 ?_; intro Z hZ a S)
    refine wpc_loop (fun m a w' => ∃ (k : Nat) (q1 q2 : Bool), m = L.len - k ∧ k ≤ L.len ∧ (q1 && formL (L.drop k)) = (formH vh L.len && formL L) ∧ (q2 && fitsL (L.drop k)) = (fitsH vh L.len && fitsL L) ∧ St 182 [(1, ptr b1), (2, .bool q1), (3, .bool q2), (160, .slice ao L.len cap), (161, .int .i64 L.len), (162, .int .i64 k)] w0 F [] F [[(b1, .cells ⟨[.int .u8 (vh.k : Int), .int .i64 vh.n, .string (bs vh.s), .slice ao L.len cap]⟩ 83 (0, 0))]] a w') ?_ ?_
    · (refine ⟨L.len, 0, p1, p2, by omega, Nat.zero_le _, by rw [hp1]; rfl, by rw [hp2]; rfl, ?_⟩; refine S.keep ?_; repeat (first | exact trivial | refine ⟨rfl, ?_⟩))
    (clear S; rintro m a w ⟨k, q1, q2, rfl, hkl, hq1, hq2, S⟩)
    (revert S a; refine go01 5 ?_; intro Z hZ a S)
    refine wpc_split S rfl (fun h => ?_) (fun h => ?_)
    · (skip; (try simp only [tq] at h))
      (revert S a; revert hZ Z; refine go11 4 ?_; intro Z hZ a S)
      (refine wp_seq_k ?_; intro Z hZ)
      (obtain ⟨b8, o8, hao, x, cs1, v1, hx, hc1, hw9, hT1⟩ := TrM.pos hpos (k := k) (by omega); rw [hao] at S; have hxs := Rose.size_get hx; have hdr := Rose.drop_get hx; have hT1c := hT1; obtain ⟨a91, c91, rfl, -⟩ := hT1c; have hw9c := hw9.1; subst hw9c; (simp only [List.cons_append, List.nil_append] at hc1))
      (revert S a; refine go00 3 ?_; intro a S)
      (refine wpl_alloc S rfl rfl rfl rfl ?_; clear S a; intro b10 a w S)
      (refine wpl_storeO S rfl rfl rfl rfl rfl (by rfl) (by simp [Value.cells, Value.oneCell', splice]) (by rfl) ?_; clear S; intro w S)
      (revert S a; revert hZ Z; refine go11 4 ?_; intro Z hZ a S)
      (refine wpl_call0 S rfl rfl rfl rfl rfl rfl (ih x.2.size (by omega) x.1 x.2 _ (Nat.le_refl _) ⟨_, rfl, hT1, hw9.2⟩) rfl ?_; clear S a; intro v a w hv S; subst hv)
      (revert S a; revert hZ Z; refine go10 10 ?_; intro a S)
      refine wpl_guard S rfl rfl rfl rfl rfl ?_ ?_
      · (clear S; intro h S; (try simp only [tq] at h))
        (revert S a; refine go00 4 ?_; intro a S)
        refine wpl_guard S rfl rfl rfl rfl rfl ?_ ?_
        · (clear S; intro h S; (try simp only [tq] at h))
          (revert S a; revert hZ Z; refine go10 10 ?_; intro a S)
          change ∃ m', _ ∧ _
          exact zzDeY0
        (intro h; clear S a; intro a S; (try simp only [tq] at h))
        (revert S a; revert hZ Z; refine go10 9 ?_; intro a S)
        change ∃ m', _ ∧ _
        exact zzDeY0
      (intro h; clear S a; intro a S; (try simp only [tq] at h))
      (revert S a; refine go00 3 ?_; intro a S)
      refine wpl_guard S rfl rfl rfl rfl rfl ?_ ?_
      · (clear S; intro h S; (try simp only [tq] at h))
        (revert S a; revert hZ Z; refine go10 10 ?_; intro a S)
        change ∃ m', _ ∧ _
        exact zzDeY0
      (intro h; clear S a; intro a S; (try simp only [tq] at h))
      (revert S a; revert hZ Z; refine go10 9 ?_; intro a S)
      change ∃ m', _ ∧ _
      exact zzDeY0
    (skip; (try simp only [tq] at h))
    (refine wp_exit ?_; conv => whnf)
    clear hZ Z
    (revert S a; revert hZ Z; refine go10 8 ?_; intro a S)
    refine wp_ret (fin_ret S (results2 Tryz.results59 (RV.tmp S rfl) (RV.tmp S rfl)) ?_)
    (rw [← hq1, ← hq2, Rose.drop_len (by omega)]; rw [show formL .nil = true from rfl, show fitsL .nil = true from rfl, Bool.and_true, Bool.and_true]))
   (revert S a; refine go00 11 ?_; intro a S)
   refine wpc_split S rfl (fun h => ?_) (fun h => ?_)
   · (skip; (try simp only [tq] at h))
     (revert S a; refine go00 5 ?_; intro a S)
     refine wpl_guard S rfl rfl rfl rfl rfl ?_ ?_
     · (clear S; intro h S; (try simp only [tq] at h))
       (revert S a; refine go00 7 ?_; intro a S)
       refine wpl_guard S rfl rfl rfl rfl rfl ?_ ?_
       · (clear S; intro h S; (try simp only [tq] at h))
         (revert S a; refine go00 7 ?_; intro a S)
         refine wpl_guard S rfl rfl rfl rfl rfl ?_ ?_
         · (clear S; intro h S; (try simp only [tq] at h))
           (revert S a; refine go00 10 ?_; intro a S)
           (refine hZ _ _ ?_)
           exact zzDeY1
         (intro h; clear S a; intro a S; (try simp only [tq] at h))
         (revert S a; refine go00 6 ?_; intro a S)
         (refine hZ _ _ ?_)
         exact zzDeY1
       (intro h; clear S a; intro a S; (try simp only [tq] at h))
       (revert S a; refine go00 11 ?_; intro a S)
       (refine hZ _ _ ?_)
       exact zzDeY1
     (intro h; clear S a; intro a S; (try simp only [tq] at h))
     (revert S a; refine go00 12 ?_; intro a S)
     refine wpl_guard S rfl rfl rfl rfl rfl ?_ ?_
     · (clear S; intro h S; (try simp only [tq] at h))
       (revert S a; refine go00 10 ?_; intro a S)
       (refine hZ _ _ ?_)
       exact zzDeY1
     (intro h; clear S a; intro a S; (try simp only [tq] at h))
     (revert S a; refine go00 6 ?_; intro a S)
     (refine hZ _ _ ?_)
     exact zzDeY1
   (skip; (try simp only [tq] at h))
   (revert S a; refine go00 5 ?_; intro a S)
   refine wpc_split S rfl (fun h => ?_) (fun h => ?_)
   · (skip; (try simp only [tq] at h))
     (revert S a; refine go00 5 ?_; intro a S)
     refine wpl_guard S rfl rfl rfl rfl rfl ?_ ?_
     · (clear S; intro h S; (try simp only [tq] at h))
       (revert S a; refine go00 10 ?_; intro a S)
       (refine hZ _ _ ?_)
       exact zzDeY1
     (intro h; clear S a; intro a S; (try simp only [tq] at h))
     (revert S a; refine go00 6 ?_; intro a S)
     (refine hZ _ _ ?_)
     exact zzDeY1
   (skip; (try simp only [tq] at h))
   (revert S a; refine go00 5 ?_; intro a S)
   refine wpc_split S rfl (fun h => ?_) (fun h => ?_)
   · (skip; (try simp only [tq] at h))
     (revert S a; refine go01 3 ?_; intro Z hZ a S)
     (refine wpl_call0 S rfl rfl rfl rfl rfl rfl (numberCt F vh.s hsb) rfl ?_; clear S a; intro v a w hv S; subst hv)
     (revert S a; revert hZ Z; refine go10 10 ?_; intro a S)
     refine wpl_guard S rfl rfl rfl rfl rfl ?_ ?_
     · (clear S; intro h S; (try simp only [tq] at h))
       (revert S a; refine go00 7 ?_; intro a S)
       refine wpl_guard S rfl rfl rfl rfl rfl ?_ ?_
       · (clear S; intro h S; (try simp only [tq] at h))
         (revert S a; refine go00 13 ?_; intro a S)
         (refine hZ _ _ ?_)
         exact zzDeY1
       (intro h; clear S a; intro a S; (try simp only [tq] at h))
       (revert S a; refine go00 9 ?_; intro a S)
       (refine hZ _ _ ?_)
       exact zzDeY1
     (intro h; clear S a; intro a S; (try simp only [tq] at h))
     (revert S a; refine go00 14 ?_; intro a S)
     (refine hZ _ _ ?_)
     exact zzDeY1
   (skip; (try simp only [tq] at h))
   (revert S a; refine go00 5 ?_; intro a S)
   refine wpc_split S rfl (fun h => ?_) (fun h => ?_)
   · (skip; (try simp only [tq] at h))
     (refine wpc_mixM [0, 1, 2, 3, 4, 5, 6, 7, 8, 9, 10, 11, 12] [1, 5, 10] [] (.one 0 (.one 1 (.one 2 (.one 3 (.one 4 (.one 5 (.one 6 (.one 7 (.one 8 (.one 9 (.one 10 (.one 11 (.one 12 (.one 13 (.one 14 .nil))))))))))))))) [b1] S mixed (by kernel_rfl) ?_; clear S; intro w S)
     (refine wpm_f S rfl rfl rfl (want_none _ rfl) rfl rfl ?_; clear S a; intro a S)
     (refine wpm_o b1 S rfl rfl rfl (want_none _ rfl) rfl rfl ?_; clear S a; intro a S)
     iterate 2 (refine wpm_p S rfl rfl rfl (want_none _ rfl) rfl rfl ?_; clear S a; intro a S)
     refine St.part (dj := 88) (want := true) S rfl ?_ ?_
     · (clear S; intro h S; (try simp only [tq] at h))
       (refine wpm_f S rfl rfl rfl (want_yes S rfl rfl rfl) rfl rfl ?_; clear S a; intro a S)
       (refine wpm_o b1 S rfl rfl rfl (want_yes S rfl rfl rfl) rfl rfl ?_; clear S a; intro a S)
       (refine wpm_n S rfl rfl rfl (want_yes S rfl rfl rfl) rfl rfl ?_; clear S a; intro a S)
       (refine wpm_p S rfl rfl rfl (want_yes S rfl rfl rfl) rfl rfl ?_; clear S a; intro a S)
       (refine wpm_p S rfl rfl rfl (want_none _ rfl) rfl rfl ?_; clear S a; intro a S)
       (refine wpm_f S rfl rfl rfl (want_none _ rfl) rfl rfl ?_; clear S a; intro a S)
       (refine wpm_o b1 S rfl rfl rfl (want_none _ rfl) rfl rfl ?_; clear S a; intro a S)
       (refine wpm_s S rfl rfl rfl (want_none _ rfl) rfl rfl ?_; clear S a; intro a S)
       (refine wpm_p S rfl rfl rfl (want_none _ rfl) rfl rfl ?_; clear S a; intro a S)
       refine wpm_eff rfl rfl (kwa S) ?_
       (revert S a; refine go00 2 ?_; intro a S)
       refine wpm_eff rfl rfl (kwa S) ?_
       (revert S a; refine go00 2 ?_; intro a S)
       refine wpm_nil (kwa S) ?_
       (refine hZ _ _ ?_)
       exact zzDeY1
     (clear S; intro h S; (try simp only [tq] at h))
     iterate 4 (refine wpm_skip S rfl rfl (want_no S rfl rfl rfl) rfl rfl ?_; clear S a; intro a S)
     (refine wpm_p S rfl rfl rfl (want_none _ rfl) rfl rfl ?_; clear S a; intro a S)
     (refine wpm_f S rfl rfl rfl (want_none _ rfl) rfl rfl ?_; clear S a; intro a S)
     (refine wpm_o b1 S rfl rfl rfl (want_none _ rfl) rfl rfl ?_; clear S a; intro a S)
     (refine wpm_s S rfl rfl rfl (want_none _ rfl) rfl rfl ?_; clear S a; intro a S)
     (refine wpm_p S rfl rfl rfl (want_none _ rfl) rfl rfl ?_; clear S a; intro a S)
     refine wpm_eff rfl rfl (kwa S) ?_
     (revert S a; refine go00 2 ?_; intro a S)
     refine wpm_eff rfl rfl (kwa S) ?_
     (revert S a; refine go00 2 ?_; intro a S)
     refine wpm_nil (kwa S) ?_
     (refine hZ _ _ ?_)
     exact zzDeY1
   (skip; (try simp only [tq] at h))
   (revert S a; refine go00 5 ?_; intro a S)
   refine wpc_split S rfl (fun h => ?_) (fun h => ?_)
   · (skip; (try simp only [tq] at h))
     (refine wpc_mixM [0, 1, 2, 3, 4, 5, 6, 7, 8, 9, 10, 11, 12, 13, 14, 15, 16, 17] [1, 5, 10, 15] [] (.one 0 (.one 1 (.one 2 (.one 3 (.one 4 (.one 5 (.one 6 (.one 7 (.one 8 (.one 9 (.one 10 (.one 11 (.one 12 (.one 13 (.one 14 (.one 15 (.one 16 (.one 17 (.one 18 (.one 19 .nil)))))))))))))))))))) [b1] S mixed (by kernel_rfl) ?_; clear S; intro w S)
     (refine wpm_f S rfl rfl rfl (want_none _ rfl) rfl rfl ?_; clear S a; intro a S)
     (refine wpm_o b1 S rfl rfl rfl (want_none _ rfl) rfl rfl ?_; clear S a; intro a S)
     iterate 2 (refine wpm_p S rfl rfl rfl (want_none _ rfl) rfl rfl ?_; clear S a; intro a S)
     refine St.part (dj := 103) (want := true) S rfl ?_ ?_
     · (clear S; intro h S; (try simp only [tq] at h))
       (refine wpm_f S rfl rfl rfl (want_yes S rfl rfl rfl) rfl rfl ?_; clear S a; intro a S)
       (refine wpm_o b1 S rfl rfl rfl (want_yes S rfl rfl rfl) rfl rfl ?_; clear S a; intro a S)
       (refine wpm_p S rfl rfl rfl (want_yes S rfl rfl rfl) rfl rfl ?_; clear S a; intro a S)
       iterate 2 (refine wpm_p S rfl rfl rfl (want_none _ rfl) rfl rfl ?_; clear S a; intro a S)
       refine St.part (dj := 108) (want := true) S rfl ?_ ?_
       · (clear S; intro h S; (try simp only [tq] at h))
         (refine wpm_f S rfl rfl rfl (want_yes S rfl rfl rfl) rfl rfl ?_; clear S a; intro a S)
         (refine wpm_o b1 S rfl rfl rfl (want_yes S rfl rfl rfl) rfl rfl ?_; clear S a; intro a S)
         (refine wpm_n S rfl rfl rfl (want_yes S rfl rfl rfl) rfl rfl ?_; clear S a; intro a S)
         (refine wpm_p S rfl rfl rfl (want_yes S rfl rfl rfl) rfl rfl ?_; clear S a; intro a S)
         (refine wpm_p S rfl rfl rfl (want_none _ rfl) rfl rfl ?_; clear S a; intro a S)
         (refine wpm_f S rfl rfl rfl (want_none _ rfl) rfl rfl ?_; clear S a; intro a S)
         (refine wpm_o b1 S rfl rfl rfl (want_none _ rfl) rfl rfl ?_; clear S a; intro a S)
         (refine wpm_n S rfl rfl rfl (want_none _ rfl) rfl rfl ?_; clear S a; intro a S)
         (refine wpm_p S rfl rfl rfl (want_none _ rfl) rfl rfl ?_; clear S a; intro a S)
         refine wpm_eff rfl rfl (kwa S) ?_
         (revert S a; refine go00 2 ?_; intro a S)
         refine wpm_eff rfl rfl (kwa S) ?_
         (revert S a; refine go00 2 ?_; intro a S)
         refine wpm_nil (kwa S) ?_
         (refine hZ _ _ ?_)
         exact zzDeY1
       (clear S; intro h S; (try simp only [tq] at h))
       iterate 4 (refine wpm_skip S rfl rfl (want_no S rfl rfl rfl) rfl rfl ?_; clear S a; intro a S)
       (refine wpm_p S rfl rfl rfl (want_none _ rfl) rfl rfl ?_; clear S a; intro a S)
       (refine wpm_f S rfl rfl rfl (want_none _ rfl) rfl rfl ?_; clear S a; intro a S)
       (refine wpm_o b1 S rfl rfl rfl (want_none _ rfl) rfl rfl ?_; clear S a; intro a S)
       (refine wpm_n S rfl rfl rfl (want_none _ rfl) rfl rfl ?_; clear S a; intro a S)
       (refine wpm_p S rfl rfl rfl (want_none _ rfl) rfl rfl ?_; clear S a; intro a S)
       refine wpm_eff rfl rfl (kwa S) ?_
       (revert S a; refine go00 2 ?_; intro a S)
       refine wpm_eff rfl rfl (kwa S) ?_
       (revert S a; refine go00 2 ?_; intro a S)
       refine wpm_nil (kwa S) ?_
       (refine hZ _ _ ?_)
       exact zzDeY1
     (clear S; intro h S; (try simp only [tq] at h))
     iterate 3 (refine wpm_skip S rfl rfl (want_no S rfl rfl rfl) rfl rfl ?_; clear S a; intro a S)
     iterate 2 (refine wpm_p S rfl rfl rfl (want_none _ rfl) rfl rfl ?_; clear S a; intro a S)
     iterate 4 (refine wpm_skip S rfl rfl (want_no S rfl rfl rfl) rfl rfl ?_; clear S a; intro a S)
     (refine wpm_p S rfl rfl rfl (want_none _ rfl) rfl rfl ?_; clear S a; intro a S)
     (refine wpm_f S rfl rfl rfl (want_none _ rfl) rfl rfl ?_; clear S a; intro a S)
     (refine wpm_o b1 S rfl rfl rfl (want_none _ rfl) rfl rfl ?_; clear S a; intro a S)
     (refine wpm_n S rfl rfl rfl (want_none _ rfl) rfl rfl ?_; clear S a; intro a S)
     (refine wpm_p S rfl rfl rfl (want_none _ rfl) rfl rfl ?_; clear S a; intro a S)
     refine wpm_eff rfl rfl (kwa S) ?_
     (revert S a; refine go00 2 ?_; intro a S)
     refine wpm_eff rfl rfl (kwa S) ?_
     (revert S a; refine go00 2 ?_; intro a S)
     refine wpm_nil (kwa S) ?_
     (refine hZ _ _ ?_)
     exact zzDeY1
   (skip; (try simp only [tq] at h))
   (revert S a; refine go00 5 ?_; intro a S)
   refine wpc_split S rfl (fun h => ?_) (fun h => ?_)
   · (skip; (try simp only [tq] at h))
     (revert S a; refine go01 3 ?_; intro Z hZ a S)
     (refine wpl_call0 S rfl rfl rfl rfl rfl rfl (cutCt F vh.s hsb) rfl ?_; clear S a; intro v a w hv S; subst hv)
     (revert S a; revert hZ Z; refine go10 9 ?_; intro a S)
     (refine wpc_mixM [0, 1, 2, 3, 4, 6, 7, 8, 9, 10, 12, 13, 14, 15, 16, 17, 18, 19, 20, 21, 22, 23, 24, 25, 26, 27, 28, 29, 30, 31] [1, 18, 23, 29] [] (.one 0 (.one 1 (.one 2 (.one 3 (.one 4 (.one 28 (.one 29 (.one 30 (.one 31 (.one 5 (.one 6 (.one 7 (.one 8 (.one 9 (.one 10 (.one 11 (.one 12 (.one 13 (.one 14 (.one 15 (.one 16 (.one 17 (.one 18 (.one 19 (.one 20 (.one 21 (.one 22 (.one 23 (.one 24 (.one 25 (.one 26 (.one 27 (.one 32 (.one 33 .nil)))))))))))))))))))))))))))))))))) [b1] S mixed (by kernel_rfl) ?_; clear S; intro w S)
     (refine wpm_f S rfl rfl rfl (want_none _ rfl) rfl rfl ?_; clear S a; intro a S)
     (refine wpm_o b1 S rfl rfl rfl (want_none _ rfl) rfl rfl ?_; clear S a; intro a S)
     iterate 2 (refine wpm_p S rfl rfl rfl (want_none _ rfl) rfl rfl ?_; clear S a; intro a S)
     refine St.part (dj := 130) (want := true) S rfl ?_ ?_
     · (clear S; intro h S; (try simp only [tq] at h))
       (refine wpm_p S rfl rfl rfl (want_yes S rfl rfl rfl) rfl rfl ?_; clear S a; intro a S)
       (refine wpm_f S rfl rfl rfl (want_none _ rfl) rfl rfl ?_; clear S a; intro a S)
       (refine wpm_o b1 S rfl rfl rfl (want_none _ rfl) rfl rfl ?_; clear S a; intro a S)
       (refine wpm_n S rfl rfl rfl (want_none _ rfl) rfl rfl ?_; clear S a; intro a S)
       (refine wpm_p S rfl rfl rfl (want_none _ rfl) rfl rfl ?_; clear S a; intro a S)
       refine wpm_eff rfl rfl (kwa S) ?_
       refine wpl_take S rfl rfl rfl ?_
       (refine wpl_call0 S rfl rfl rfl rfl rfl rfl (nameCt F (cutA vh.s)) rfl ?_; clear S a; intro v a w hv S; subst hv)
       refine wpList_nil ?_
       iterate 2 (refine wpm_p S rfl rfl rfl (want_none _ rfl) rfl rfl ?_; clear S a; intro a S)
       refine St.part (dj := 134) (want := true) S rfl ?_ ?_
       · (clear S; intro h S; (try simp only [tq] at h))
         iterate 2 (refine wpm_p S rfl rfl rfl (want_yes S rfl rfl rfl) rfl rfl ?_; clear S a; intro a S)
         refine St.part (dj := 136) (want := true) S rfl ?_ ?_
         · (clear S; intro h S; (try simp only [tq] at h))
           (refine wpm_p S rfl rfl rfl (want_yes S rfl rfl rfl) rfl rfl ?_; clear S a; intro a S)
           refine wpm_eff rfl rfl (kwa S) ?_
           refine wpl_take S rfl rfl rfl ?_
           (refine wpl_call0 S rfl rfl rfl rfl rfl rfl (nameCt F (cutB vh.s)) rfl ?_; clear S a; intro v a w hv S; subst hv)
           refine wpList_nil ?_
           iterate 2 (refine wpm_p S rfl rfl rfl (want_yes S rfl rfl rfl) rfl rfl ?_; clear S a; intro a S)
           refine St.part (dj := 140) (want := false) S rfl ?_ ?_
           · (clear S; intro h S; (try simp only [tq] at h))
             iterate 3 (refine wpm_p S rfl rfl rfl (want_yes S rfl rfl rfl) rfl rfl ?_; clear S a; intro a S)
             refine St.part (dj := 143) (want := true) S rfl ?_ ?_
             · (clear S; intro h S; (try simp only [tq] at h))
               (refine wpm_f S rfl rfl rfl (want_yes S rfl rfl rfl) rfl rfl ?_; clear S a; intro a S)
               (refine wpm_o b1 S rfl rfl rfl (want_yes S rfl rfl rfl) rfl rfl ?_; clear S a; intro a S)
               iterate 3 (refine wpm_p S rfl rfl rfl (want_yes S rfl rfl rfl) rfl rfl ?_; clear S a; intro a S)
               refine St.part (dj := 148) (want := true) S rfl ?_ ?_
               · (clear S; intro h S; (try simp only [tq] at h))
                 (refine wpm_f S rfl rfl rfl (want_yes S rfl rfl rfl) rfl rfl ?_; clear S a; intro a S)
                 (refine wpm_o b1 S rfl rfl rfl (want_yes S rfl rfl rfl) rfl rfl ?_; clear S a; intro a S)
                 iterate 3 (refine wpm_p S rfl rfl rfl (want_yes S rfl rfl rfl) rfl rfl ?_; clear S a; intro a S)
                 (refine wpm_p S rfl rfl rfl (want_none _ rfl) rfl rfl ?_; clear S a; intro a S)
                 refine wpm_eff rfl rfl (kwa S) ?_
                 (revert S a; refine go00 2 ?_; intro a S)
                 refine wpm_eff rfl rfl (kwa S) ?_
                 (revert S a; refine go00 2 ?_; intro a S)
                 refine wpm_nil (kwa S) ?_
                 (refine hZ _ _ ?_)
                 exact zzDeY1
               (clear S; intro h S; (try simp only [tq] at h))
               iterate 3 (refine wpm_skip S rfl rfl (want_no S rfl rfl rfl) rfl rfl ?_; clear S a; intro a S)
               iterate 2 (refine wpm_p S rfl rfl rfl (want_yes S rfl rfl rfl) rfl rfl ?_; clear S a; intro a S)
               (refine wpm_p S rfl rfl rfl (want_none _ rfl) rfl rfl ?_; clear S a; intro a S)
               refine wpm_eff rfl rfl (kwa S) ?_
               (revert S a; refine go00 2 ?_; intro a S)
               refine wpm_eff rfl rfl (kwa S) ?_
               (revert S a; refine go00 2 ?_; intro a S)
               refine wpm_nil (kwa S) ?_
               (refine hZ _ _ ?_)
               exact zzDeY1
             (clear S; intro h S; (try simp only [tq] at h))
             iterate 3 (refine wpm_skip S rfl rfl (want_no S rfl rfl rfl) rfl rfl ?_; clear S a; intro a S)
             iterate 2 (refine wpm_p S rfl rfl rfl (want_yes S rfl rfl rfl) rfl rfl ?_; clear S a; intro a S)
             iterate 3 (refine wpm_skip S rfl rfl (want_no S rfl rfl rfl) rfl rfl ?_; clear S a; intro a S)
             iterate 2 (refine wpm_p S rfl rfl rfl (want_yes S rfl rfl rfl) rfl rfl ?_; clear S a; intro a S)
             (refine wpm_p S rfl rfl rfl (want_none _ rfl) rfl rfl ?_; clear S a; intro a S)
             refine wpm_eff rfl rfl (kwa S) ?_
             (revert S a; refine go00 2 ?_; intro a S)
             refine wpm_eff rfl rfl (kwa S) ?_
             (revert S a; refine go00 2 ?_; intro a S)
             refine wpm_nil (kwa S) ?_
             (refine hZ _ _ ?_)
             exact zzDeY1
           (clear S; intro h S; (try simp only [tq] at h))
           iterate 3 (refine wpm_skip S rfl rfl (want_no S rfl rfl rfl) rfl rfl ?_; clear S a; intro a S)
           iterate 3 (refine wpm_skip S rfl rfl (want_undef S rfl rfl rfl) rfl rfl ?_; clear S a; intro a S)
           iterate 2 (refine wpm_skip S rfl rfl (want_no S rfl rfl rfl) rfl rfl ?_; clear S a; intro a S)
           iterate 3 (refine wpm_skip S rfl rfl (want_undef S rfl rfl rfl) rfl rfl ?_; clear S a; intro a S)
           (refine wpm_skip S rfl rfl (want_no S rfl rfl rfl) rfl rfl ?_; clear S a; intro a S)
           (refine wpm_p S rfl rfl rfl (want_yes S rfl rfl rfl) rfl rfl ?_; clear S a; intro a S)
           (refine wpm_p S rfl rfl rfl (want_none _ rfl) rfl rfl ?_; clear S a; intro a S)
           refine wpm_eff rfl rfl (kwa S) ?_
           (revert S a; refine go00 2 ?_; intro a S)
           refine wpm_eff rfl rfl (kwa S) ?_
           (revert S a; refine go00 2 ?_; intro a S)
           refine wpm_nil (kwa S) ?_
           (refine hZ _ _ ?_)
           exact zzDeY1
         (clear S; intro h S; (try simp only [tq] at h))
         (refine wpm_skip S rfl rfl (want_no S rfl rfl rfl) rfl rfl ?_; clear S a; intro a S)
         (refine wpm_skipE S rfl rfl (want_no S rfl rfl rfl) (kwa S) rfl rfl ?_; clear S a; intro a S)
         iterate 5 (refine wpm_p S rfl rfl rfl (want_yes S rfl rfl rfl) rfl rfl ?_; clear S a; intro a S)
         refine St.part (dj := 143) (want := true) S rfl ?_ ?_
         · (clear S; intro h S; (try simp only [tq] at h))
           (refine wpm_f S rfl rfl rfl (want_yes S rfl rfl rfl) rfl rfl ?_; clear S a; intro a S)
           (refine wpm_o b1 S rfl rfl rfl (want_yes S rfl rfl rfl) rfl rfl ?_; clear S a; intro a S)
           iterate 3 (refine wpm_p S rfl rfl rfl (want_yes S rfl rfl rfl) rfl rfl ?_; clear S a; intro a S)
           refine St.part (dj := 148) (want := true) S rfl ?_ ?_
           · (clear S; intro h S; (try simp only [tq] at h))
             (refine wpm_f S rfl rfl rfl (want_yes S rfl rfl rfl) rfl rfl ?_; clear S a; intro a S)
             (refine wpm_o b1 S rfl rfl rfl (want_yes S rfl rfl rfl) rfl rfl ?_; clear S a; intro a S)
             iterate 3 (refine wpm_p S rfl rfl rfl (want_yes S rfl rfl rfl) rfl rfl ?_; clear S a; intro a S)
             (refine wpm_p S rfl rfl rfl (want_none _ rfl) rfl rfl ?_; clear S a; intro a S)
             refine wpm_eff rfl rfl (kwa S) ?_
             (revert S a; refine go00 2 ?_; intro a S)
             refine wpm_eff rfl rfl (kwa S) ?_
             (revert S a; refine go00 2 ?_; intro a S)
             refine wpm_nil (kwa S) ?_
             (refine hZ _ _ ?_)
             exact zzDeY1
           (clear S; intro h S; (try simp only [tq] at h))
           iterate 3 (refine wpm_skip S rfl rfl (want_no S rfl rfl rfl) rfl rfl ?_; clear S a; intro a S)
           iterate 2 (refine wpm_p S rfl rfl rfl (want_yes S rfl rfl rfl) rfl rfl ?_; clear S a; intro a S)
           (refine wpm_p S rfl rfl rfl (want_none _ rfl) rfl rfl ?_; clear S a; intro a S)
           refine wpm_eff rfl rfl (kwa S) ?_
           (revert S a; refine go00 2 ?_; intro a S)
           refine wpm_eff rfl rfl (kwa S) ?_
           (revert S a; refine go00 2 ?_; intro a S)
           refine wpm_nil (kwa S) ?_
           (refine hZ _ _ ?_)
           exact zzDeY1
         (clear S; intro h S; (try simp only [tq] at h))
         iterate 3 (refine wpm_skip S rfl rfl (want_no S rfl rfl rfl) rfl rfl ?_; clear S a; intro a S)
         iterate 2 (refine wpm_p S rfl rfl rfl (want_yes S rfl rfl rfl) rfl rfl ?_; clear S a; intro a S)
         iterate 3 (refine wpm_skip S rfl rfl (want_no S rfl rfl rfl) rfl rfl ?_; clear S a; intro a S)
         iterate 2 (refine wpm_p S rfl rfl rfl (want_yes S rfl rfl rfl) rfl rfl ?_; clear S a; intro a S)
         (refine wpm_p S rfl rfl rfl (want_none _ rfl) rfl rfl ?_; clear S a; intro a S)
         refine wpm_eff rfl rfl (kwa S) ?_
         (revert S a; refine go00 2 ?_; intro a S)
         refine wpm_eff rfl rfl (kwa S) ?_
         (revert S a; refine go00 2 ?_; intro a S)
         refine wpm_nil (kwa S) ?_
         (refine hZ _ _ ?_)
         exact zzDeY1
       (clear S; intro h S; (try simp only [tq] at h))
       iterate 2 (refine wpm_skip S rfl rfl (want_no S rfl rfl rfl) rfl rfl ?_; clear S a; intro a S)
       (refine wpm_skip S rfl rfl (want_undef S rfl rfl rfl) rfl rfl ?_; clear S a; intro a S)
       (refine wpm_skipE S rfl rfl (want_undef S rfl rfl rfl) (kwa S) rfl rfl ?_; clear S a; intro a S)
       iterate 2 (refine wpm_skip S rfl rfl (want_no S rfl rfl rfl) rfl rfl ?_; clear S a; intro a S)
       iterate 12 (refine wpm_skip S rfl rfl (want_undef S rfl rfl rfl) rfl rfl ?_; clear S a; intro a S)
       (refine wpm_skip S rfl rfl (want_no S rfl rfl rfl) rfl rfl ?_; clear S a; intro a S)
       (refine wpm_p S rfl rfl rfl (want_none _ rfl) rfl rfl ?_; clear S a; intro a S)
       refine wpm_eff rfl rfl (kwa S) ?_
       (revert S a; refine go00 2 ?_; intro a S)
       refine wpm_eff rfl rfl (kwa S) ?_
       (revert S a; refine go00 2 ?_; intro a S)
       refine wpm_nil (kwa S) ?_
       (refine hZ _ _ ?_)
       exact zzDeY1
     (clear S; intro h S; (try simp only [tq] at h))
     (refine wpm_skip S rfl rfl (want_no S rfl rfl rfl) rfl rfl ?_; clear S a; intro a S)
     (refine wpm_f S rfl rfl rfl (want_none _ rfl) rfl rfl ?_; clear S a; intro a S)
     (refine wpm_o b1 S rfl rfl rfl (want_none _ rfl) rfl rfl ?_; clear S a; intro a S)
     (refine wpm_n S rfl rfl rfl (want_none _ rfl) rfl rfl ?_; clear S a; intro a S)
     (refine wpm_p S rfl rfl rfl (want_none _ rfl) rfl rfl ?_; clear S a; intro a S)
     (refine wpm_skipE S rfl rfl (want_no S rfl rfl rfl) (kwa S) rfl rfl ?_; clear S a; intro a S)
     iterate 2 (refine wpm_p S rfl rfl rfl (want_none _ rfl) rfl rfl ?_; clear S a; intro a S)
     iterate 2 (refine wpm_skip S rfl rfl (want_no S rfl rfl rfl) rfl rfl ?_; clear S a; intro a S)
     (refine wpm_skip S rfl rfl (want_undef S rfl rfl rfl) rfl rfl ?_; clear S a; intro a S)
     (refine wpm_skipE S rfl rfl (want_undef S rfl rfl rfl) (kwa S) rfl rfl ?_; clear S a; intro a S)
     iterate 2 (refine wpm_skip S rfl rfl (want_no S rfl rfl rfl) rfl rfl ?_; clear S a; intro a S)
     iterate 12 (refine wpm_skip S rfl rfl (want_undef S rfl rfl rfl) rfl rfl ?_; clear S a; intro a S)
     (refine wpm_skip S rfl rfl (want_no S rfl rfl rfl) rfl rfl ?_; clear S a; intro a S)
     (refine wpm_p S rfl rfl rfl (want_none _ rfl) rfl rfl ?_; clear S a; intro a S)
     refine wpm_eff rfl rfl (kwa S) ?_
     (revert S a; refine go00 2 ?_; intro a S)
     refine wpm_eff rfl rfl (kwa S) ?_
     (revert S a; refine go00 2 ?_; intro a S)
     refine wpm_nil (kwa S) ?_
     (refine hZ _ _ ?_)
     exact zzDeY1
   (skip; (try simp only [tq] at h))
   (revert S a; refine go00 3 ?_; intro a S)
   (refine hZ _ _ ?_)
   (apply Exists.intro; apply Exists.intro; refine ⟨?_, ?_, ?_⟩; rotate_left 2; (refine S.keep ?_; repeat (first | exact trivial | refine ⟨rfl, ?_⟩)); (clear S hZ Z ih; first | (exact absurd ((by assumption : cutC vh.s = true).symm.trans (by assumption : cutC vh.s = false)) (by decide)) | (unfold formH; first | (rw [if_neg (by omega), if_neg (by omega), if_neg (by omega), if_neg (by omega), if_neg (by omega), if_pos (by omega), (by assumption : cutC vh.s = false), decide_eq_false (fun h9 : vh.s ≠ sTrue ∧ vh.s ≠ sFalse => h9.1 (by assumption))]; simp) | (rw [if_pos (by omega)] <;> (rw [Bool.eq_iff_iff]; simp [*, sTrue, sFalse] <;> omega)) | (rw [if_neg (by omega), if_pos (by omega)] <;> (rw [Bool.eq_iff_iff]; simp [*, sTrue, sFalse] <;> omega)) | (rw [if_neg (by omega), if_neg (by omega), if_pos (by omega)] <;> (rw [Bool.eq_iff_iff]; simp [*, sTrue, sFalse] <;> omega)) | (rw [if_neg (by omega), if_neg (by omega), if_neg (by omega), if_pos (by omega)] <;> (rw [Bool.eq_iff_iff]; simp [*, sTrue, sFalse] <;> omega)) | (rw [if_neg (by omega), if_neg (by omega), if_neg (by omega), if_neg (by omega), if_pos (by omega)] <;> (rw [Bool.eq_iff_iff]; simp [*, sTrue, sFalse] <;> omega)) | (rw [if_neg (by omega), if_neg (by omega), if_neg (by omega), if_neg (by omega), if_neg (by omega), if_pos (by omega)] <;> (rw [Bool.eq_iff_iff]; simp [*, sTrue, sFalse] <;> omega)) | (rw [if_neg (by omega), if_neg (by omega), if_neg (by omega), if_neg (by omega), if_neg (by omega), if_neg (by omega)]) | (rw [if_neg (by omega), if_neg (by omega), if_neg (by omega), if_neg (by omega)]) | done)); (clear S hZ Z ih; first | (exact absurd ((by assumption : cutC vh.s = true).symm.trans (by assumption : cutC vh.s = false)) (by decide)) | (unfold fitsH; first | (rw [if_pos (by omega)] <;> (rw [Bool.eq_iff_iff]; simp [*, sTrue, sFalse] <;> omega)) | (rw [if_neg (by omega), if_pos (by omega)] <;> (rw [Bool.eq_iff_iff]; simp [*, sTrue, sFalse] <;> omega)) | (rw [if_neg (by omega), if_neg (by omega), if_pos (by omega)] <;> (rw [Bool.eq_iff_iff]; simp [*, sTrue, sFalse] <;> omega)) | (rw [if_neg (by omega), if_neg (by omega), if_neg (by omega), if_pos (by omega)] <;> (rw [Bool.eq_iff_iff]; simp [*, sTrue, sFalse] <;> omega)) | (rw [if_neg (by omega), if_neg (by omega), if_neg (by omega), if_neg (by omega), if_pos (by omega)] <;> (rw [Bool.eq_iff_iff]; simp [*, sTrue, sFalse] <;> omega)) | (rw [if_neg (by omega), if_neg (by omega), if_neg (by omega), if_neg (by omega), if_neg (by omega), if_pos (by omega)] <;> (rw [Bool.eq_iff_iff]; simp [*, sTrue, sFalse] <;> omega)) | (rw [if_neg (by omega), if_neg (by omega), if_neg (by omega), if_neg (by omega), if_neg (by omega), if_neg (by omega)]) | (rw [if_neg (by omega), if_neg (by omega), if_neg (by omega), if_neg (by omega)]) | done))))
  (revert S a; refine go00 5 ?_; intro a S)
  refine wpl_guard S rfl rfl rfl rfl rfl ?_ ?_
  · (clear S; intro h S; (try simp only [tq] at h))
    (revert S a; refine go00 7 ?_; intro a S)
    refine wpl_guard S rfl rfl rfl rfl rfl ?_ ?_
    · (clear S; intro h S; (try simp only [tq] at h))
      (revert S a; refine go00 11 ?_; intro a S)
      (refine hZ _ _ ?_)
      (apply Exists.intro; (refine S.keep ?_; repeat (first | exact trivial | refine ⟨rfl, ?_⟩)))
    (intro h; clear S a; intro a S; (try simp only [tq] at h))
    (revert S a; refine go00 7 ?_; intro a S)
    (refine hZ _ _ ?_)
    (apply Exists.intro; (refine S.keep ?_; repeat (first | exact trivial | refine ⟨rfl, ?_⟩)))
  (intro h; clear S a; intro a S; (try simp only [tq] at h))
  (revert S a; refine go00 12 ?_; intro a S)
  (refine hZ _ _ ?_)
  (apply Exists.intro; (refine S.keep ?_; repeat (first | exact trivial | refine ⟨rfl, ?_⟩)))
end Go.Proofs.YtigblodhdfnleaaGreatDoor
namespace Go.Proofs.YtigblodhdfnleaaGreatDoor
open Go Go.Wk Go.Un Go.De
set_option linter.unusedSimpArgs false
set_option linter.unusedVariables false
attribute [local irreducible] Go.wpList Go.Code.wp Go.wpStill Go.Wk.wpPre Go.bodyPost Go.Calls Go.Wk.Ct Go.Wk.OwnS
attribute [local irreducible] Go.Wk.wpG Go.Wk.wpM

theorem zzDck0 {p : Prop} (h : p := by (congr 1; unfold checkV; first | (rw [if_pos (by omega)]; done) | (rw [if_neg (by omega), if_pos (by assumption)]; done) | (rw [if_neg (by omega), if_neg (by rw [(by assumption : (formH vh L.len && formL L) = true)]; decide), if_pos (by assumption)]; done) | (rw [if_neg (by omega), if_neg (by rw [(by assumption : (formH vh L.len && formL L) = true)]; decide), if_neg (by rw [(by assumption : (fitsH vh L.len && fitsL L) = true)]; decide)]; done) | trace_state)) : p := h
theorem checkVCt (F : Heap) (vh : VH) (L : Vf) (cs : List Value) (hb : L.size ≤ 1000000000) (hV : VaC F cs vh L) : Ct Tryz.prog 24 [.agg ⟨cs⟩] F [] (fun _ _ u => u = .int .i64 (checkV vh L)) := by
  have hV0 := hV
  obtain ⟨v, rfl, ⟨ao, cap, rfl, hcap, hpos⟩, hsb⟩ := hV
  refine Ct.enter Tryz.func24 rfl Tryz.ntmps24 rfl fun w0 a S => ?_
  refine wp_sr fun Z hZ => ?_
  (refine wpl_box S rfl rfl rfl rfl rfl ?_; clear S a; intro b1 a w S)
  (revert S a; revert hZ Z; refine go12 6 ?_; intro Z hZ Z hZ a S)
  (refine wpl_call0 S rfl rfl rfl rfl rfl rfl (depVCt F L.size vh L _ 65 (Nat.le_refl _) hb (by omega) (by omega) hV0) rfl ?_; clear S a; intro v a w hv S; subst hv)
  (revert S a; revert hZ Z; refine go10 3 ?_; intro a S)
  refine wpc_split S rfl (fun h => ?_) (fun h => ?_)
  · (skip; (try simp only [tq] at h))
    (revert S a; refine go00 4 ?_; intro a S)
    refine wp_ret (fin_ret S (results1 Tryz.results24 (RV.tmp S rfl)) ?_)
    exact zzDck0
  (skip; (try simp only [tq] at h))
  (revert S a; revert hZ Z; refine go12 5 ?_; intro Z hZ Z hZ a S)
  (refine wpl_call0 S rfl rfl rfl rfl rfl rfl (lookCt F L.size vh L _ (Nat.le_refl _) hV0) rfl ?_; clear S a; intro v a w hv S; subst hv)
  (revert S a; revert hZ Z; refine go10 14 ?_; intro a S)
  refine wpc_split S rfl (fun h => ?_) (fun h => ?_)
  · (skip; (try simp only [tq] at h))
    (revert S a; refine go00 4 ?_; intro a S)
    refine wp_ret (fin_ret S (results1 Tryz.results24 (RV.tmp S rfl)) ?_)
    exact zzDck0
  (skip; (try simp only [tq] at h))
  (revert S a; refine go00 6 ?_; intro a S)
  refine wpc_split S rfl (fun h => ?_) (fun h => ?_)
  · (skip; (try simp only [tq] at h))
    (revert S a; refine go00 4 ?_; intro a S)
    refine wp_ret (fin_ret S (results1 Tryz.results24 (RV.tmp S rfl)) ?_)
    exact zzDck0
  (skip; (try simp only [tq] at h))
  (revert S a; revert hZ Z; refine go10 6 ?_; intro a S)
  refine wp_ret (fin_ret S (results1 Tryz.results24 (RV.tmp S rfl)) ?_)
  exact zzDck0
end Go.Proofs.YtigblodhdfnleaaGreatDoor
namespace Go.Num
open Go
set_option linter.unusedSimpArgs false
set_option linter.unusedVariables false
/-- What is left behind the digits from j on. -/
def remJ (b A C j : Nat) : Nat := A / b ^ j % C
theorem top_split (b A j : Nat) : A / b ^ j = b * (A / b ^ (j + 1)) + dig b A j := by
  rw [Nat.pow_succ, ← Nat.div_div_eq_div_mul]; exact (Nat.div_add_mod _ _).symm
theorem rem_step {b A C j : Nat} : remJ b A C j = (remJ b A C (j + 1) * b + dig b A j) % C := by
  unfold remJ
  rw [top_split b A j, Nat.add_mod, Nat.mul_mod, Nat.add_mod (A / b ^ (j + 1) % C * b), Nat.mul_mod (A / b ^ (j + 1) % C), Nat.mod_mod, Nat.mul_comm (b % C)]
theorem dig_div {b A C j : Nat} (hb : 2 ≤ b) (hC : 0 < C) : dig b (A / C) j = (remJ b A C (j + 1) * b + dig b A j) / C := by
  have ha := dig_lt hb A j
  have hr : remJ b A C (j + 1) < C := Nat.mod_lt _ hC
  have hlt : (remJ b A C (j + 1) * b + dig b A j) / C < b := by
    rw [Nat.div_lt_iff_lt_mul hC]
    have h1 : (remJ b A C (j + 1) + 1) * b ≤ C * b := Nat.mul_le_mul_right _ hr
    rw [Nat.add_mul, Nat.one_mul] at h1
    rw [Nat.mul_comm b C]; omega
  have e : A / C / b ^ j = A / b ^ j / C := by rw [Nat.div_div_eq_div_mul, Nat.mul_comm, ← Nat.div_div_eq_div_mul]
  unfold dig at *
  rw [e]
  have h2 : A / b ^ j = C * (A / b ^ (j + 1) / C * b) + (remJ b A C (j + 1) * b + A / b ^ j % b) := by
    have h3 := top_split b A j
    have h4 := Nat.div_add_mod (A / b ^ (j + 1)) C
    unfold dig at h3
    unfold remJ
    conv => lhs; rw [h3]
    conv => lhs; arg 1; rw [← h4]
    rw [Nat.mul_add, Nat.add_assoc, Nat.mul_comm b (A / b ^ (j + 1) % C)]
    congr 1
    simp only [Nat.mul_comm, Nat.mul_left_comm, Nat.mul_assoc]
  conv => lhs; rw [h2]
  rw [Nat.mul_add_div hC, Nat.add_comm, Nat.add_mul_mod_self_right, Nat.mod_eq_of_lt hlt]
theorem rem_top {b A C k : Nat} (h : A < b ^ k) : remJ b A C k = 0 := by unfold remJ; rw [Nat.div_eq_of_lt h, Nat.zero_mod]
theorem rem_zero (b A C : Nat) : remJ b A C 0 = A % C := by unfold remJ; rw [Nat.pow_zero, Nat.div_one]
end Go.Num
namespace Go.Proofs.YtigblodhdfnleaaGreatDoor
open Go Go.Wk Go.Num
set_option linter.unusedSimpArgs false
set_option linter.unusedVariables false
attribute [local irreducible] Go.wpList Go.Code.wp Go.wpStill Go.Wk.wpPre Go.bodyPost Go.Calls Go.Wk.Ct Go.Wk.OwnS

/-- The table of powers of ten lies in memory that does not turn. -/
def TabF (F : Heap) : Prop := ∀ w : World, (∀ b o, F b = some o → w.heap[b]? = some o) → Lib.TabIs Tryz.prog w "internal/strconv.uint64pow10" .u64 Lib.pow10Tab
theorem TabF.mono {F F' : Heap} (h : TabF F) (hF : ∀ b o, F b = some o → F' b = some o) : TabF F' := fun w hw => h w fun b o hb => hw b o (hF b o hb)
theorem formatCt (n : Nat) (F : Heap) (hn : n ≤ 9223372036854775807) (hT : TabF F) : Ct Tryz.prog 96 [.int .i64 (n : Int), .int .i64 10] F [] (fun _ _ u => u = .string (bs (Lib.decDigits n))) := by
  refine ct_of_below fun w hw => ?_
  refine (Tryz.strconv_FormatInt_10 n (by omega) (by omega) w (hT w hw.frz)).mono fun e w' ⟨h1, k, os, h2⟩ => ⟨?_, ?_⟩
  · rw [h1, Lib.itoa_nonneg]; rfl
  · rw [h2]; exact Lib.below_grow _ w (Nat.le_refl _) k os
theorem repeatCt (c : UInt8) (k : Nat) (F : Heap) (hk : k ≤ 1000000000) : Ct Tryz.prog 97 [.string (bs [c]), .int .i64 (k : Int)] F [] (fun _ _ u => u = .string (bs (List.replicate k c))) := by
  refine ct_of_below fun w hw => ?_
  have he : ∀ k, Lib.repeatL [c] k = List.replicate k c := fun k => by
    induction k with
    | zero => rfl
    | succ k ih => rw [Lib.repeatL, ih]; rfl
  refine (Tryz.strings_Repeat (bs [c]) k w (by omega) (by rw [bs_size]; simp; omega)).mono fun e w' ⟨h1, h2⟩ => ⟨?_, h2⟩
  rw [h1, show (bs [c]).data.toList = [c] from rfl, he]; rfl

/-! ### numerals -/
theorem dd_small {u : Nat} (h : u < 10) : Lib.decDigits u = [UInt8.ofNat (48 + u)] := by rw [Lib.decDigits, dif_pos h]
theorem dd_big {u : Nat} (h : ¬ u < 10) : Lib.decDigits u = Lib.decDigits (u / 10) ++ [UInt8.ofNat (48 + u % 10)] := by rw [Lib.decDigits, dif_neg h]
theorem dd_isD (u : Nat) : (Lib.decDigits u).all isD = true := by
  induction u using Nat.strongRecOn with
  | _ u ih =>
    have hd : ∀ x, x < 10 → isD (UInt8.ofNat (48 + x)) = true := fun x hx => by
      unfold isD; rw [UInt8.toNat_ofNat', Nat.mod_eq_of_lt (by omega)]; simp; omega
    by_cases h : u < 10
    · rw [dd_small h, List.all_cons, hd u h]; rfl
    · rw [dd_big h, List.all_append, ih (u / 10) (by omega), List.all_cons, hd _ (Nat.mod_lt u (by decide))]; rfl
theorem dd_val (u : Nat) : decV (Lib.decDigits u) = u := by
  induction u using Nat.strongRecOn with
  | _ u ih =>
    have hd : ∀ x, x < 10 → dv (UInt8.ofNat (48 + x)) = x := fun x hx => by
      unfold dv; rw [UInt8.toNat_ofNat', Nat.mod_eq_of_lt (by omega)]; omega
    by_cases h : u < 10
    · rw [dd_small h]; show 10 * 0 + dv (UInt8.ofNat (48 + u)) = u; rw [hd u h]; omega
    · rw [dd_big h, decV_snoc, ih (u / 10) (by omega), hd _ (Nat.mod_lt u (by decide))]; omega
theorem dd_ne (u : Nat) : Lib.decDigits u ≠ [] := by
  by_cases h : u < 10
  · rw [dd_small h]; simp
  · rw [dd_big h]; simp
theorem dd_pos (u : Nat) : 0 < (Lib.decDigits u).length := List.length_pos_iff.2 (dd_ne u)
/-- A numeral continued by a block of digits. -/
theorem dd_cat (m : Nat) : ∀ (H lo : Nat), 0 < H → lo < 10 ^ m → (Lib.decDigits lo).length ≤ m ∨ m = 0 → Lib.decDigits (H * 10 ^ m + lo) = Lib.decDigits H ++ (if m = 0 then [] else List.replicate (m - (Lib.decDigits lo).length) 48 ++ Lib.decDigits lo) := by
  induction m with
  | zero => intro H lo _ hl _; simp only [Nat.pow_zero] at hl; rw [show lo = 0 by omega]; simp
  | succ m ih =>
    intro H lo hH hl hlen
    have hpw : 10 ^ (m + 1) = 10 ^ m * 10 := Nat.pow_succ ..
    have hp : 0 < 10 ^ m := Nat.pow_pos (by decide)
    have hge : 1 * 10 ^ m ≤ H * 10 ^ m := Nat.mul_le_mul_right _ hH
    have e1 : H * 10 ^ (m + 1) + lo = (H * 10 ^ m + lo / 10) * 10 + lo % 10 := by rw [hpw, ← Nat.mul_assoc, Nat.add_mul]; omega
    have hb : ¬ (H * 10 ^ (m + 1) + lo < 10) := by rw [e1]; omega
    rw [dd_big hb]
    have e2 : (H * 10 ^ (m + 1) + lo) / 10 = H * 10 ^ m + lo / 10 := by rw [e1]; omega
    have e3 : (H * 10 ^ (m + 1) + lo) % 10 = lo % 10 := by rw [e1]; omega
    rw [e2, e3, if_neg (by omega)]
    by_cases hlo : lo < 10
    · -- one digit, and noughts ahead
      have hz : ∀ k : Nat, Lib.decDigits (H * 10 ^ k) = Lib.decDigits H ++ List.replicate k 48 := fun k => by
        induction k with
        | zero => simp
        | succ k ihk =>
          have hpk : 0 < 10 ^ k := Nat.pow_pos (by decide)
          have hgk : 1 * 10 ^ k ≤ H * 10 ^ k := Nat.mul_le_mul_right _ hH
          have e4 : H * 10 ^ (k + 1) = H * 10 ^ k * 10 := by rw [Nat.pow_succ, Nat.mul_assoc]
          rw [e4, dd_big (by omega), show H * 10 ^ k * 10 / 10 = H * 10 ^ k by omega, show H * 10 ^ k * 10 % 10 = 0 by omega, ihk, List.append_assoc, List.replicate_succ']; rfl
      rw [show lo / 10 = 0 by omega, Nat.add_zero, hz m, dd_small hlo, Nat.mod_eq_of_lt hlo]
      simp
    · have h1 := ih H (lo / 10) hH (by omega) (by
        by_cases hm : m = 0
        · exact Or.inr hm
        · left
          have := hlen.resolve_right (by omega)
          rw [dd_big hlo, List.length_append, List.length_singleton] at this; omega)
      have hm : m ≠ 0 := fun e => by subst e; simp at hl; omega
      rw [h1, if_neg hm, dd_big hlo]
      have hl2 : (Lib.decDigits (lo / 10) ++ [UInt8.ofNat (48 + lo % 10)]).length = (Lib.decDigits (lo / 10)).length + 1 := by simp
      rw [hl2, show m + 1 - ((Lib.decDigits (lo / 10)).length + 1) = m - (Lib.decDigits (lo / 10)).length by omega]
      simp [List.append_assoc]
theorem dd_len {u m : Nat} (h : u < 10 ^ m) (hm : m ≠ 0) : (Lib.decDigits u).length ≤ m := by
  induction m generalizing u with
  | zero => exact absurd rfl hm
  | succ m ih =>
    by_cases hu : u < 10
    · rw [dd_small hu]; simp
    · rw [dd_big hu, List.length_append, List.length_singleton]
      have hpw : 10 ^ (m + 1) = 10 ^ m * 10 := Nat.pow_succ ..
      have hm0 : m ≠ 0 := fun e => by subst e; simp at h; omega
      have := ih (u := u / 10) (by omega) hm0
      omega
theorem dd_cat9 {H lo : Nat} (hH : 0 < H) (hlo : lo < 1000000000) : Lib.decDigits (H * 1000000000 + lo) = Lib.decDigits H ++ (List.replicate (9 - (Lib.decDigits lo).length) 48 ++ Lib.decDigits lo) := by
  have := dd_cat 9 H lo hH hlo (Or.inl (dd_len (m := 9) hlo (by decide)))
  rwa [if_neg (by decide)] at this
end Go.Proofs.YtigblodhdfnleaaGreatDoor
