/- Walks. -/
import Derived.Test.YthnafdbebniapaaGreatDoorQ18
import Derived.Test.YthnafdbebniapaaGreatDoorQ12
import Derived.Test.YthnafdbebniapaaGreatDoorQTy
set_option maxHeartbeats 16000000
set_option maxRecDepth 20000
namespace Go.Proofs.YthnafdbebniapaaGreatDoor
open Go Go.Wk Go.Un Go.De
set_option linter.unusedSimpArgs false
set_option linter.unusedVariables false
attribute [local irreducible] Go.wpList Go.Code.wp Go.wpStill Go.Wk.wpPre Go.bodyPost Go.Calls Go.Wk.Ct Go.Wk.OwnS Go.Wk.wpG Go.Wk.wpM
theorem zzDeY0 {p : Prop} (h : p := by (rw [← hao] at S; replace S := S.drop1; refine ⟨L.len - (k + 1), by omega, k + 1, ?_⟩; apply Exists.intro; apply Exists.intro; refine ⟨rfl, by omega, ?_, ?_, ?_⟩; rotate_left 2; (refine S.keep ?_; exact zk); (rw [← hq1]; first | rw [hdr, formL_cons, (by assumption : q1 = true), Bool.true_and] | (rw [(by assumption : q1 = false), Bool.false_and, Bool.false_and])); (rw [← hq2]; first | rw [hdr, fitsL_cons, (by assumption : q2 = true), Bool.true_and] | (rw [(by assumption : q2 = false), Bool.false_and, Bool.false_and])))) : p := h
theorem zzDeY1 {p : Prop} (h : p := by (apply Exists.intro; apply Exists.intro; refine ⟨?_, ?_, ?_⟩; rotate_left 2; (refine S.keep ?_; exact zk); (clear S hZ Z ih; first | (exact absurd ((by assumption : cutC vh.s = true).symm.trans (by assumption : cutC vh.s = false)) (by decide)) | (unfold formH; first | (rw [if_neg (by omega), if_neg (by omega), if_neg (by omega), if_neg (by omega), if_neg (by omega), if_pos (by omega), (by assumption : cutC vh.s = false), decide_eq_false (fun h9 : vh.s ≠ sTrue ∧ vh.s ≠ sFalse => h9.1 (by assumption))]; simp) | (rw [if_pos (by omega)] <;> (rw [Bool.eq_iff_iff]; simp [*, sTrue, sFalse] <;> omega)) | (rw [if_neg (by omega), if_pos (by omega)] <;> (rw [Bool.eq_iff_iff]; simp [*, sTrue, sFalse] <;> omega)) | (rw [if_neg (by omega), if_neg (by omega), if_pos (by omega)] <;> (rw [Bool.eq_iff_iff]; simp [*, sTrue, sFalse] <;> omega)) | (rw [if_neg (by omega), if_neg (by omega), if_neg (by omega), if_pos (by omega)] <;> (rw [Bool.eq_iff_iff]; simp [*, sTrue, sFalse] <;> omega)) | (rw [if_neg (by omega), if_neg (by omega), if_neg (by omega), if_neg (by omega), if_pos (by omega)] <;> (rw [Bool.eq_iff_iff]; simp [*, sTrue, sFalse] <;> omega)) | (rw [if_neg (by omega), if_neg (by omega), if_neg (by omega), if_neg (by omega), if_neg (by omega), if_pos (by omega)] <;> (rw [Bool.eq_iff_iff]; simp [*, sTrue, sFalse] <;> omega)) | (rw [if_neg (by omega), if_neg (by omega), if_neg (by omega), if_neg (by omega), if_neg (by omega), if_neg (by omega)]) | (rw [if_neg (by omega), if_neg (by omega), if_neg (by omega), if_neg (by omega)]) | done)); (clear S hZ Z ih; first | (exact absurd ((by assumption : cutC vh.s = true).symm.trans (by assumption : cutC vh.s = false)) (by decide)) | (unfold fitsH; first | (rw [if_pos (by omega)] <;> (rw [Bool.eq_iff_iff]; simp [*, sTrue, sFalse] <;> omega)) | (rw [if_neg (by omega), if_pos (by omega)] <;> (rw [Bool.eq_iff_iff]; simp [*, sTrue, sFalse] <;> omega)) | (rw [if_neg (by omega), if_neg (by omega), if_pos (by omega)] <;> (rw [Bool.eq_iff_iff]; simp [*, sTrue, sFalse] <;> omega)) | (rw [if_neg (by omega), if_neg (by omega), if_neg (by omega), if_pos (by omega)] <;> (rw [Bool.eq_iff_iff]; simp [*, sTrue, sFalse] <;> omega)) | (rw [if_neg (by omega), if_neg (by omega), if_neg (by omega), if_neg (by omega), if_pos (by omega)] <;> (rw [Bool.eq_iff_iff]; simp [*, sTrue, sFalse] <;> omega)) | (rw [if_neg (by omega), if_neg (by omega), if_neg (by omega), if_neg (by omega), if_neg (by omega), if_pos (by omega)] <;> (rw [Bool.eq_iff_iff]; simp [*, sTrue, sFalse] <;> omega)) | (rw [if_neg (by omega), if_neg (by omega), if_neg (by omega), if_neg (by omega), if_neg (by omega), if_neg (by omega)]) | (rw [if_neg (by omega), if_neg (by omega), if_neg (by omega), if_neg (by omega)]) | done)))) : p := h
theorem lookCt (F : Heap) : ∀ (n : Nat) (vh : VH) (L : Vf) (cs : List Value), L.size ≤ n → VaC F cs vh L → Ct Tryz.prog 59 [.agg ⟨cs⟩] F [] (fun _ _ u => u = .tuple ⟨[.bool (formH vh L.len && formL L), .bool (fitsH vh L.len && fitsL L)]⟩) := by
  intro n
  induction n using Nat.strongRecOn with
  | _ n ih =>
  intro vh L cs hn hV
  obtain ⟨v, rfl, ⟨ao, cap, rfl, hcap, hpos⟩, hsb⟩ := hV
  refine Ct.enter Tryz.func59 rfl Tryz.ntmps59 rfl fun w0 a S => ?_
  refine wp_sr fun Z hZ => ?_
  (refine wbx S ?_; clear S a; intro b1 a w S)
  (revert S a; revert hZ Z; refine go 4 ?_; intro a S)
  (refine wp_seq_k ?_; intro Z hZ)
  replace hZ : ∀ (a' : Act) (w' : World), (∃ p1 : Bool, St 182 [(1, ptr b1), (2, .bool p1), (3, .bool true)] w0 F [] F [[(b1, .cells ⟨[.int .u8 (vh.k : Int), .int .i64 vh.n, .string (bs vh.s), .slice ao L.len cap]⟩ 125 (0, 0))]] a' w') → Z a' w' := (by
   (intro a w hM; refine hZ _ _ ?_; clear hZ Z; clear S; obtain ⟨p1, S⟩ := hM)
   (refine wp_seq_k ?_; intro Z hZ)
   replace hZ : ∀ (a' : Act) (w' : World), (∃ p1 p2 : Bool, p1 = formH vh L.len ∧ p2 = fitsH vh L.len ∧ St 182 [(1, ptr b1), (2, .bool p1), (3, .bool p2)] w0 F [] F [[(b1, .cells ⟨[.int .u8 (vh.k : Int), .int .i64 vh.n, .string (bs vh.s), .slice ao L.len cap]⟩ 125 (0, 0))]] a' w') → Z a' w' := (by
    (intro a w hM; refine hZ _ _ ?_; clear hZ Z; clear S; obtain ⟨p1, p2, hp1, hp2, S⟩ := hM)
    (revert S a; refine go 9 ?_; intro Z hZ a S)
    refine wpc_loop (fun m a w' => ∃ (k : Nat) (q1 q2 : Bool), m = L.len - k ∧ k ≤ L.len ∧ (q1 && formL (L.drop k)) = (formH vh L.len && formL L) ∧ (q2 && fitsL (L.drop k)) = (fitsH vh L.len && fitsL L) ∧ St 182 [(1, ptr b1), (2, .bool q1), (3, .bool q2), (160, .slice ao L.len cap), (161, .int .i64 L.len), (162, .int .i64 k)] w0 F [] F [[(b1, .cells ⟨[.int .u8 (vh.k : Int), .int .i64 vh.n, .string (bs vh.s), .slice ao L.len cap]⟩ 125 (0, 0))]] a w') ?_ ?_
    · (refine ⟨L.len, 0, p1, p2, by omega, Nat.zero_le _, by rw [hp1]; rfl, by rw [hp2]; rfl, ?_⟩; refine S.keep ?_; exact zk)
    (clear S; rintro m a w ⟨k, q1, q2, rfl, hkl, hq1, hq2, S⟩)
    (revert S a; refine go 5 ?_; intro Z hZ a S)
    refine wpc_sp S rfl ?_ ?_ <;> intro h
    · (revert S a; revert hZ Z; refine go 4 ?_; intro Z hZ a S)
      (refine wp_seq_k ?_; intro Z hZ)
      (obtain ⟨b8, o8, hao, x, cs1, v1, hx, hc1, hw9, hT1⟩ := TrM.pos hpos (k := k) (by omega); rw [hao] at S; have hxs := Rose.size_get hx; have hdr := Rose.drop_get hx; have hT1c := hT1; obtain ⟨a91, c91, rfl, -⟩ := hT1c; have hw9c := hw9.1; subst hw9c; (simp only [List.cons_append, List.nil_append] at hc1))
      (revert S a; refine go 3 ?_; intro a S)
      (refine wpl_alloc S rfl rfl rfl rfl ?_; clear S a; intro b10 a w S)
      (refine wso S rfl rfl ?_; clear S; intro w S)
      (revert S a; revert hZ Z; refine go 4 ?_; intro Z hZ a S)
      (refine wc0 S (ih x.2.size (by omega) x.1 x.2 _ (Nat.le_refl _) ⟨_, rfl, hT1, hw9.2⟩) ?_; clear S a; intro v a w hv S; subst hv)
      (revert S a; revert hZ Z; refine go 10 ?_; intro a S)
      refine wgd S ?_ ?_
      · (clear S; intro h S)
        (revert S a; refine go 4 ?_; intro a S)
        refine wgd S ?_ ?_
        · (clear S; intro h S)
          (revert S a; revert hZ Z; refine go 10 ?_; intro a S)
          change ∃ m', _ ∧ _
          exact zzDeY0
        (clear S a; intro h a S)
        (revert S a; revert hZ Z; refine go 9 ?_; intro a S)
        change ∃ m', _ ∧ _
        exact zzDeY0
      (clear S a; intro h a S)
      (revert S a; refine go 3 ?_; intro a S)
      refine wgd S ?_ ?_
      · (clear S; intro h S)
        (revert S a; revert hZ Z; refine go 10 ?_; intro a S)
        change ∃ m', _ ∧ _
        exact zzDeY0
      (clear S a; intro h a S)
      (revert S a; revert hZ Z; refine go 9 ?_; intro a S)
      change ∃ m', _ ∧ _
      exact zzDeY0
    (refine wp_exit ?_; conv => whnf)
    clear hZ Z
    (revert S a; revert hZ Z; refine go 8 ?_; intro a S)
    refine wp_ret (fr2 S Tryz.results59 ?_)
    (rw [← hq1, ← hq2, Rose.drop_len (by omega)]; rw [show formL .nil = true from rfl, show fitsL .nil = true from rfl, Bool.and_true, Bool.and_true]))
   (revert S a; refine go 11 ?_; intro a S)
   refine wpc_sp S rfl ?_ ?_ <;> intro h
   · (revert S a; refine go 5 ?_; intro a S)
     refine wgd S ?_ ?_
     · (clear S; intro h S)
       (revert S a; refine go 7 ?_; intro a S)
       refine wgd S ?_ ?_
       · (clear S; intro h S)
         (revert S a; refine go 7 ?_; intro a S)
         refine wgd S ?_ ?_
         · (clear S; intro h S)
           (revert S a; refine go 10 ?_; intro a S)
           (refine hZ _ _ ?_)
           exact zzDeY1
         (clear S a; intro h a S)
         (revert S a; refine go 6 ?_; intro a S)
         (refine hZ _ _ ?_)
         exact zzDeY1
       (clear S a; intro h a S)
       (revert S a; refine go 11 ?_; intro a S)
       (refine hZ _ _ ?_)
       exact zzDeY1
     (clear S a; intro h a S)
     (revert S a; refine go 12 ?_; intro a S)
     refine wgd S ?_ ?_
     · (clear S; intro h S)
       (revert S a; refine go 10 ?_; intro a S)
       (refine hZ _ _ ?_)
       exact zzDeY1
     (clear S a; intro h a S)
     (revert S a; refine go 6 ?_; intro a S)
     (refine hZ _ _ ?_)
     exact zzDeY1
   (revert S a; refine go 5 ?_; intro a S)
   refine wpc_sp S rfl ?_ ?_ <;> intro h
   · (revert S a; refine go 5 ?_; intro a S)
     refine wgd S ?_ ?_
     · (clear S; intro h S)
       (revert S a; refine go 10 ?_; intro a S)
       (refine hZ _ _ ?_)
       exact zzDeY1
     (clear S a; intro h a S)
     (revert S a; refine go 6 ?_; intro a S)
     (refine hZ _ _ ?_)
     exact zzDeY1
   (revert S a; refine go 5 ?_; intro a S)
   refine wpc_sp S rfl ?_ ?_ <;> intro h
   · (revert S a; refine go 3 ?_; intro Z hZ a S)
     (refine wc0 S (numberCt F vh.s hsb) ?_; clear S a; intro v a w hv S; subst hv)
     (revert S a; revert hZ Z; refine go 10 ?_; intro a S)
     refine wgd S ?_ ?_
     · (clear S; intro h S)
       (revert S a; refine go 7 ?_; intro a S)
       refine wgd S ?_ ?_
       · (clear S; intro h S)
         (revert S a; refine go 13 ?_; intro a S)
         (refine hZ _ _ ?_)
         exact zzDeY1
       (clear S a; intro h a S)
       (revert S a; refine go 9 ?_; intro a S)
       (refine hZ _ _ ?_)
       exact zzDeY1
     (clear S a; intro h a S)
     (revert S a; refine go 14 ?_; intro a S)
     (refine hZ _ _ ?_)
     exact zzDeY1
   (revert S a; refine go 5 ?_; intro a S)
   refine wpc_sp S rfl ?_ ?_ <;> intro h
   · (refine wpc_mixM [0, 1, 2, 3, 4, 5, 6, 7, 8, 9, 10, 11, 12] [1, 5, 10] [] (.one 0 (.one 1 (.one 2 (.one 3 (.one 4 (.one 5 (.one 6 (.one 7 (.one 8 (.one 9 (.one 10 (.one 11 (.one 12 (.one 13 (.one 14 .nil))))))))))))))) [b1] S mixed (by kernel_rfl) ?_; clear S; intro w S)
     (revert S a; refine go 4 ?_; intro a S)
     refine St.pt 88 true S rfl ?_ ?_ <;> clear S <;> intro h S
     · (revert S a; refine go 16 ?_; intro a S)
       (refine hZ _ _ ?_)
       exact zzDeY1
     (revert S a; refine go 16 ?_; intro a S)
     (refine hZ _ _ ?_)
     exact zzDeY1
   (revert S a; refine go 5 ?_; intro a S)
   refine wpc_sp S rfl ?_ ?_ <;> intro h
   · (refine wpc_mixM [0, 1, 2, 3, 4, 5, 6, 7, 8, 9, 10, 11, 12, 13, 14, 15, 16, 17] [1, 5, 10, 15] [] (.one 0 (.one 1 (.one 2 (.one 3 (.one 4 (.one 5 (.one 6 (.one 7 (.one 8 (.one 9 (.one 10 (.one 11 (.one 12 (.one 13 (.one 14 (.one 15 (.one 16 (.one 17 (.one 18 (.one 19 .nil)))))))))))))))))))) [b1] S mixed (by kernel_rfl) ?_; clear S; intro w S)
     (revert S a; refine go 4 ?_; intro a S)
     refine St.pt 103 true S rfl ?_ ?_ <;> clear S <;> intro h S
     · (revert S a; refine go 5 ?_; intro a S)
       refine St.pt 108 true S rfl ?_ ?_ <;> clear S <;> intro h S
       · (revert S a; refine go 16 ?_; intro a S)
         (refine hZ _ _ ?_)
         exact zzDeY1
       (revert S a; refine go 16 ?_; intro a S)
       (refine hZ _ _ ?_)
       exact zzDeY1
     (revert S a; refine go 21 ?_; intro a S)
     (refine hZ _ _ ?_)
     exact zzDeY1
   (revert S a; refine go 5 ?_; intro a S)
   refine wpc_sp S rfl ?_ ?_ <;> intro h
   · (revert S a; refine go 3 ?_; intro Z hZ a S)
     (refine wc0 S (cutCt F vh.s hsb) ?_; clear S a; intro v a w hv S; subst hv)
     (revert S a; revert hZ Z; refine go 9 ?_; intro a S)
     (refine wpc_mixM [0, 1, 2, 3, 4, 6, 7, 8, 9, 10, 12, 13, 14, 15, 16, 17, 18, 19, 20, 21, 22, 23, 24, 25, 26, 27, 28, 29, 30, 31] [1, 18, 23, 29] [] (.one 0 (.one 1 (.one 2 (.one 3 (.one 4 (.one 28 (.one 29 (.one 30 (.one 31 (.one 5 (.one 6 (.one 7 (.one 8 (.one 9 (.one 10 (.one 11 (.one 12 (.one 13 (.one 14 (.one 15 (.one 16 (.one 17 (.one 18 (.one 19 (.one 20 (.one 21 (.one 22 (.one 23 (.one 24 (.one 25 (.one 26 (.one 27 (.one 32 (.one 33 .nil)))))))))))))))))))))))))))))))))) [b1] S mixed (by kernel_rfl) ?_; clear S; intro w S)
     (revert S a; refine go 4 ?_; intro a S)
     refine St.pt 130 true S rfl ?_ ?_ <;> clear S <;> intro h S
     · (revert S a; refine go 7 ?_; intro a S)
       (refine wc0 S (nameCt F (cutA vh.s)) ?_; clear S a; intro v a w hv S; subst hv)
       (revert S a; refine go 3 ?_; intro a S)
       refine St.pt 134 true S rfl ?_ ?_ <;> clear S <;> intro h S
       · (revert S a; refine go 2 ?_; intro a S)
         refine St.pt 136 true S rfl ?_ ?_ <;> clear S <;> intro h S
         · (revert S a; refine go 3 ?_; intro a S)
           (refine wc0 S (nameCt F (cutB vh.s)) ?_; clear S a; intro v a w hv S; subst hv)
           (revert S a; refine go 3 ?_; intro a S)
           refine St.pt 140 false S rfl ?_ ?_ <;> clear S <;> intro h S
           · (revert S a; refine go 3 ?_; intro a S)
             refine St.pt 143 true S rfl ?_ ?_ <;> clear S <;> intro h S
             · (revert S a; refine go 5 ?_; intro a S)
               refine St.pt 148 true S rfl ?_ ?_ <;> clear S <;> intro h S
               · (revert S a; refine go 13 ?_; intro a S)
                 (refine hZ _ _ ?_)
                 exact zzDeY1
               (revert S a; refine go 13 ?_; intro a S)
               (refine hZ _ _ ?_)
               exact zzDeY1
             (revert S a; refine go 18 ?_; intro a S)
             (refine hZ _ _ ?_)
             exact zzDeY1
           (revert S a; refine go 21 ?_; intro a S)
           (refine hZ _ _ ?_)
           exact zzDeY1
         (revert S a; refine go 1 ?_; intro a S)
         (refine wpm_skipE S rfl rfl (want_no S rfl rfl rfl) (kwa S) rfl rfl ?_; clear S a; intro a S)
         (revert S a; refine go 5 ?_; intro a S)
         refine St.pt 143 true S rfl ?_ ?_ <;> clear S <;> intro h S
         · (revert S a; refine go 5 ?_; intro a S)
           refine St.pt 148 true S rfl ?_ ?_ <;> clear S <;> intro h S
           · (revert S a; refine go 13 ?_; intro a S)
             (refine hZ _ _ ?_)
             exact zzDeY1
           (revert S a; refine go 13 ?_; intro a S)
           (refine hZ _ _ ?_)
           exact zzDeY1
         (revert S a; refine go 18 ?_; intro a S)
         (refine hZ _ _ ?_)
         exact zzDeY1
       (revert S a; refine go 3 ?_; intro a S)
       (refine wpm_skipE S rfl rfl (want_undef S rfl rfl rfl) (kwa S) rfl rfl ?_; clear S a; intro a S)
       (revert S a; refine go 23 ?_; intro a S)
       (refine hZ _ _ ?_)
       exact zzDeY1
     (revert S a; refine go 5 ?_; intro a S)
     (refine wpm_skipE S rfl rfl (want_no S rfl rfl rfl) (kwa S) rfl rfl ?_; clear S a; intro a S)
     (revert S a; refine go 5 ?_; intro a S)
     (refine wpm_skipE S rfl rfl (want_undef S rfl rfl rfl) (kwa S) rfl rfl ?_; clear S a; intro a S)
     (revert S a; refine go 23 ?_; intro a S)
     (refine hZ _ _ ?_)
     exact zzDeY1
   (revert S a; refine go 3 ?_; intro a S)
   (refine hZ _ _ ?_)
   (apply Exists.intro; apply Exists.intro; refine ⟨?_, ?_, ?_⟩; rotate_left 2; (refine S.keep ?_; exact zk); (clear S hZ Z ih; first | (exact absurd ((by assumption : cutC vh.s = true).symm.trans (by assumption : cutC vh.s = false)) (by decide)) | (unfold formH; first | (rw [if_neg (by omega), if_neg (by omega), if_neg (by omega), if_neg (by omega), if_neg (by omega), if_pos (by omega), (by assumption : cutC vh.s = false), decide_eq_false (fun h9 : vh.s ≠ sTrue ∧ vh.s ≠ sFalse => h9.1 (by assumption))]; simp) | (rw [if_pos (by omega)] <;> (rw [Bool.eq_iff_iff]; simp [*, sTrue, sFalse] <;> omega)) | (rw [if_neg (by omega), if_pos (by omega)] <;> (rw [Bool.eq_iff_iff]; simp [*, sTrue, sFalse] <;> omega)) | (rw [if_neg (by omega), if_neg (by omega), if_pos (by omega)] <;> (rw [Bool.eq_iff_iff]; simp [*, sTrue, sFalse] <;> omega)) | (rw [if_neg (by omega), if_neg (by omega), if_neg (by omega), if_pos (by omega)] <;> (rw [Bool.eq_iff_iff]; simp [*, sTrue, sFalse] <;> omega)) | (rw [if_neg (by omega), if_neg (by omega), if_neg (by omega), if_neg (by omega), if_pos (by omega)] <;> (rw [Bool.eq_iff_iff]; simp [*, sTrue, sFalse] <;> omega)) | (rw [if_neg (by omega), if_neg (by omega), if_neg (by omega), if_neg (by omega), if_neg (by omega), if_pos (by omega)] <;> (rw [Bool.eq_iff_iff]; simp [*, sTrue, sFalse] <;> omega)) | (rw [if_neg (by omega), if_neg (by omega), if_neg (by omega), if_neg (by omega), if_neg (by omega), if_neg (by omega)]) | (rw [if_neg (by omega), if_neg (by omega), if_neg (by omega), if_neg (by omega)]) | done)); (clear S hZ Z ih; first | (exact absurd ((by assumption : cutC vh.s = true).symm.trans (by assumption : cutC vh.s = false)) (by decide)) | (unfold fitsH; first | (rw [if_pos (by omega)] <;> (rw [Bool.eq_iff_iff]; simp [*, sTrue, sFalse] <;> omega)) | (rw [if_neg (by omega), if_pos (by omega)] <;> (rw [Bool.eq_iff_iff]; simp [*, sTrue, sFalse] <;> omega)) | (rw [if_neg (by omega), if_neg (by omega), if_pos (by omega)] <;> (rw [Bool.eq_iff_iff]; simp [*, sTrue, sFalse] <;> omega)) | (rw [if_neg (by omega), if_neg (by omega), if_neg (by omega), if_pos (by omega)] <;> (rw [Bool.eq_iff_iff]; simp [*, sTrue, sFalse] <;> omega)) | (rw [if_neg (by omega), if_neg (by omega), if_neg (by omega), if_neg (by omega), if_pos (by omega)] <;> (rw [Bool.eq_iff_iff]; simp [*, sTrue, sFalse] <;> omega)) | (rw [if_neg (by omega), if_neg (by omega), if_neg (by omega), if_neg (by omega), if_neg (by omega), if_pos (by omega)] <;> (rw [Bool.eq_iff_iff]; simp [*, sTrue, sFalse] <;> omega)) | (rw [if_neg (by omega), if_neg (by omega), if_neg (by omega), if_neg (by omega), if_neg (by omega), if_neg (by omega)]) | (rw [if_neg (by omega), if_neg (by omega), if_neg (by omega), if_neg (by omega)]) | done))))
  (revert S a; refine go 5 ?_; intro a S)
  refine wgd S ?_ ?_
  · (clear S; intro h S)
    (revert S a; refine go 7 ?_; intro a S)
    refine wgd S ?_ ?_
    · (clear S; intro h S)
      (revert S a; refine go 11 ?_; intro a S)
      (refine hZ _ _ ?_)
      (apply Exists.intro; (refine S.keep ?_; exact zk))
    (clear S a; intro h a S)
    (revert S a; refine go 7 ?_; intro a S)
    (refine hZ _ _ ?_)
    (apply Exists.intro; (refine S.keep ?_; exact zk))
  (clear S a; intro h a S)
  (revert S a; refine go 12 ?_; intro a S)
  (refine hZ _ _ ?_)
  (apply Exists.intro; (refine S.keep ?_; exact zk))
theorem zzDck0 {p : Prop} (h : p := by (congr 1; unfold checkV; first | (rw [if_pos (by omega)]; done) | (rw [if_neg (by omega), if_pos (by assumption)]; done) | (rw [if_neg (by omega), if_neg (by rw [(by assumption : (formH vh L.len && formL L) = true)]; decide), if_pos (by assumption)]; done) | (rw [if_neg (by omega), if_neg (by rw [(by assumption : (formH vh L.len && formL L) = true)]; decide), if_neg (by rw [(by assumption : (fitsH vh L.len && fitsL L) = true)]; decide)]; done) | trace_state)) : p := h
theorem checkUCt (F : Heap) (vh : VH) (L : Vf) (cs : List Value) (hV : VaC F cs vh L) : Ct Tryz.prog 35 [.agg ⟨cs⟩] F [] (fun _ _ u => u = .int .i64 (checkV vh L)) := by
 have hV0 := hV
 obtain ⟨v, rfl, ⟨ao, cap, rfl, hcap, hpos⟩, hsb⟩ := hV
 refine Ct.enter Tryz.func35 rfl Tryz.ntmps35 rfl fun w0 a S => ?_
 refine wp_sr fun Z hZ => ?_
 (refine wbx S ?_; clear S a; intro b1 a w S)
 (revert S a; revert hZ Z; refine go 6 ?_; intro Z hZ Z hZ a S)
 (refine wc0 S (depVCt F L.size vh L _ 65 (Nat.le_refl _) (by omega) (by omega) hV0) ?_; clear S a; intro v a w hv S; subst hv)
 (revert S a; revert hZ Z; refine go 3 ?_; intro a S)
 refine wpc_sp S rfl ?_ ?_ <;> intro h
 ·(revert S a; refine go 4 ?_; intro a S)
  refine wp_ret (fr1 S Tryz.results35 ?_)
  exact zzDck0
 (revert S a; revert hZ Z; refine go 5 ?_; intro Z hZ Z hZ a S)
 (refine wc0 S (lookCt F L.size vh L _ (Nat.le_refl _) hV0) ?_; clear S a; intro v a w hv S; subst hv)
 (revert S a; revert hZ Z; refine go 14 ?_; intro a S)
 refine wpc_sp S rfl ?_ ?_ <;> intro h
 ·(revert S a; refine go 4 ?_; intro a S)
  refine wp_ret (fr1 S Tryz.results35 ?_)
  exact zzDck0
 (revert S a; refine go 6 ?_; intro a S)
 refine wpc_sp S rfl ?_ ?_ <;> intro h
 ·(revert S a; refine go 4 ?_; intro a S)
  refine wp_ret (fr1 S Tryz.results35 ?_)
  exact zzDck0
 (revert S a; revert hZ Z; refine go 6 ?_; intro a S)
 refine wp_ret (fr1 S Tryz.results35 ?_)
 exact zzDck0
theorem zzIx0 {p : Prop} (h : p := by (rw [hfp]; first | (rw [idxF_at (by omega), if_pos (by assumption)]; done) | (rw [idxF_end (by omega)]; done) | trace_state)) : p := h
theorem zzIx1 {p : Prop} (h : p := by (refine ⟨n - (k + 1), by omega, k + 1, rfl, by omega, ?_, ?_⟩; rotate_left 1; (refine S.keep ?_; exact zk); rw [hfp, idxF_at (by omega), if_neg (by rw [(by assumption : p k = false)]; decide)])) : p := h
theorem ixVCt (F : Heap) (v : Value) (n : Nat) (C : Nat → List Value → Prop) (h : Sq F 4 v n C) (fid : FuncId) (fi ca : List Value) [hfn : HasFn Tryz.prog fid] (p : Nat → Bool)
  (hcl : ∀ k cs, k < n → C k cs → Ct Tryz.prog fid (fi ++ [.agg ⟨cs⟩] ++ ca) F [] (fun _ _ u => u = .bool (p k))) :
  Ct Tryz.prog 242 [v, .func (.func fid) ⟨fi⟩ ⟨ca⟩] F [] (fun _ _ u => u = .int .i64 (idxN p n)) := by
 obtain ⟨ao, cap, rfl, hcap, hpos⟩ := h
 refine Ct.enter Tryz.func242 rfl Tryz.ntmps242 rfl fun w0 a S => ?_
 (revert S a; refine go 12 ?_; intro Z hZ a S)
 refine wpc_loop (fun m a w' => ∃ (k : Nat), m = n - k ∧ k ≤ n ∧ idxN p n = idxF p k (n - k) ∧ St 19 [(0, .slice ao n cap), (1, .func (.func fid) ⟨fi⟩ ⟨ca⟩), (7, .int .i64 n), (8, .int .i64 k)] w0 F [] F [] a w') ?_ ?_
 ·(refine ⟨n, 0, by omega, Nat.zero_le _, rfl, ?_⟩; refine S.keep ?_; exact zk)
 (clear S; rintro m a w ⟨k, rfl, hkl, hfp, S⟩)
 (revert S a; refine go 5 ?_; intro Z hZ a S)
 refine wpc_sp S rfl ?_ ?_ <;> intro h
 ·(revert S a; revert hZ Z; refine go 9 ?_; intro Z hZ a S)
  (refine wp_seq_k ?_; intro Z hZ)
  (obtain ⟨b8, o8, rfl, cs1, hc1, hl1, hC⟩ := Sq.pos hpos (k := k) (by omega))
  (revert S a; refine go 5 ?_; intro a S)
  (refine wv S (sv_loadAF S rfl rfl hc1 hl1) ?_; clear S a; intro a S)
  (refine wc0 S (hcl k _ (by omega) hC) ?_; clear S a; intro v a w hv S; subst hv)
  (revert S a; revert hZ Z; refine go 2 ?_; intro a S)
  refine wpc_sp S rfl ?_ ?_ <;> intro h
  ·(revert S a; refine go 5 ?_; intro a S)
   refine wp_ret (fr1 S Tryz.results242 ?_)
   exact zzIx0
  (revert S a; revert hZ Z; refine go 6 ?_; intro a S)
  change ∃ m', _ ∧ _
  exact zzIx1
 (refine wp_exit ?_; conv => whnf)
 clear hZ Z
 (revert S a; revert hZ Z; refine go 5 ?_; intro a S)
 refine wp_ret (fr1 S Tryz.results242 ?_)
 exact zzIx0
theorem cfVCt (F : Heap) (v : Value) (n : Nat) (C : Nat → List Value → Prop) (h : Sq F 4 v n C) (fid : FuncId) (fi ca : List Value) [hfn : HasFn Tryz.prog fid] (p : Nat → Bool)
  (hcl : ∀ k cs, k < n → C k cs → Ct Tryz.prog fid (fi ++ [.agg ⟨cs⟩] ++ ca) F [] (fun _ _ u => u = .bool (p k))) :
  Ct Tryz.prog 215 [v, .func (.func fid) ⟨fi⟩ ⟨ca⟩] F [] (fun _ _ u => u = .bool (anyN p n)) := by
 have hc := ixVCt F v n C h fid fi ca p hcl
 obtain ⟨ao, cap, rfl, hcap, hpos⟩ := h
 refine Ct.enter Tryz.func215 rfl Tryz.ntmps215 rfl fun w0 a S => ?_
 (revert S a; refine go 7 ?_; intro Z hZ a S)
 (refine wc0 S (hc) ?_; clear S a; intro v a w hv S; subst hv)
 (revert S a; revert hZ Z; refine go 4 ?_; intro a S)
 refine wp_ret (fr1 S Tryz.results215 ?_)
 rfl
theorem ixECt (F : Heap) (v : Value) (n : Nat) (C : Nat → List Value → Prop) (h : Sq F 9 v n C) (fid : FuncId) (fi ca : List Value) [hfn : HasFn Tryz.prog fid] (p : Nat → Bool)
  (hcl : ∀ k cs, k < n → C k cs → Ct Tryz.prog fid (fi ++ [.agg ⟨cs⟩] ++ ca) F [] (fun _ _ u => u = .bool (p k))) :
  Ct Tryz.prog 233 [v, .func (.func fid) ⟨fi⟩ ⟨ca⟩] F [] (fun _ _ u => u = .int .i64 (idxN p n)) := by
 obtain ⟨ao, cap, rfl, hcap, hpos⟩ := h
 refine Ct.enter Tryz.func233 rfl Tryz.ntmps233 rfl fun w0 a S => ?_
 (revert S a; refine go 12 ?_; intro Z hZ a S)
 refine wpc_loop (fun m a w' => ∃ (k : Nat), m = n - k ∧ k ≤ n ∧ idxN p n = idxF p k (n - k) ∧ St 19 [(0, .slice ao n cap), (1, .func (.func fid) ⟨fi⟩ ⟨ca⟩), (7, .int .i64 n), (8, .int .i64 k)] w0 F [] F [] a w') ?_ ?_
 ·(refine ⟨n, 0, by omega, Nat.zero_le _, rfl, ?_⟩; refine S.keep ?_; exact zk)
 (clear S; rintro m a w ⟨k, rfl, hkl, hfp, S⟩)
 (revert S a; refine go 5 ?_; intro Z hZ a S)
 refine wpc_sp S rfl ?_ ?_ <;> intro h
 ·(revert S a; revert hZ Z; refine go 9 ?_; intro Z hZ a S)
  (refine wp_seq_k ?_; intro Z hZ)
  (obtain ⟨b8, o8, rfl, cs1, hc1, hl1, hC⟩ := Sq.pos hpos (k := k) (by omega))
  (revert S a; refine go 5 ?_; intro a S)
  (refine wv S (sv_loadAF S rfl rfl hc1 hl1) ?_; clear S a; intro a S)
  (refine wc0 S (hcl k _ (by omega) hC) ?_; clear S a; intro v a w hv S; subst hv)
  (revert S a; revert hZ Z; refine go 2 ?_; intro a S)
  refine wpc_sp S rfl ?_ ?_ <;> intro h
  ·(revert S a; refine go 5 ?_; intro a S)
   refine wp_ret (fr1 S Tryz.results233 ?_)
   exact zzIx0
  (revert S a; revert hZ Z; refine go 6 ?_; intro a S)
  change ∃ m', _ ∧ _
  exact zzIx1
 (refine wp_exit ?_; conv => whnf)
 clear hZ Z
 (revert S a; revert hZ Z; refine go 5 ?_; intro a S)
 refine wp_ret (fr1 S Tryz.results233 ?_)
 exact zzIx0
theorem cfECt (F : Heap) (v : Value) (n : Nat) (C : Nat → List Value → Prop) (h : Sq F 9 v n C) (fid : FuncId) (fi ca : List Value) [hfn : HasFn Tryz.prog fid] (p : Nat → Bool)
  (hcl : ∀ k cs, k < n → C k cs → Ct Tryz.prog fid (fi ++ [.agg ⟨cs⟩] ++ ca) F [] (fun _ _ u => u = .bool (p k))) :
  Ct Tryz.prog 204 [v, .func (.func fid) ⟨fi⟩ ⟨ca⟩] F [] (fun _ _ u => u = .bool (anyN p n)) := by
 have hc := ixECt F v n C h fid fi ca p hcl
 obtain ⟨ao, cap, rfl, hcap, hpos⟩ := h
 refine Ct.enter Tryz.func204 rfl Tryz.ntmps204 rfl fun w0 a S => ?_
 (revert S a; refine go 7 ?_; intro Z hZ a S)
 (refine wc0 S (hc) ?_; clear S a; intro v a w hv S; subst hv)
 (revert S a; revert hZ Z; refine go 4 ?_; intro a S)
 refine wp_ret (fr1 S Tryz.results204 ?_)
 rfl
end Go.Proofs.YthnafdbebniapaaGreatDoor
