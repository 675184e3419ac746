/- Walks. -/
import Derived.Test.YtbhipiepfclneaaGreatDoorQ10
set_option maxHeartbeats 16000000
set_option maxRecDepth 20000
set_option linter.unusedVariables false
set_option linter.unusedSimpArgs false
namespace Go.Proofs.YtbhipiepfclneaaGreatDoor
open Go Go.Wk Go.Un Go.De
attribute [local irreducible] Go.wpList Go.Code.wp Go.wpStill Go.Wk.q26 Go.bodyPost Go.Calls Go.Wk.Ct Go.Wk.q0u Go.Wk.wpG Go.Wk.wpM
theorem qjb {p : Prop} (h : p := by (rw [← hao] at S; replace S := S.drop1; refine ⟨L.len - (k + 1), by omega, k + 1, ?_⟩; apply Exists.intro; apply Exists.intro; refine ⟨rfl, by omega, ?_, ?_, ?_⟩; rotate_left 2; (refine S.keep ?_; exact zk); (rw [← hq1]; first | rw [hdr, q24, (by assumption : q1 = true), Bool.true_and] | (rw [(by assumption : q1 = false), Bool.false_and, Bool.false_and])); (rw [← hq2]; first | rw [hdr, q48, (by assumption : q2 = true), Bool.true_and] | (rw [(by assumption : q2 = false), Bool.false_and, Bool.false_and])))) : p := h
theorem q2a {p : Prop} (h : p := by (apply Exists.intro; apply Exists.intro; refine ⟨?_, ?_, ?_⟩; rotate_left 2; (refine S.keep ?_; exact zk); (clear S hZ Z ih; first | (exact absurd ((by assumption : cutC vh.s = true).symm.trans (by assumption : cutC vh.s = false)) (by decide)) | (unfold q16; first | (rw [if_neg (by omega), if_neg (by omega), if_neg (by omega), if_neg (by omega), if_neg (by omega), if_pos (by omega), (by assumption : cutC vh.s = false), decide_eq_false (fun h9 : vh.s ≠ q2d ∧ vh.s ≠ q1f => h9.1 (by assumption))]; simp) | (rw [if_pos (by omega)] <;> (rw [Bool.eq_iff_iff]; simp [*, q2d, q1f] <;> omega)) | (rw [if_neg (by omega), if_pos (by omega)] <;> (rw [Bool.eq_iff_iff]; simp [*, q2d, q1f] <;> omega)) | (rw [if_neg (by omega), if_neg (by omega), if_pos (by omega)] <;> (rw [Bool.eq_iff_iff]; simp [*, q2d, q1f] <;> omega)) | (rw [if_neg (by omega), if_neg (by omega), if_neg (by omega), if_pos (by omega)] <;> (rw [Bool.eq_iff_iff]; simp [*, q2d, q1f] <;> omega)) | (rw [if_neg (by omega), if_neg (by omega), if_neg (by omega), if_neg (by omega), if_pos (by omega)] <;> (rw [Bool.eq_iff_iff]; simp [*, q2d, q1f] <;> omega)) | (rw [if_neg (by omega), if_neg (by omega), if_neg (by omega), if_neg (by omega), if_neg (by omega), if_pos (by omega)] <;> (rw [Bool.eq_iff_iff]; simp [*, q2d, q1f] <;> omega)) | (rw [if_neg (by omega), if_neg (by omega), if_neg (by omega), if_neg (by omega), if_neg (by omega), if_neg (by omega)]) | (rw [if_neg (by omega), if_neg (by omega), if_neg (by omega), if_neg (by omega)]) | done)); (clear S hZ Z ih; first | (exact absurd ((by assumption : cutC vh.s = true).symm.trans (by assumption : cutC vh.s = false)) (by decide)) | (unfold q53; first | (rw [if_pos (by omega)] <;> (rw [Bool.eq_iff_iff]; simp [*, q2d, q1f] <;> omega)) | (rw [if_neg (by omega), if_pos (by omega)] <;> (rw [Bool.eq_iff_iff]; simp [*, q2d, q1f] <;> omega)) | (rw [if_neg (by omega), if_neg (by omega), if_pos (by omega)] <;> (rw [Bool.eq_iff_iff]; simp [*, q2d, q1f] <;> omega)) | (rw [if_neg (by omega), if_neg (by omega), if_neg (by omega), if_pos (by omega)] <;> (rw [Bool.eq_iff_iff]; simp [*, q2d, q1f] <;> omega)) | (rw [if_neg (by omega), if_neg (by omega), if_neg (by omega), if_neg (by omega), if_pos (by omega)] <;> (rw [Bool.eq_iff_iff]; simp [*, q2d, q1f] <;> omega)) | (rw [if_neg (by omega), if_neg (by omega), if_neg (by omega), if_neg (by omega), if_neg (by omega), if_pos (by omega)] <;> (rw [Bool.eq_iff_iff]; simp [*, q2d, q1f] <;> omega)) | (rw [if_neg (by omega), if_neg (by omega), if_neg (by omega), if_neg (by omega), if_neg (by omega), if_neg (by omega)]) | (rw [if_neg (by omega), if_neg (by omega), if_neg (by omega), if_neg (by omega)]) | done)))) : p := h
theorem u2z (F : q01) : ∀ (n : Nat) (vh : VH) (L : Vf) (cs : List Value), L.size ≤ n → VaC F cs vh L → Ct Tryz.prog 85 [.agg ⟨cs⟩] F [] (fun _ _ u => u = .tuple ⟨[.bool (q16 vh L.len && q29 L), .bool (q53 vh L.len && q60 L)]⟩) := by
  intro n
  induction n using Nat.strongRecOn with
  | _ n ih =>
  intro vh L cs hn hV
  obtain ⟨v, rfl, ⟨ao, cap, rfl, hcap, hpos⟩, hsb⟩ := hV
  refine Ct.enter Tryz.func85 rfl Tryz.ntmps85 rfl fun w0 a S => ?_
  refine q1i fun Z hZ => ?_
  (refine wbx S ?_; clear S a; intro b1 a w S)
  revert a; revert Z; refine go 4 ?_; intro a S
  (refine wp_seq_k ?_; intro Z hZ)
  replace hZ : ∀ (a' : Act) (w' : World), (∃ p1 : Bool, St 182 [(1, ptr b1), (2, .bool p1), (3, .bool true)] w0 F [] F [[(b1, .cells ⟨[.int .u8 (vh.k : Int), .int .i64 vh.n, .string (bs vh.s), .slice ao L.len cap]⟩ 131 (0, 0))]] a' w') → Z a' w' := (by
   (intro a w hM; refine hZ _ _ ?_; clear hZ Z; clear S; obtain ⟨p1, S⟩ := hM)
   (refine wp_seq_k ?_; intro Z hZ)
   replace hZ : ∀ (a' : Act) (w' : World), (∃ p1 p2 : Bool, p1 = q16 vh L.len ∧ p2 = q53 vh L.len ∧ St 182 [(1, ptr b1), (2, .bool p1), (3, .bool p2)] w0 F [] F [[(b1, .cells ⟨[.int .u8 (vh.k : Int), .int .i64 vh.n, .string (bs vh.s), .slice ao L.len cap]⟩ 131 (0, 0))]] a' w') → Z a' w' := (by
    (intro a w hM; refine hZ _ _ ?_; clear hZ Z; clear S; obtain ⟨p1, p2, hp1, hp2, S⟩ := hM)
    revert a; refine go 9 ?_; intro Z hZ a S
    refine q04 (fun m a w' => ∃ (k : Nat) (q1 q2 : Bool), m = L.len - k ∧ k ≤ L.len ∧ (q1 && q29 (L.drop k)) = (q16 vh L.len && q29 L) ∧ (q2 && q60 (L.drop k)) = (q53 vh L.len && q60 L) ∧ St 182 [(1, ptr b1), (2, .bool q1), (3, .bool q2), (160, .slice ao L.len cap), (161, .int .i64 L.len), (162, .int .i64 k)] w0 F [] F [[(b1, .cells ⟨[.int .u8 (vh.k : Int), .int .i64 vh.n, .string (bs vh.s), .slice ao L.len cap]⟩ 131 (0, 0))]] a w') ?_ ?_
    · (refine ⟨L.len, 0, p1, p2, by omega, Nat.zero_le _, by rw [hp1]; rfl, by rw [hp2]; rfl, ?_⟩; refine S.keep ?_; exact zk)
    (clear S; rintro m a w ⟨k, q1, q2, rfl, hkl, hq1, hq2, S⟩)
    revert a; refine go 5 ?_; intro Z hZ a S
    refine q00 S rfl ?_ ?_ <;> intro h
    · revert a; revert Z; refine go 4 ?_; intro Z hZ a S
      (refine wp_seq_k ?_; intro Z hZ)
      (obtain ⟨b8, o8, hao, x, cs1, v1, hx, hc1, hw9, hT1⟩ := TrM.pos hpos (k := k) (by omega); rw [hao] at S; have hxs := q1d.size_get hx; have hdr := q1d.drop_get hx; have hT1c := hT1; obtain ⟨a91, c91, rfl, -⟩ := hT1c; have hw9c := hw9.1; subst hw9c; (simp only [List.cons_append, qaG] at hc1))
      revert a; refine go 3 ?_; intro a S
      (refine q0a S rfl rfl rfl rfl ?_; clear S a; intro b10 a w S)
      (refine wso S rfl rfl ?_; clear S; intro w S)
      revert a; revert Z; refine go 4 ?_; intro Z hZ a S
      (refine wc0 S (ih x.2.size (by omega) x.1 x.2 _ (Nat.le_refl _) ⟨_, rfl, hT1, hw9.2⟩) ?_; clear S a; intro v a w hv S; subst hv)
      revert a; revert Z; refine go 10 ?_; intro a S
      refine wgd S ?_ ?_
      · (clear S; intro h S)
        revert a; refine go 4 ?_; intro a S
        refine wgd S ?_ ?_
        · (clear S; intro h S)
          revert a; revert Z; refine go 10 ?_; intro a S
          change ∃ m', _ ∧ _
          exact qjb
        (clear S a; intro h a S)
        revert a; revert Z; refine go 9 ?_; intro a S
        change ∃ m', _ ∧ _
        exact qjb
      (clear S a; intro h a S)
      revert a; refine go 3 ?_; intro a S
      refine wgd S ?_ ?_
      · (clear S; intro h S)
        revert a; revert Z; refine go 10 ?_; intro a S
        change ∃ m', _ ∧ _
        exact qjb
      (clear S a; intro h a S)
      revert a; revert Z; refine go 9 ?_; intro a S
      change ∃ m', _ ∧ _
      exact qjb
    (refine wp_exit ?_; conv => whnf)
    clear hZ Z
    revert a; revert Z; refine go 8 ?_; intro a S
    refine wp_ret (fr2 S Tryz.results85 ?_)
    (rw [← hq1, ← hq2, q1d.drop_len (by omega)]; rw [show q29 .nil = true from rfl, show q60 .nil = true from rfl, Bool.and_true, Bool.and_true]))
   revert a; refine go 11 ?_; intro a S
   refine q00 S rfl ?_ ?_ <;> intro h
   · revert a; refine go 5 ?_; intro a S
     refine wgd S ?_ ?_
     · (clear S; intro h S)
       revert a; refine go 7 ?_; intro a S
       refine wgd S ?_ ?_
       · (clear S; intro h S)
         revert a; refine go 7 ?_; intro a S
         refine wgd S ?_ ?_
         · (clear S; intro h S)
           revert a; refine go 10 ?_; intro a S
           (refine hZ _ _ ?_)
           exact q2a
         (clear S a; intro h a S)
         revert a; refine go 6 ?_; intro a S
         (refine hZ _ _ ?_)
         exact q2a
       (clear S a; intro h a S)
       revert a; refine go 11 ?_; intro a S
       (refine hZ _ _ ?_)
       exact q2a
     (clear S a; intro h a S)
     revert a; refine go 12 ?_; intro a S
     refine wgd S ?_ ?_
     · (clear S; intro h S)
       revert a; refine go 10 ?_; intro a S
       (refine hZ _ _ ?_)
       exact q2a
     (clear S a; intro h a S)
     revert a; refine go 6 ?_; intro a S
     (refine hZ _ _ ?_)
     exact q2a
   revert a; refine go 5 ?_; intro a S
   refine q00 S rfl ?_ ?_ <;> intro h
   · revert a; refine go 5 ?_; intro a S
     refine wgd S ?_ ?_
     · (clear S; intro h S)
       revert a; refine go 10 ?_; intro a S
       (refine hZ _ _ ?_)
       exact q2a
     (clear S a; intro h a S)
     revert a; refine go 6 ?_; intro a S
     (refine hZ _ _ ?_)
     exact q2a
   revert a; refine go 5 ?_; intro a S
   refine q00 S rfl ?_ ?_ <;> intro h
   · revert a; refine go 3 ?_; intro Z hZ a S
     (refine wc0 S (qrv F vh.s hsb) ?_; clear S a; intro v a w hv S; subst hv)
     revert a; revert Z; refine go 10 ?_; intro a S
     refine wgd S ?_ ?_
     · (clear S; intro h S)
       revert a; refine go 7 ?_; intro a S
       refine wgd S ?_ ?_
       · (clear S; intro h S)
         revert a; refine go 13 ?_; intro a S
         (refine hZ _ _ ?_)
         exact q2a
       (clear S a; intro h a S)
       revert a; refine go 9 ?_; intro a S
       (refine hZ _ _ ?_)
       exact q2a
     (clear S a; intro h a S)
     revert a; refine go 14 ?_; intro a S
     (refine hZ _ _ ?_)
     exact q2a
   revert a; refine go 5 ?_; intro a S
   refine q00 S rfl ?_ ?_ <;> intro h
   · (refine q0k [0, 1, 2, 3, 4, 5, 6, 7, 8, 9, 10, 11, 12] [1, 5, 10] [] (.one 0 (.one 1 (.one 2 (.one 3 (.one 4 (.one 5 (.one 6 (.one 7 (.one 8 (.one 9 (.one 10 (.one 11 (.one 12 (.one 13 (.one 14 .nil))))))))))))))) [b1] S mixed (by kernel_rfl) ?_; clear S; intro w S)
     revert a; refine go 4 ?_; intro a S
     refine St.pt 88 true S rfl ?_ ?_ <;> clear S <;> intro h S
     · revert a; refine go 16 ?_; intro a S
       (refine hZ _ _ ?_)
       exact q2a
     revert a; refine go 16 ?_; intro a S
     (refine hZ _ _ ?_)
     exact q2a
   revert a; refine go 5 ?_; intro a S
   refine q00 S rfl ?_ ?_ <;> intro h
   · (refine q0k [0, 1, 2, 3, 4, 5, 6, 7, 8, 9, 10, 11, 12, 13, 14, 15, 16, 17] [1, 5, 10, 15] [] (.one 0 (.one 1 (.one 2 (.one 3 (.one 4 (.one 5 (.one 6 (.one 7 (.one 8 (.one 9 (.one 10 (.one 11 (.one 12 (.one 13 (.one 14 (.one 15 (.one 16 (.one 17 (.one 18 (.one 19 .nil)))))))))))))))))))) [b1] S mixed (by kernel_rfl) ?_; clear S; intro w S)
     revert a; refine go 4 ?_; intro a S
     refine St.pt 103 true S rfl ?_ ?_ <;> clear S <;> intro h S
     · revert a; refine go 5 ?_; intro a S
       refine St.pt 108 true S rfl ?_ ?_ <;> clear S <;> intro h S
       · revert a; refine go 16 ?_; intro a S
         (refine hZ _ _ ?_)
         exact q2a
       revert a; refine go 16 ?_; intro a S
       (refine hZ _ _ ?_)
       exact q2a
     revert a; refine go 21 ?_; intro a S
     (refine hZ _ _ ?_)
     exact q2a
   revert a; refine go 5 ?_; intro a S
   refine q00 S rfl ?_ ?_ <;> intro h
   · revert a; refine go 3 ?_; intro Z hZ a S
     (refine wc0 S (u5f F vh.s hsb) ?_; clear S a; intro v a w hv S; subst hv)
     revert a; revert Z; refine go 9 ?_; intro a S
     (refine q0k [0, 1, 2, 3, 4, 6, 7, 8, 9, 10, 12, 13, 14, 15, 16, 17, 18, 19, 20, 21, 22, 23, 24, 25, 26, 27, 28, 29, 30, 31] [1, 18, 23, 29] [] (.one 0 (.one 1 (.one 2 (.one 3 (.one 4 (.one 28 (.one 29 (.one 30 (.one 31 (.one 5 (.one 6 (.one 7 (.one 8 (.one 9 (.one 10 (.one 11 (.one 12 (.one 13 (.one 14 (.one 15 (.one 16 (.one 17 (.one 18 (.one 19 (.one 20 (.one 21 (.one 22 (.one 23 (.one 24 (.one 25 (.one 26 (.one 27 (.one 32 (.one 33 .nil)))))))))))))))))))))))))))))))))) [b1] S mixed (by kernel_rfl) ?_; clear S; intro w S)
     revert a; refine go 4 ?_; intro a S
     refine St.pt 130 true S rfl ?_ ?_ <;> clear S <;> intro h S
     · revert a; refine go 7 ?_; intro a S
       (refine wc0 S (qvv F (cutA vh.s)) ?_; clear S a; intro v a w hv S; subst hv)
       revert a; refine go 3 ?_; intro a S
       refine St.pt 134 true S rfl ?_ ?_ <;> clear S <;> intro h S
       · revert a; refine go 2 ?_; intro a S
         refine St.pt 136 true S rfl ?_ ?_ <;> clear S <;> intro h S
         · revert a; refine go 3 ?_; intro a S
           (refine wc0 S (qvv F (cutB vh.s)) ?_; clear S a; intro v a w hv S; subst hv)
           revert a; refine go 3 ?_; intro a S
           refine St.pt 140 false S rfl ?_ ?_ <;> clear S <;> intro h S
           · revert a; refine go 3 ?_; intro a S
             refine St.pt 143 true S rfl ?_ ?_ <;> clear S <;> intro h S
             · revert a; refine go 5 ?_; intro a S
               refine St.pt 148 true S rfl ?_ ?_ <;> clear S <;> intro h S
               · revert a; refine go 13 ?_; intro a S
                 (refine hZ _ _ ?_)
                 exact q2a
               revert a; refine go 13 ?_; intro a S
               (refine hZ _ _ ?_)
               exact q2a
             revert a; refine go 18 ?_; intro a S
             (refine hZ _ _ ?_)
             exact q2a
           revert a; refine go 21 ?_; intro a S
           (refine hZ _ _ ?_)
           exact q2a
         revert a; refine go 1 ?_; intro a S
         (refine q5a S rfl rfl (qcz S rfl rfl rfl) (kwa S) rfl rfl ?_; clear S a; intro a S)
         revert a; refine go 5 ?_; intro a S
         refine St.pt 143 true S rfl ?_ ?_ <;> clear S <;> intro h S
         · revert a; refine go 5 ?_; intro a S
           refine St.pt 148 true S rfl ?_ ?_ <;> clear S <;> intro h S
           · revert a; refine go 13 ?_; intro a S
             (refine hZ _ _ ?_)
             exact q2a
           revert a; refine go 13 ?_; intro a S
           (refine hZ _ _ ?_)
           exact q2a
         revert a; refine go 18 ?_; intro a S
         (refine hZ _ _ ?_)
         exact q2a
       revert a; refine go 3 ?_; intro a S
       (refine q5a S rfl rfl (q8d S rfl rfl rfl) (kwa S) rfl rfl ?_; clear S a; intro a S)
       revert a; refine go 23 ?_; intro a S
       (refine hZ _ _ ?_)
       exact q2a
     revert a; refine go 5 ?_; intro a S
     (refine q5a S rfl rfl (qcz S rfl rfl rfl) (kwa S) rfl rfl ?_; clear S a; intro a S)
     revert a; refine go 5 ?_; intro a S
     (refine q5a S rfl rfl (q8d S rfl rfl rfl) (kwa S) rfl rfl ?_; clear S a; intro a S)
     revert a; refine go 23 ?_; intro a S
     (refine hZ _ _ ?_)
     exact q2a
   revert a; refine go 3 ?_; intro a S
   (refine hZ _ _ ?_)
   (apply Exists.intro; apply Exists.intro; refine ⟨?_, ?_, ?_⟩; rotate_left 2; (refine S.keep ?_; exact zk); (clear S hZ Z ih; first | (exact absurd ((by assumption : cutC vh.s = true).symm.trans (by assumption : cutC vh.s = false)) (by decide)) | (unfold q16; first | (rw [if_neg (by omega), if_neg (by omega), if_neg (by omega), if_neg (by omega), if_neg (by omega), if_pos (by omega), (by assumption : cutC vh.s = false), decide_eq_false (fun h9 : vh.s ≠ q2d ∧ vh.s ≠ q1f => h9.1 (by assumption))]; simp) | (rw [if_pos (by omega)] <;> (rw [Bool.eq_iff_iff]; simp [*, q2d, q1f] <;> omega)) | (rw [if_neg (by omega), if_pos (by omega)] <;> (rw [Bool.eq_iff_iff]; simp [*, q2d, q1f] <;> omega)) | (rw [if_neg (by omega), if_neg (by omega), if_pos (by omega)] <;> (rw [Bool.eq_iff_iff]; simp [*, q2d, q1f] <;> omega)) | (rw [if_neg (by omega), if_neg (by omega), if_neg (by omega), if_pos (by omega)] <;> (rw [Bool.eq_iff_iff]; simp [*, q2d, q1f] <;> omega)) | (rw [if_neg (by omega), if_neg (by omega), if_neg (by omega), if_neg (by omega), if_pos (by omega)] <;> (rw [Bool.eq_iff_iff]; simp [*, q2d, q1f] <;> omega)) | (rw [if_neg (by omega), if_neg (by omega), if_neg (by omega), if_neg (by omega), if_neg (by omega), if_pos (by omega)] <;> (rw [Bool.eq_iff_iff]; simp [*, q2d, q1f] <;> omega)) | (rw [if_neg (by omega), if_neg (by omega), if_neg (by omega), if_neg (by omega), if_neg (by omega), if_neg (by omega)]) | (rw [if_neg (by omega), if_neg (by omega), if_neg (by omega), if_neg (by omega)]) | done)); (clear S hZ Z ih; first | (exact absurd ((by assumption : cutC vh.s = true).symm.trans (by assumption : cutC vh.s = false)) (by decide)) | (unfold q53; first | (rw [if_pos (by omega)] <;> (rw [Bool.eq_iff_iff]; simp [*, q2d, q1f] <;> omega)) | (rw [if_neg (by omega), if_pos (by omega)] <;> (rw [Bool.eq_iff_iff]; simp [*, q2d, q1f] <;> omega)) | (rw [if_neg (by omega), if_neg (by omega), if_pos (by omega)] <;> (rw [Bool.eq_iff_iff]; simp [*, q2d, q1f] <;> omega)) | (rw [if_neg (by omega), if_neg (by omega), if_neg (by omega), if_pos (by omega)] <;> (rw [Bool.eq_iff_iff]; simp [*, q2d, q1f] <;> omega)) | (rw [if_neg (by omega), if_neg (by omega), if_neg (by omega), if_neg (by omega), if_pos (by omega)] <;> (rw [Bool.eq_iff_iff]; simp [*, q2d, q1f] <;> omega)) | (rw [if_neg (by omega), if_neg (by omega), if_neg (by omega), if_neg (by omega), if_neg (by omega), if_pos (by omega)] <;> (rw [Bool.eq_iff_iff]; simp [*, q2d, q1f] <;> omega)) | (rw [if_neg (by omega), if_neg (by omega), if_neg (by omega), if_neg (by omega), if_neg (by omega), if_neg (by omega)]) | (rw [if_neg (by omega), if_neg (by omega), if_neg (by omega), if_neg (by omega)]) | done))))
  revert a; refine go 5 ?_; intro a S
  refine wgd S ?_ ?_
  · (clear S; intro h S)
    revert a; refine go 7 ?_; intro a S
    refine wgd S ?_ ?_
    · (clear S; intro h S)
      revert a; refine go 11 ?_; intro a S
      (refine hZ _ _ ?_)
      (apply Exists.intro; (refine S.keep ?_; exact zk))
    (clear S a; intro h a S)
    revert a; refine go 7 ?_; intro a S
    (refine hZ _ _ ?_)
    (apply Exists.intro; (refine S.keep ?_; exact zk))
  (clear S a; intro h a S)
  revert a; refine go 12 ?_; intro a S
  (refine hZ _ _ ?_)
  (apply Exists.intro; (refine S.keep ?_; exact zk))
theorem qjr {p : Prop} (h : p := by (congr 1; unfold q2e; first | (rw [if_pos (by omega)]; done) | (rw [if_neg (by omega), if_pos (by assumption)]; done) | (rw [if_neg (by omega), if_neg (by rw [(by assumption : (q16 vh L.len && q29 L) = true)]; decide), if_pos (by assumption)]; done) | (rw [if_neg (by omega), if_neg (by rw [(by assumption : (q16 vh L.len && q29 L) = true)]; decide), if_neg (by rw [(by assumption : (q53 vh L.len && q60 L) = true)]; decide)]; done))) : p := h
theorem qcd (F : q01) (vh : VH) (L : Vf) (cs : List Value) (hV : VaC F cs vh L) : Ct Tryz.prog 55 [.agg ⟨cs⟩] F [] (fun _ _ u => u = .int .i64 (q2e vh L)) := by
 have hV0 := hV
 obtain ⟨v, rfl, ⟨ao, cap, rfl, hcap, hpos⟩, hsb⟩ := hV
 refine Ct.enter Tryz.func55 rfl Tryz.ntmps55 rfl fun w0 a S => ?_
 refine q1i fun Z hZ => ?_
 (refine wbx S ?_; clear S a; intro b1 a w S)
 revert a; revert Z; refine go 6 ?_; intro Z hZ Z hZ a S
 (refine wc0 S (u3l F L.size vh L _ 65 (Nat.le_refl _) (by omega) (by omega) hV0) ?_; clear S a; intro v a w hv S; subst hv)
 revert a; revert Z; refine go 3 ?_; intro a S
 refine q00 S rfl ?_ ?_ <;> intro h
 ·revert a; refine go 4 ?_; intro a S
  refine wp_ret (fr1 S Tryz.results55 ?_)
  exact qjr
 revert a; revert Z; refine go 5 ?_; intro Z hZ Z hZ a S
 (refine wc0 S (u2z F L.size vh L _ (Nat.le_refl _) hV0) ?_; clear S a; intro v a w hv S; subst hv)
 revert a; revert Z; refine go 14 ?_; intro a S
 refine q00 S rfl ?_ ?_ <;> intro h
 ·revert a; refine go 4 ?_; intro a S
  refine wp_ret (fr1 S Tryz.results55 ?_)
  exact qjr
 revert a; refine go 6 ?_; intro a S
 refine q00 S rfl ?_ ?_ <;> intro h
 ·revert a; refine go 4 ?_; intro a S
  refine wp_ret (fr1 S Tryz.results55 ?_)
  exact qjr
 revert a; revert Z; refine go 6 ?_; intro a S
 refine wp_ret (fr1 S Tryz.results55 ?_)
 exact qjr
def cI (a b : Int) : Int := if a < b then -1 else if b < a then 1 else 0
def cS (s t : List UInt8) : Int := if Op.bytesLess s t = true then -1 else if s = t then 0 else 1
def or2 (a b : Int) : Int := if a ≠ 0 then a else b
def qap : Nat → List UInt8 → List UInt8 → Int
 | 0, _, _ => 0
 | n + 1, s, t => if s.take 1 = [45] ∧ t.take 1 = [45] then qap n (t.drop 1) (s.drop 1) else if s.take 1 = [45] then -1 else if t.take 1 = [45] then 1 else or2 (cI s.length t.length) (cS s t)
def qa0 (s t : List UInt8) : Int := qap (s.length + t.length + 1) s t
def cmpL : Vf → Vf → Int
 | .nil, .nil => 0
 | .nil, .cons _ _ _ => -1
 | .cons _ _ _, .nil => 1
 | .cons h L r, .cons h2 L2 r2 => or2 (if h.k ≠ h2.k then cI h.k h2.k else if h.k = 3 then qa0 h.s h2.s else if h.k = 4 then cS h.s h2.s else or2 (cI h.n h2.n) (or2 (cS h.s h2.s) (cmpL L L2))) (cmpL r r2)
def qan (h : VH) (L : Vf) (h2 : VH) (L2 : Vf) : Int := if h.k ≠ h2.k then cI h.k h2.k else if h.k = 3 then qa0 h.s h2.s else if h.k = 4 then cS h.s h2.s else or2 (cI h.n h2.n) (or2 (cS h.s h2.s) (cmpL L L2))
theorem q3n (h : VH) (L r : Vf) (h2 : VH) (L2 r2 : Vf) : cmpL (.cons h L r) (.cons h2 L2 r2) = or2 (qan h L h2 L2) (cmpL r r2) := rfl
def q3q (v : VH × Vf) : Bool := decide (q2e v.1 v.2 = 0)
def q40 (a b : VH × Vf) : Int := if q3q a = true ∧ q3q b = true then qan a.1 a.2 b.1 b.2 else if q3q a = q3q b then 0 else if q3q a = true then -1 else 1
abbrev Vv := VH × Vf
def qqt (h h2 : VH) : Bool := decide (h.k = h2.k) && (decide (h.n = h2.n) && decide (h.s = h2.s))
def q15 : Vf → Vf → Bool
 | .nil, .nil => true
 | .cons h L r, .cons h2 L2 r2 => (qqt h h2 && q15 L L2) && q15 r r2
 | _, _ => false
def qhd (x y : Vv) : Bool := qqt x.1 y.1 && q15 x.2 y.2
theorem qef {h h2 : VH} : qqt h h2 = true ↔ h = h2 := by
 unfold qqt
 simp only [Bool.and_eq_true, decide_eq_true_eq]
 obtain ⟨a, b, c⟩ := h
 obtain ⟨a2, b2, c2⟩ := h2
 simp
theorem q11 : ∀ {l m : Vf}, q15 l m = true ↔ l = m
 | .nil, .nil => by simp [q15]
 | .nil, .cons _ _ _ => by simp [q15]
 | .cons _ _ _, .nil => by simp [q15]
 | .cons h L r, .cons h2 L2 r2 => by
  unfold q15
  rw [Bool.and_eq_true, Bool.and_eq_true, qef, q11 (l := L), q11 (l := r)]
  constructor
  ·rintro ⟨⟨rfl, rfl⟩, rfl⟩; rfl
  ·intro e; cases e; exact ⟨⟨rfl, rfl⟩, rfl⟩
theorem qff : ∀ {l m : Vf}, l.len ≠ m.len → q15 l m = false
 | .nil, .nil, h => absurd rfl h
 | .nil, .cons _ _ _, _ => rfl
 | .cons _ _ _, .nil, _ => rfl
 | .cons h L r, .cons h2 L2 r2, hn => by
  unfold q15
  rw [qff (l := r) (m := r2) (fun e => hn (by show r.len + 1 = r2.len + 1; rw [e])), Bool.and_false]
theorem qb2 {l m : Vf} {k : Nat} {x y : Vv} (hx : l.get? k = some x) (hy : m.get? k = some y) : q15 (l.drop k) (m.drop k) = (qhd x y && q15 (l.drop (k + 1)) (m.drop (k + 1))) := by
 rw [q1d.drop_get hx, q1d.drop_get hy]; rfl
class qtu (G : List Grp) (b : Nat) (o : outParam Obj) (R : outParam (List Grp)) : Prop where h : ∃ G1 G2, G = G1 ++ [(b, o)] :: G2 ∧ R = G1 ++ G2
instance {b : Nat} {o : Obj} {G : List Grp} : qtu ([(b, o)] :: G) b o G := ⟨[], G, rfl, rfl⟩
instance {b : Nat} {o : Obj} {g : Grp} {G R : List Grp} [h : qtu G b o R] : qtu (g :: G) b o (g :: R) := by
 obtain ⟨G1, G2, e, hR⟩ := h.h
 exact ⟨g :: G1, G2, by rw [e]; rfl, by rw [hR]; rfl⟩
section
variable {n : Sz} {L : List (Nat × Value)} {w0 : World} {F0 : q01} {K0 : List Nat} {a : Act} {w : World}
theorem St.pullB (b : Nat) {G R : List Grp} {F : q01} {o : Obj} [h : qtu G b o R] (S : St n L w0 F0 K0 F G a w) : St n L w0 F0 K0 F ([(b, o)] :: R) a w := by
 obtain ⟨G1, G2, rfl, rfl⟩ := h.h
 exact ⟨S.fr, S.tr.perm (by first | exact List.Perm.flatten List.perm_middle | exact (List.Perm.flatten List.perm_middle).symm)⟩
theorem qui {G2 : List Grp} : ∀ (l : List (Nat × Obj)) {F : q01}, St n L w0 F0 K0 F ((l.map fun p => [p]) ++ G2) a w → ∃ F', (∀ b o, F b = some o → F' b = some o) ∧ (∀ p ∈ l, F' p.1 = some p.2) ∧ St n L w0 F0 K0 F' G2 a w
 | [], F, S => ⟨F, fun _ _ h => h, fun p hp => (by cases hp), S⟩
 | p :: l, F, S => by
  have hle := q2h (G1 := []) S
  have S2 := St.freeze (G1 := []) S
  obtain ⟨F', h1, h2, S3⟩ := qui l S2
  refine ⟨F', fun b o h => h1 _ _ (hle _ _ h), fun q hq => ?_, S3⟩
  rcases List.mem_cons.1 hq with rfl | hq
  ·exact h1 _ _ (q01.add_new (p := q) (List.mem_singleton.2 rfl) (by simp))
  ·exact h2 q hq
theorem qfp {G2 : List Grp} {p : Nat × Obj} {F : q01} (S : St n L w0 F0 K0 F ([p] :: G2) a w) : ∃ F', (∀ b o, F b = some o → F' b = some o) ∧ F' p.1 = some p.2 ∧ St n L w0 F0 K0 F' G2 a w :=
 ⟨_, q2h (G1 := []) S, q01.add_new (p := p) (List.mem_singleton.2 rfl) (by simp), St.freeze (G1 := []) S⟩
end
theorem qyh {F : q01} {b : Nat} {cs : List Value} {e : TypeId} (h : F b = some (.cells ⟨cs⟩ e (0, 0))) : q2v F b 0 cs := fun j u hj => ⟨_, _, _, h, by simpa using hj⟩
theorem qi1 {α : Type} {F : q01} {b sz : Nat} {cs : List Value} {e : TypeId} {R : q01 → α → List Value → Prop} {l : List α} (h : F b = some (.cells ⟨cs⟩ e (0, 0))) (hl : LiC F sz R cs l) (hn : l.length ≤ 140737488355328) : LiM F sz R (.slice (some ⟨b, 0, none⟩) l.length l.length) l :=
 ⟨some ⟨b, 0, none⟩, l.length, rfl, ⟨Nat.le_refl _, hn⟩, fun hp => ⟨b, 0, rfl, fun k x hx => by
  obtain ⟨cs2, h5, h6, h7⟩ := hl.get hx
  exact ⟨cs2, fun j u hj => ⟨_, _, _, h, by have := h5 j u hj; simpa [Nat.zero_add] using this⟩, h6, h7⟩⟩⟩
theorem drop_at {α : Type} {l : List α} {k : Nat} {x : α} (h : l[k]? = some x) : l.drop k = x :: l.drop (k + 1) := by
 obtain ⟨h1, h2⟩ := List.getElem?_eq_some_iff.1 h
 rw [List.drop_eq_getElem_cons h1, h2]
theorem qvd {p : Prop} (h : p := by (rw [hfp]; first | (rw [qd9 (by omega), if_pos (by assumption)]; done) | (rw [qj4 (by omega)]; done))) : p := h
theorem u4f (F : q01) (v : Value) (n : Nat) (C : Nat → List Value → Prop) (h : Sq F 4 v n C) (fid : FuncId) (fi ca : List Value) [hfn : q0b Tryz.prog fid] (p : Nat → Bool)
  (hcl : ∀ k cs, k < n → C k cs → Ct Tryz.prog fid (fi ++ [.agg ⟨cs⟩] ++ ca) F [] (fun _ _ u => u = .bool (p k))) :
  Ct Tryz.prog 142 [v, .func (.func fid) ⟨fi⟩ ⟨ca⟩] F [] (fun _ _ u => u = .int .i64 (qyo p n)) := by
 obtain ⟨ao, cap, rfl, hcap, hpos⟩ := h
 refine Ct.enter Tryz.func142 rfl Tryz.ntmps142 rfl fun w0 a S => ?_
 revert a; refine go 12 ?_; intro Z hZ a S
 refine q04 (fun m a w' => ∃ (k : Nat), m = n - k ∧ k ≤ n ∧ qyo p n = qlk p k (n - k) ∧ St 19 [(0, .slice ao n cap), (1, .func (.func fid) ⟨fi⟩ ⟨ca⟩), (7, .int .i64 n), (8, .int .i64 k)] w0 F [] F [] a w') ?_ ?_
 ·(refine ⟨n, 0, by omega, Nat.zero_le _, rfl, ?_⟩; refine S.keep ?_; exact zk)
 (clear S; rintro m a w ⟨k, rfl, hkl, hfp, S⟩)
 revert a; refine go 5 ?_; intro Z hZ a S
 refine q00 S rfl ?_ ?_ <;> intro h
 ·revert a; revert Z; refine go 9 ?_; intro Z hZ a S
  (refine wp_seq_k ?_; intro Z hZ)
  (obtain ⟨b8, o8, rfl, cs1, hc1, hl1, hC⟩ := Sq.pos hpos (k := k) (by omega))
  revert a; refine go 5 ?_; intro a S
  (refine wv S (q18 S rfl rfl hc1 hl1) ?_; clear S a; intro a S)
  (refine wc0 S (hcl k _ (by omega) hC) ?_; clear S a; intro v a w hv S; subst hv)
  revert a; revert Z; refine go 2 ?_; intro a S
  refine q00 S rfl ?_ ?_ <;> intro h
  ·revert a; refine go 5 ?_; intro a S
   refine wp_ret (fr1 S Tryz.results142 ?_)
   exact qvd
  revert a; revert Z; refine go 6 ?_; intro a S
  change ∃ m', _ ∧ _
  (refine ⟨n - (k + 1), by omega, k + 1, rfl, by omega, ?_, ?_⟩; rotate_left 1; (refine S.keep ?_; exact zk); rw [hfp, qd9 (by omega), if_neg (by rw [(by assumption : p k = false)]; decide)])
 (refine wp_exit ?_; conv => whnf)
 clear hZ Z
 revert a; revert Z; refine go 5 ?_; intro a S
 refine wp_ret (fr1 S Tryz.results142 ?_)
 exact qvd
theorem u57 (F : q01) (v : Value) (n : Nat) (C : Nat → List Value → Prop) (h : Sq F 4 v n C) (fid : FuncId) (fi ca : List Value) [hfn : q0b Tryz.prog fid] (p : Nat → Bool)
  (hcl : ∀ k cs, k < n → C k cs → Ct Tryz.prog fid (fi ++ [.agg ⟨cs⟩] ++ ca) F [] (fun _ _ u => u = .bool (p k))) :
  Ct Tryz.prog 105 [v, .func (.func fid) ⟨fi⟩ ⟨ca⟩] F [] (fun _ _ u => u = .bool (qx1 p n)) := by
 have hc := u4f F v n C h fid fi ca p hcl
 obtain ⟨ao, cap, rfl, hcap, hpos⟩ := h
 refine Ct.enter Tryz.func105 rfl Tryz.ntmps105 rfl fun w0 a S => ?_
 revert a; refine go 7 ?_; intro Z hZ a S
 (refine wc0 S (hc) ?_; clear S a; intro v a w hv S; subst hv)
 revert a; revert Z; refine go 4 ?_; intro a S
 refine wp_ret (fr1 S Tryz.results105 ?_)
 rfl
end Go.Proofs.YtbhipiepfclneaaGreatDoor
namespace Go.Wk
open Go
section
variable {P : Program} {n : Sz} {L : List (Nat × Value)} {w0 : World} {F0 : q01} {K0 : List Nat} {F : q01} {G : List Grp} {a : Act} {w : World} {o : Oper}
theorem qpt {x y : Operand} {s u : List UInt8} {t yt : TypeId} (S : St n L w0 F0 K0 F G a w) (ho : o.op = .binOp .gtr t x y yt) (hx : ev L x = some (.string (bs s))) (hy : ev L y = some (.string (bs u))) : SV P o a w (.bool (!Op.bytesLess s u && !(s == u))) := by
 have h1 : (eqGuard .gtr t x y (.string (bs s)) (.string (bs u))).run P w = .ok () w := by unfold eqGuard; rfl
 unfold SV execOp
 rw [ho]
 simp [S.fr.eval hx, S.fr.eval hy, h1, binOp, Op.stringOp, qql]
end
