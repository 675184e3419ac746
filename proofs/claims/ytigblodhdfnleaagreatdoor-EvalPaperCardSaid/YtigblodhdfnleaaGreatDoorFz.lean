/- The walks of divided, Div, Mod of package big. What package big's calls come to, as the document's numbers (for seats in which the document's own walk of them has no part). Walks: own, inside: copies of values, how many values there are in one. What values stand like, and what expressions come to where no table is at hand, in plain Lean. Own blocks that are not written any more. -/
import Derived.Test.YtigblodhdfnleaaGreatDoorZ
import Derived.Test.YtigblodhdfnleaaGreatDoorVa
import Derived.Test.YtigblodhdfnleaaGreatDoorDeV
namespace Go.Proofs.YtigblodhdfnleaaGreatDoor
open Go Go.Wk Go.Num
set_option linter.unusedSimpArgs false
set_option linter.unusedVariables false
attribute [local irreducible] Go.wpList Go.Code.wp Go.wpStill Go.Wk.wpPre Go.bodyPost Go.Calls Go.Wk.Ct Go.Wk.OwnS
attribute [local irreducible] Go.Wk.wpG Go.Wk.wpM

def divE (s t : List UInt8) : Int := if bothE s t = 0 then (if decV (bodyS t) = 0 then 81 else 0) else bothE s t
def zeroB : Value := .agg ⟨[.bool false, .slice none 0 0]⟩
def DivV (F : Heap) (u : Value) (s t : List UInt8) : Prop :=
  if divE s t = 0 then ∃ q r, u = .tuple ⟨[.agg ⟨[.bool (negS s != negS t), q]⟩, .agg ⟨[.bool (negS s), r]⟩, .int .i64 0]⟩ ∧ Mag F q (decV (bodyS s) / decV (bodyS t)) ∧ Mag F r (decV (bodyS s) % decV (bodyS t))
  else u = .tuple ⟨[zeroB, zeroB, .int .i64 (divE s t)]⟩
set_option maxHeartbeats 2000000 in
theorem dividedErr (s t : List UInt8) (F : Heap) (hs : s.length ≤ 1000000) (ht : t.length ≤ 1000000) (hbe : ¬ bothE s t = 0) : Ct Tryz.prog 77 [.string (bs s), .string (bs t)] F [] (fun F' _ u => DivV F' u s t) := by
  have hde : divE s t = bothE s t := by unfold divE; rw [if_neg hbe]
  refine Ct.enter Tryz.func77 rfl Tryz.ntmps77 rfl fun w0 a S => ?_
  refine wp_sr fun Kq1 hKq1 => ?_
  (refine wpl_alloc S rfl rfl rfl rfl ?_; clear S a; intro b4 a w S)
  (refine wpl_alloc S rfl rfl rfl rfl ?_; clear S a; intro b5 a w S)
  (refine wpl_p S rfl rfl rfl ?_; clear S a; intro a S)
  (refine wpList_nil (hKq1 _ _ (wp_sr fun Kq2 hKq2 => ?_)); try clear hKq1 Kq1)
  iterate 2 (refine wpl_p S rfl rfl rfl ?_; clear S a; intro a S)
  (refine wpl_callF S rfl rfl rfl rfl rfl rfl (bothCt s t F (by omega) (by omega)) rfl ?_; clear S a; intro v F1 a w hv hF1 S; rw [BothV, if_neg hbe] at hv; subst hv)
  iterate 4 (refine wpl_p S rfl rfl rfl ?_; clear S a; intro a S)
  (refine wpl_alloc S rfl rfl rfl rfl ?_; clear S a; intro b7 a w S)
  (refine wpl_alloc S rfl rfl rfl rfl ?_; clear S a; intro b8 a w S)
  iterate 2 (refine wpl_storeO S rfl rfl rfl rfl rfl (by rfl) (by simp [Value.cells, Value.oneCell', splice]) (by rfl) ?_; clear S; intro w S)
  (refine wpl_p S rfl rfl rfl ?_; clear S a; intro a S)
  (refine wpList_nil (hKq2 _ _ (wp_seq_k fun Kq3 hKq3 => ?_)); try clear hKq2 Kq2)
  refine wp_block ?_
  refine wp_sr fun Kq4 hKq4 => ?_
  iterate 3 (refine wpl_p S rfl rfl rfl ?_; clear S a; intro a S)
  (refine wpList_nil (hKq4 _ _ ?_); try clear hKq4 Kq4)
  refine wpc_split S rfl (fun h => ?_) (fun h => ?_)
  · (skip; (try simp only [tq] at h))
    refine wp_sr fun Kq5 hKq5 => ?_
    iterate 2 (refine wpl_b S rfl rfl rfl ?_; clear S a; intro a S)
    (refine wpl_p S rfl rfl rfl ?_; clear S a; intro a S)
    iterate 2 (refine wpl_storeO S rfl rfl rfl rfl rfl (by rfl) (by simp [Value.cells, Value.oneCell', splice]) (by rfl) ?_; clear S; intro w S)
    (refine wpl_p S rfl rfl rfl ?_; clear S a; intro a S)
    (refine wpList_nil (hKq5 _ _ ?_); try clear hKq5 Kq5)
    refine wp_ret (fin_ret S (results3 Tryz.results77 (RV.cellO S rfl (by rfl)) (RV.cellO S rfl (by rfl)) (RV.tmp S rfl)) ?_)
    (unfold DivV; rw [if_neg (by rw [hde]; exact hbe), hde]; rfl)
  (skip; (try simp only [tq] at h); exact absurd h hbe)
set_option maxHeartbeats 2000000 in
theorem dividedZero (s t : List UInt8) (F : Heap) (hs : s.length ≤ 1000000) (ht : t.length ≤ 1000000) (hbe : bothE s t = 0) (h0 : decV (bodyS t) = 0) : Ct Tryz.prog 77 [.string (bs s), .string (bs t)] F [] (fun F' _ u => DivV F' u s t) := by
  have hde : divE s t = 81 := by unfold divE; rw [if_pos hbe, if_pos h0]
  have hn0 : nd 1000000000 (decV (bodyS t)) = 0 := by rw [h0, nd_zero]
  refine Ct.enter Tryz.func77 rfl Tryz.ntmps77 rfl fun w0 a S => ?_
  refine wp_sr fun Kq1 hKq1 => ?_
  (refine wpl_alloc S rfl rfl rfl rfl ?_; clear S a; intro b4 a w S)
  (refine wpl_alloc S rfl rfl rfl rfl ?_; clear S a; intro b5 a w S)
  (refine wpl_p S rfl rfl rfl ?_; clear S a; intro a S)
  (refine wpList_nil (hKq1 _ _ (wp_sr fun Kq2 hKq2 => ?_)); try clear hKq1 Kq1)
  iterate 2 (refine wpl_p S rfl rfl rfl ?_; clear S a; intro a S)
  (refine wpl_callF S rfl rfl rfl rfl rfl rfl (bothCt s t F (by omega) (by omega)) rfl ?_; clear S a; intro v F1 a w hv hF1 S; rw [BothV, if_pos hbe] at hv; obtain ⟨p, q, rfl, hp, hq⟩ := hv; have hp0 := hp; have hq0 := hq; obtain ⟨po, pc, rfl, -, -⟩ := hp0; obtain ⟨qo, qc, rfl, -, -⟩ := hq0)
  iterate 4 (refine wpl_p S rfl rfl rfl ?_; clear S a; intro a S)
  (refine wpl_alloc S rfl rfl rfl rfl ?_; clear S a; intro b7 a w S)
  (refine wpl_alloc S rfl rfl rfl rfl ?_; clear S a; intro b8 a w S)
  iterate 2 (refine wpl_storeO S rfl rfl rfl rfl rfl (by rfl) (by simp [Value.cells, Value.oneCell', splice]) (by rfl) ?_; clear S; intro w S)
  (refine wpl_p S rfl rfl rfl ?_; clear S a; intro a S)
  (refine wpList_nil (hKq2 _ _ (wp_seq_k fun Kq3 hKq3 => ?_)); try clear hKq2 Kq2)
  refine wp_block ?_
  refine wp_sr fun Kq4 hKq4 => ?_
  iterate 3 (refine wpl_p S rfl rfl rfl ?_; clear S a; intro a S)
  (refine wpList_nil (hKq4 _ _ ?_); try clear hKq4 Kq4)
  refine wpc_split S rfl (fun h => ?_) (fun h => ?_)
  · (skip; (try simp only [tq] at h); exact absurd trivial h)
  (skip; (try simp only [tq] at h))
  refine wp_sr fun Kq5 hKq5 => ?_
  (refine wpl_f S rfl rfl rfl ?_; clear S a; intro a S)
  (refine wpl_l S rfl rfl rfl ?_; clear S a; intro a S)
  (refine wpl_n S rfl rfl rfl ?_; clear S a; intro a S)
  iterate 2 (refine wpl_p S rfl rfl rfl ?_; clear S a; intro a S)
  (refine wpList_nil (hKq5 _ _ ?_); try clear hKq5 Kq5)
  refine wpc_split S rfl (fun h => ?_) (fun h => ?_)
  · (skip; (try simp only [tq] at h))
    refine wp_sr fun Kq6 hKq6 => ?_
    iterate 2 (refine wpl_b S rfl rfl rfl ?_; clear S a; intro a S)
    iterate 2 (refine wpl_storeO S rfl rfl rfl rfl rfl (by rfl) (by simp [Value.cells, Value.oneCell', splice]) (by rfl) ?_; clear S; intro w S)
    (refine wpl_p S rfl rfl rfl ?_; clear S a; intro a S)
    (refine wpList_nil (hKq6 _ _ ?_); try clear hKq6 Kq6)
    refine wp_ret (fin_ret S (results3 Tryz.results77 (RV.cellO S rfl (by rfl)) (RV.cellO S rfl (by rfl)) (RV.tmp S rfl)) ?_)
    (unfold DivV; rw [if_neg (by rw [hde]; decide), hde]; rfl)
  (skip; (try simp only [tq] at h); omega)
set_option maxHeartbeats 2000000 in
theorem dividedOk (s t : List UInt8) (F : Heap) (hs : s.length ≤ 1000000) (ht : t.length ≤ 1000000) (hbe : bothE s t = 0) (h0 : ¬ decV (bodyS t) = 0) : Ct Tryz.prog 77 [.string (bs s), .string (bs t)] F [] (fun F' _ u => DivV F' u s t) := by
  have hde : divE s t = 0 := by unfold divE; rw [if_pos hbe, if_neg h0]
  have hn0 : nd 1000000000 (decV (bodyS t)) ≠ 0 := fun e => h0 (nd_eq_zero b2 e)
  have hn1 := nd_num (both_ok hbe).1
  have hn2 := nd_num (both_ok hbe).2
  refine Ct.enter Tryz.func77 rfl Tryz.ntmps77 rfl fun w0 a S => ?_
  refine wp_sr fun Kq1 hKq1 => ?_
  (refine wpl_alloc S rfl rfl rfl rfl ?_; clear S a; intro b4 a w S)
  (refine wpl_alloc S rfl rfl rfl rfl ?_; clear S a; intro b5 a w S)
  (refine wpl_p S rfl rfl rfl ?_; clear S a; intro a S)
  (refine wpList_nil (hKq1 _ _ (wp_sr fun Kq2 hKq2 => ?_)); try clear hKq1 Kq1)
  iterate 2 (refine wpl_p S rfl rfl rfl ?_; clear S a; intro a S)
  (refine wpl_callF S rfl rfl rfl rfl rfl rfl (bothCt s t F (by omega) (by omega)) rfl ?_; clear S a; intro v F1 a w hv hF1 S; rw [BothV, if_pos hbe] at hv; obtain ⟨p, q, rfl, hp, hq⟩ := hv; have hp0 := hp; have hq0 := hq; obtain ⟨po, pc, rfl, -, -⟩ := hp0; obtain ⟨qo, qc, rfl, -, -⟩ := hq0)
  iterate 4 (refine wpl_p S rfl rfl rfl ?_; clear S a; intro a S)
  (refine wpl_alloc S rfl rfl rfl rfl ?_; clear S a; intro b7 a w S)
  (refine wpl_alloc S rfl rfl rfl rfl ?_; clear S a; intro b8 a w S)
  iterate 2 (refine wpl_storeO S rfl rfl rfl rfl rfl (by rfl) (by simp [Value.cells, Value.oneCell', splice]) (by rfl) ?_; clear S; intro w S)
  (refine wpl_p S rfl rfl rfl ?_; clear S a; intro a S)
  (refine wpList_nil (hKq2 _ _ (wp_seq_k fun Kq3 hKq3 => ?_)); try clear hKq2 Kq2)
  refine wp_block ?_
  refine wp_sr fun Kq4 hKq4 => ?_
  iterate 3 (refine wpl_p S rfl rfl rfl ?_; clear S a; intro a S)
  (refine wpList_nil (hKq4 _ _ ?_); try clear hKq4 Kq4)
  refine wpc_split S rfl (fun h => ?_) (fun h => ?_)
  · (skip; (try simp only [tq] at h); exact absurd trivial h)
  (skip; (try simp only [tq] at h))
  refine wp_sr fun Kq5 hKq5 => ?_
  (refine wpl_f S rfl rfl rfl ?_; clear S a; intro a S)
  (refine wpl_l S rfl rfl rfl ?_; clear S a; intro a S)
  (refine wpl_n S rfl rfl rfl ?_; clear S a; intro a S)
  iterate 2 (refine wpl_p S rfl rfl rfl ?_; clear S a; intro a S)
  (refine wpList_nil (hKq5 _ _ ?_); try clear hKq5 Kq5)
  refine wpc_split S rfl (fun h => ?_) (fun h => ?_)
  · (skip; (try simp only [tq] at h); omega)
  (skip; (try simp only [tq] at h))
  refine wp_skip ?_
  (refine hKq3 _ _ ?_; try (clear hKq3 Kq3))
  refine wp_sr fun Kq6 hKq6 => ?_
  (refine wpl_f S rfl rfl rfl ?_; clear S a; intro a S)
  (refine wpl_l S rfl rfl rfl ?_; clear S a; intro a S)
  (refine wpl_f S rfl rfl rfl ?_; clear S a; intro a S)
  (refine wpl_l S rfl rfl rfl ?_; clear S a; intro a S)
  (refine wpl_callF S rfl rfl rfl rfl rfl rfl (overCt (decV (bodyS s)) (decV (bodyS t)) _ _ F1 (by omega) (by omega) (by omega) hp hq) rfl ?_; clear S a; intro v2 F2 a w hv2 hF2 S; obtain ⟨q2, r2, rfl, hq2, hr2⟩ := hv2; have hq20 := hq2; have hr20 := hr2; obtain ⟨q2o, q2c, rfl, -, -⟩ := hq20; obtain ⟨r2o, r2c, rfl, -, -⟩ := hr20)
  iterate 5 (refine wpl_p S rfl rfl rfl ?_; clear S a; intro a S)
  (refine wpList_nil (hKq6 _ _ (wp_seq_k fun Kq7 hKq7 => ?_)); try clear hKq6 Kq6)
  (refine wpc_mixM [0, 1, 2, 3, 4, 5, 6, 7, 8, 9, 10] [1, 3, 8] [] (.one 0 (.one 1 (.one 2 (.one 3 (.one 4 (.one 5 (.one 6 (.one 7 (.one 8 (.one 9 (.one 10 (.one 11 (.one 12 (.one 13 .nil)))))))))))))) [b7, b8] S mixed (by kernel_rfl) ?_; clear S; intro w S)
  (refine wpm_f S rfl rfl rfl (want_none _ rfl) rfl rfl ?_; clear S a; intro a S)
  (refine wpm_o b7 S rfl rfl rfl (want_none _ rfl) rfl rfl ?_; clear S a; intro a S)
  (refine wpm_f S rfl rfl rfl (want_none _ rfl) rfl rfl ?_; clear S a; intro a S)
  (refine wpm_o b8 S rfl rfl rfl (want_none _ rfl) rfl rfl ?_; clear S a; intro a S)
  (refine wpm_s S rfl rfl rfl (want_none _ rfl) rfl rfl ?_; clear S a; intro a S)
  (refine wpm_p S rfl rfl rfl (want_none _ rfl) rfl rfl ?_; clear S a; intro a S)
  (refine wpm_b S rfl rfl rfl (want_none _ rfl) rfl rfl ?_; clear S a; intro a S)
  (refine wpm_f S rfl rfl rfl (want_none _ rfl) rfl rfl ?_; clear S a; intro a S)
  (refine wpm_o b7 S rfl rfl rfl (want_none _ rfl) rfl rfl ?_; clear S a; intro a S)
  (refine wpm_p S rfl rfl rfl (want_none _ rfl) rfl rfl ?_; clear S a; intro a S)
  (refine wpm_b S rfl rfl rfl (want_none _ rfl) rfl rfl ?_; clear S a; intro a S)
  refine wpm_eff rfl rfl (kwa S) ?_
  (refine wpl_storeO S rfl rfl rfl rfl rfl (by rfl) (by simp [Value.cells, Value.oneCell', splice]) (by rfl) ?_; clear S; intro w S)
  refine wpList_nil ?_
  refine wpm_eff rfl rfl (kwa S) ?_
  (refine wpl_storeO S rfl rfl rfl rfl rfl (by rfl) (by simp [Value.cells, Value.oneCell', splice]) (by rfl) ?_; clear S; intro w S)
  refine wpList_nil ?_
  refine wpm_eff rfl rfl (kwa S) ?_
  (refine wpl_p S rfl rfl rfl ?_; clear S a; intro a S)
  refine wpList_nil ?_
  (refine wpm_nil (kwa S) (hKq7 _ _ ?_); try clear hKq7 Kq7)
  refine wp_ret (fin_ret S (results3 Tryz.results77 (RV.cellO S rfl (by rfl)) (RV.cellO S rfl (by rfl)) (RV.tmp S rfl)) ?_)
  (unfold DivV; rw [if_pos hde]; exact ⟨_, _, rfl, hq2, hr2⟩)
theorem dividedCt (s t : List UInt8) (F : Heap) (hs : s.length ≤ 1000000) (ht : t.length ≤ 1000000) : Ct Tryz.prog 77 [.string (bs s), .string (bs t)] F [] (fun F' _ u => DivV F' u s t) := by
  by_cases hbe : bothE s t = 0
  · by_cases h0 : decV (bodyS t) = 0
    · exact dividedZero s t F hs ht hbe h0
    · exact dividedOk s t F hs ht hbe h0
  · exact dividedErr s t F hs ht hbe

def divA (s t : List UInt8) : List UInt8 × Int := if divE s t = 0 then showS (negS s != negS t) (decV (bodyS s) / decV (bodyS t)) else ([], divE s t)
def modA (s t : List UInt8) : List UInt8 × Int := if divE s t = 0 then showS (negS s) (decV (bodyS s) % decV (bodyS t)) else ([], divE s t)
theorem divE_ok {s t : List UInt8} (h : divE s t = 0) : bothE s t = 0 ∧ decV (bodyS t) ≠ 0 := by
  unfold divE at h
  split at h
  · rename_i h1; split at h
    · cases h
    · exact ⟨h1, by assumption⟩
  · rename_i h1; exact absurd h h1
set_option maxHeartbeats 2000000 in
theorem bdivCt (s t : List UInt8) (F : Heap) (hT : TabF F) (hs : s.length ≤ 1000000) (ht : t.length ≤ 1000000) : Ct Tryz.prog 42 [.string (bs s), .string (bs t)] F [] (fun _ _ u => u = ansV (divA s t)) := by
  have hdc := dividedCt s t F hs ht
  by_cases hde : divE s t = 0
  · have hn1 := nd_num (both_ok (divE_ok hde).1).1
    have hn3 := nd_mono (Nat.div_le_self (decV (bodyS s)) (decV (bodyS t)))
    simp only [DivV, if_pos hde] at hdc
    refine Ct.enter Tryz.func42 rfl Tryz.ntmps42 rfl fun w0 a S => ?_
    refine wp_sr fun Kq1 hKq1 => ?_
    iterate 2 (refine wpl_p S rfl rfl rfl ?_; clear S a; intro a S)
    (refine wpList_nil (hKq1 _ _ (wp_sr fun Kq2 hKq2 => ?_)); try clear hKq1 Kq1)
    iterate 2 (refine wpl_p S rfl rfl rfl ?_; clear S a; intro a S)
    (refine wpl_callF S rfl rfl rfl rfl rfl rfl (hdc) rfl ?_; clear S a; intro v F1 a w hv hF1 S; obtain ⟨q, r, rfl, hq, hr⟩ := hv; have hq0 := hq; have hr0 := hr; obtain ⟨qo, qc, rfl, -, -⟩ := hq0; obtain ⟨ro, rc, rfl, -, -⟩ := hr0)
    iterate 4 (refine wpl_p S rfl rfl rfl ?_; clear S a; intro a S)
    (refine wpl_alloc S rfl rfl rfl rfl ?_; clear S a; intro b6 a w S)
    (refine wpl_alloc S rfl rfl rfl rfl ?_; clear S a; intro b7 a w S)
    iterate 2 (refine wpl_storeO S rfl rfl rfl rfl rfl (by rfl) (by simp [Value.cells, Value.oneCell', splice]) (by rfl) ?_; clear S; intro w S)
    (refine wpl_p S rfl rfl rfl ?_; clear S a; intro a S)
    (refine wpList_nil (hKq2 _ _ (wp_seq_k fun Kq3 hKq3 => ?_)); try clear hKq2 Kq2)
    refine wp_sr fun Kq4 hKq4 => ?_
    iterate 2 (refine wpl_p S rfl rfl rfl ?_; clear S a; intro a S)
    (refine wpList_nil (hKq4 _ _ ?_); try clear hKq4 Kq4)
    refine wpc_split S rfl (fun h => ?_) (fun h => ?_)
    · (skip; (try simp only [tq] at h); exact absurd trivial h)
    (skip; (try simp only [tq] at h))
    refine wp_skip ?_
    (refine hKq3 _ _ ?_; try (clear hKq3 Kq3))
    refine wp_sr fun Kq5 hKq5 => ?_
    (refine wpl_l S rfl rfl rfl ?_; clear S a; intro a S)
    (refine wpl_call0 S rfl rfl rfl rfl rfl rfl (textCt _ _ _ F1 (hT.mono hF1) (by omega) ⟨_, rfl, hq⟩) rfl ?_; clear S a; intro v a w hv S; subst hv)
    iterate 4 (refine wpl_p S rfl rfl rfl ?_; clear S a; intro a S)
    (refine wpList_nil (hKq5 _ _ ?_); try clear hKq5 Kq5)
    refine wp_ret (fin_ret S (results2 Tryz.results42 (RV.tmp S rfl) (RV.tmp S rfl)) ?_)
    (unfold divA; rw [if_pos hde]; rfl)
  · simp only [DivV, if_neg hde] at hdc
    refine Ct.enter Tryz.func42 rfl Tryz.ntmps42 rfl fun w0 a S => ?_
    refine wp_sr fun Kq1 hKq1 => ?_
    iterate 2 (refine wpl_p S rfl rfl rfl ?_; clear S a; intro a S)
    (refine wpList_nil (hKq1 _ _ (wp_sr fun Kq2 hKq2 => ?_)); try clear hKq1 Kq1)
    iterate 2 (refine wpl_p S rfl rfl rfl ?_; clear S a; intro a S)
    (refine wpl_callF S rfl rfl rfl rfl rfl rfl (hdc) rfl ?_; clear S a; intro v F1 a w hv hF1 S; subst hv)
    iterate 4 (refine wpl_p S rfl rfl rfl ?_; clear S a; intro a S)
    (refine wpl_alloc S rfl rfl rfl rfl ?_; clear S a; intro b6 a w S)
    (refine wpl_alloc S rfl rfl rfl rfl ?_; clear S a; intro b7 a w S)
    iterate 2 (refine wpl_storeO S rfl rfl rfl rfl rfl (by rfl) (by simp [Value.cells, Value.oneCell', splice, zeroB]) (by rfl) ?_; clear S; intro w S)
    (refine wpl_p S rfl rfl rfl ?_; clear S a; intro a S)
    (refine wpList_nil (hKq2 _ _ (wp_seq_k fun Kq3 hKq3 => ?_)); try clear hKq2 Kq2)
    refine wp_sr fun Kq4 hKq4 => ?_
    iterate 2 (refine wpl_p S rfl rfl rfl ?_; clear S a; intro a S)
    (refine wpList_nil (hKq4 _ _ ?_); try clear hKq4 Kq4)
    refine wpc_split S rfl (fun h => ?_) (fun h => ?_)
    · (skip; (try simp only [tq] at h))
      refine wp_sr fun Kq5 hKq5 => ?_
      iterate 3 (refine wpl_p S rfl rfl rfl ?_; clear S a; intro a S)
      (refine wpList_nil (hKq5 _ _ ?_); try clear hKq5 Kq5)
      refine wp_ret (fin_ret S (results2 Tryz.results42 (RV.tmp S rfl) (RV.tmp S rfl)) ?_)
      (unfold divA; rw [if_neg hde]; rfl)
    (skip; (try simp only [tq] at h); exact absurd h hde)
set_option maxHeartbeats 2000000 in
theorem bmodCt (s t : List UInt8) (F : Heap) (hT : TabF F) (hs : s.length ≤ 1000000) (ht : t.length ≤ 1000000) : Ct Tryz.prog 44 [.string (bs s), .string (bs t)] F [] (fun _ _ u => u = ansV (modA s t)) := by
  have hdc := dividedCt s t F hs ht
  by_cases hde : divE s t = 0
  · have hn1 := nd_num (both_ok (divE_ok hde).1).1
    have hn3 := nd_mono (Nat.mod_le (decV (bodyS s)) (decV (bodyS t)))
    simp only [DivV, if_pos hde] at hdc
    refine Ct.enter Tryz.func44 rfl Tryz.ntmps44 rfl fun w0 a S => ?_
    refine wp_sr fun Kq1 hKq1 => ?_
    iterate 2 (refine wpl_p S rfl rfl rfl ?_; clear S a; intro a S)
    (refine wpList_nil (hKq1 _ _ (wp_sr fun Kq2 hKq2 => ?_)); try clear hKq1 Kq1)
    iterate 2 (refine wpl_p S rfl rfl rfl ?_; clear S a; intro a S)
    (refine wpl_callF S rfl rfl rfl rfl rfl rfl (hdc) rfl ?_; clear S a; intro v F1 a w hv hF1 S; obtain ⟨q, r, rfl, hq, hr⟩ := hv; have hq0 := hq; have hr0 := hr; obtain ⟨qo, qc, rfl, -, -⟩ := hq0; obtain ⟨ro, rc, rfl, -, -⟩ := hr0)
    iterate 4 (refine wpl_p S rfl rfl rfl ?_; clear S a; intro a S)
    (refine wpl_alloc S rfl rfl rfl rfl ?_; clear S a; intro b6 a w S)
    (refine wpl_alloc S rfl rfl rfl rfl ?_; clear S a; intro b7 a w S)
    iterate 2 (refine wpl_storeO S rfl rfl rfl rfl rfl (by rfl) (by simp [Value.cells, Value.oneCell', splice]) (by rfl) ?_; clear S; intro w S)
    (refine wpl_p S rfl rfl rfl ?_; clear S a; intro a S)
    (refine wpList_nil (hKq2 _ _ (wp_seq_k fun Kq3 hKq3 => ?_)); try clear hKq2 Kq2)
    refine wp_sr fun Kq4 hKq4 => ?_
    iterate 2 (refine wpl_p S rfl rfl rfl ?_; clear S a; intro a S)
    (refine wpList_nil (hKq4 _ _ ?_); try clear hKq4 Kq4)
    refine wpc_split S rfl (fun h => ?_) (fun h => ?_)
    · (skip; (try simp only [tq] at h); exact absurd trivial h)
    (skip; (try simp only [tq] at h))
    refine wp_skip ?_
    (refine hKq3 _ _ ?_; try (clear hKq3 Kq3))
    refine wp_sr fun Kq5 hKq5 => ?_
    (refine wpl_l S rfl rfl rfl ?_; clear S a; intro a S)
    (refine wpl_call0 S rfl rfl rfl rfl rfl rfl (textCt _ _ _ F1 (hT.mono hF1) (by omega) ⟨_, rfl, hr⟩) rfl ?_; clear S a; intro v a w hv S; subst hv)
    iterate 4 (refine wpl_p S rfl rfl rfl ?_; clear S a; intro a S)
    (refine wpList_nil (hKq5 _ _ ?_); try clear hKq5 Kq5)
    refine wp_ret (fin_ret S (results2 Tryz.results44 (RV.tmp S rfl) (RV.tmp S rfl)) ?_)
    (unfold modA; rw [if_pos hde]; rfl)
  · simp only [DivV, if_neg hde] at hdc
    refine Ct.enter Tryz.func44 rfl Tryz.ntmps44 rfl fun w0 a S => ?_
    refine wp_sr fun Kq1 hKq1 => ?_
    iterate 2 (refine wpl_p S rfl rfl rfl ?_; clear S a; intro a S)
    (refine wpList_nil (hKq1 _ _ (wp_sr fun Kq2 hKq2 => ?_)); try clear hKq1 Kq1)
    iterate 2 (refine wpl_p S rfl rfl rfl ?_; clear S a; intro a S)
    (refine wpl_callF S rfl rfl rfl rfl rfl rfl (hdc) rfl ?_; clear S a; intro v F1 a w hv hF1 S; subst hv)
    iterate 4 (refine wpl_p S rfl rfl rfl ?_; clear S a; intro a S)
    (refine wpl_alloc S rfl rfl rfl rfl ?_; clear S a; intro b6 a w S)
    (refine wpl_alloc S rfl rfl rfl rfl ?_; clear S a; intro b7 a w S)
    iterate 2 (refine wpl_storeO S rfl rfl rfl rfl rfl (by rfl) (by simp [Value.cells, Value.oneCell', splice, zeroB]) (by rfl) ?_; clear S; intro w S)
    (refine wpl_p S rfl rfl rfl ?_; clear S a; intro a S)
    (refine wpList_nil (hKq2 _ _ (wp_seq_k fun Kq3 hKq3 => ?_)); try clear hKq2 Kq2)
    refine wp_sr fun Kq4 hKq4 => ?_
    iterate 2 (refine wpl_p S rfl rfl rfl ?_; clear S a; intro a S)
    (refine wpList_nil (hKq4 _ _ ?_); try clear hKq4 Kq4)
    refine wpc_split S rfl (fun h => ?_) (fun h => ?_)
    · (skip; (try simp only [tq] at h))
      refine wp_sr fun Kq5 hKq5 => ?_
      iterate 3 (refine wpl_p S rfl rfl rfl ?_; clear S a; intro a S)
      (refine wpList_nil (hKq5 _ _ ?_); try clear hKq5 Kq5)
      refine wp_ret (fin_ret S (results2 Tryz.results44 (RV.tmp S rfl) (RV.tmp S rfl)) ?_)
      (unfold modA; rw [if_neg hde]; rfl)
    (skip; (try simp only [tq] at h); exact absurd h hde)
theorem val_nz {t : List UInt8} : decV (bodyS t) = 0 ↔ valS t = 0 := by unfold valS toZ; cases negS t <;> simp
theorem val_abs (s : List UInt8) : (valS s).natAbs = decV (bodyS s) := toZ_abs _ _
theorem val_neg (s : List UInt8) (h : decV (bodyS s) ≠ 0) : decide (valS s < 0) = negS s := toZ_neg _ h
theorem neg_zero {s : List UInt8} (hs : checkS s = 0) (h : decV (bodyS s) = 0) : negS s = false := by
  have := (val_zero hs).1 (val_nz.1 h)
  subst this; rfl
theorem val_neg2 {s : List UInt8} (hs : checkS s = 0) : decide (valS s < 0) = negS s := by
  by_cases h : decV (bodyS s) = 0
  · rw [neg_zero hs h, val_nz.1 h]; rfl
  · exact val_neg s h
theorem divA_eq (s t : List UInt8) : divA s t = ansZ (divE s t) (showZ ((valS s).tdiv (valS t))) := by
  unfold divA ansZ
  split
  · rename_i h
    have h1 := both_ok (divE_ok h).1
    rw [showS_toZ, ← tdiv_sign, val_neg2 h1.1, val_neg2 h1.2, val_abs, val_abs]
  · rfl
theorem modA_eq (s t : List UInt8) : modA s t = ansZ (divE s t) (showZ ((valS s).tmod (valS t))) := by
  unfold modA ansZ
  split
  · rename_i h
    have h1 := both_ok (divE_ok h).1
    rw [showS_toZ, ← tmod_sign, val_neg2 h1.1, val_abs, val_abs]
  · rfl

def doA (o : Nat) (s t : List UInt8) : List UInt8 × Int :=
  match o with
  | 0 => ansZ (bothE s t) (showZ (valS s + valS t))
  | 1 => ansZ (bothE s t) (showZ (valS s - valS t))
  | 2 => ansZ (bothE s t) (showZ (valS s * valS t))
  | 3 => ansZ (divE s t) (showZ ((valS s).tdiv (valS t)))
  | _ => ansZ (divE s t) (showZ ((valS s).tmod (valS t)))
end Go.Proofs.YtigblodhdfnleaaGreatDoor
namespace Go.Proofs.YtigblodhdfnleaaGreatDoor
open Go Go.Wk Go.Num
set_option linter.unusedSimpArgs false
set_option linter.unusedVariables false
attribute [local irreducible] Go.wpList Go.Code.wp Go.wpStill Go.Wk.wpPre Go.bodyPost Go.Calls Go.Wk.Ct Go.Wk.OwnS
attribute [local irreducible] Go.Wk.wpG Go.Wk.wpM

theorem bmulCt (s t : List UInt8) (F : Heap) (hT : TabF F) (hs : s.length ≤ 1000000) (ht : t.length ≤ 1000000) : Ct Tryz.prog 40 [.string (bs s), .string (bs t)] F [] (fun _ _ u => u = ansV (doA 2 s t)) := by
  rw [show doA 2 s t = mulA s t from (mulA_eq s t).symm]
  by_cases hbe : bothE s t = 0
  · exact mulOk s t F hT hs ht hbe
  · exact mulErr s t F hs ht hbe
theorem baddCt (s t : List UInt8) (F : Heap) (hT : TabF F) (hs : s.length ≤ 1000000) (ht : t.length ≤ 1000000) : Ct Tryz.prog 36 [.string (bs s), .string (bs t)] F [] (fun _ _ u => u = ansV (doA 0 s t)) := by
  rw [show doA 0 s t = addA s t from (addA_eq s t).symm]; exact add0Ct s t F hT hs ht
theorem bsubCt (s t : List UInt8) (F : Heap) (hT : TabF F) (hs : s.length ≤ 1000000) (ht : t.length ≤ 1000000) : Ct Tryz.prog 38 [.string (bs s), .string (bs t)] F [] (fun _ _ u => u = ansV (doA 1 s t)) := by
  rw [show doA 1 s t = subA s t from (subA_eq s t).symm]; exact sub0Ct s t F hT hs ht
theorem bdivCt2 (s t : List UInt8) (F : Heap) (hT : TabF F) (hs : s.length ≤ 1000000) (ht : t.length ≤ 1000000) : Ct Tryz.prog 42 [.string (bs s), .string (bs t)] F [] (fun _ _ u => u = ansV (doA 3 s t)) := by
  rw [show doA 3 s t = divA s t from (divA_eq s t).symm]; exact bdivCt s t F hT hs ht
theorem bmodCt2 (s t : List UInt8) (F : Heap) (hT : TabF F) (hs : s.length ≤ 1000000) (ht : t.length ≤ 1000000) : Ct Tryz.prog 44 [.string (bs s), .string (bs t)] F [] (fun _ _ u => u = ansV (doA 4 s t)) := by
  rw [show doA 4 s t = modA s t from (modA_eq s t).symm]; exact bmodCt s t F hT hs ht

end Go.Proofs.YtigblodhdfnleaaGreatDoor
namespace Go.Proofs.YtigblodhdfnleaaGreatDoor
open Go Go.Wk Go.Un Go.De
set_option linter.unusedSimpArgs false
set_option linter.unusedVariables false
attribute [local irreducible] Go.wpList Go.Code.wp Go.wpStill Go.Wk.wpPre Go.bodyPost Go.Calls Go.Wk.Ct Go.Wk.OwnS
attribute [local irreducible] Go.Wk.wpG Go.Wk.wpM

set_option maxHeartbeats 4000000 in
theorem ownVCt : ∀ (n : Nat) (F : Heap) (h : VH) (L : Vf) (cs : List Value), L.size ≤ n → L.size ≤ 1000000000 → VaC F cs h L → Ct Tryz.prog 26 [.agg ⟨cs⟩] F [] (fun F' _ u => ∃ cs', u = .agg ⟨cs'⟩ ∧ VaC F' cs' h L) := by
  intro n
  induction n using Nat.strongRecOn with
  | _ n ih =>
  intro F h L cs hn hb hV
  obtain ⟨v, rfl, ⟨ao, cap, rfl, hcap, hpos⟩, hsb⟩ := hV
  have hll := Rose.len_size L
  refine Ct.enter Tryz.func26 rfl Tryz.ntmps26 rfl fun w0 a S => ?_
  refine wp_sr fun Kq1 hKq1 => ?_
  (refine wpl_box S rfl rfl rfl rfl rfl ?_; clear S a; intro b1 a w S)
  (refine wpl_alloc S rfl rfl rfl rfl ?_; clear S a; intro b2 a w S)
  (refine wpList_nil (hKq1 _ _ (wp_sr fun Kq2 hKq2 => ?_)); try clear hKq1 Kq1)
  (refine wpl_p S rfl rfl rfl ?_; clear S a; intro a S)
  (refine wpList_nil (hKq2 _ _ (wp_seq_k fun Kq3 hKq3 => ?_)); try clear hKq2 Kq2)
  refine wp_sr fun Kq4 hKq4 => ?_
  (refine wpl_f S rfl rfl rfl ?_; clear S a; intro a S)
  (refine wpl_l S rfl rfl rfl ?_; clear S a; intro a S)
  (refine wpl_n S rfl rfl rfl ?_; clear S a; intro a S)
  (refine wpl_p S rfl rfl rfl ?_; clear S a; intro a S)
  (refine wpList_nil (hKq4 _ _ ?_); try clear hKq4 Kq4)
  refine wp_block ?_
  refine wpc_loop (fun m a w' => ∃ (i : Nat) (v : Value) (g : Grp) (xs : List Value) (F3 : Heap), m = L.len - i ∧ i ≤ L.len ∧ (∀ b o, F b = some o → F3 b = some o) ∧ OwnS 26 4 v i xs g ∧ LiC F3 4 (RoR 4 VhR) xs ((kids L).take i) ∧ St 22 [(1, ptr b1), (2, ptr b2), (3, v), (7, .slice ao L.len cap), (8, .int .i64 L.len), (9, .int .i64 i)] w0 F [] F3 (g :: [(b2, .cells ⟨[.int .u8 0, .int .i64 0, .string (bs []), .slice none 0 0]⟩ 26 (0, 0))] :: [(b1, .cells ⟨[.int .u8 (h.k : Int), .int .i64 h.n, .string (bs h.s), .slice ao L.len cap]⟩ 26 (0, 0))] :: []) a w') ?_ ?_
  · (replace S := S.nilg; refine ⟨L.len, 0, .slice none 0 0, [], [], F, by omega, Nat.zero_le _, fun _ _ h => h, OwnS.nil _ _, rfl, ?_⟩; refine S.keep ?_; repeat (first | exact trivial | refine ⟨rfl, ?_⟩))
  (clear S; rintro m a w ⟨i, v, g, xs, F3, rfl, hil, hF3, hown, hfc, S⟩)
  refine wp_sr fun Kq5 hKq5 => ?_
  (refine wpl_p S rfl rfl rfl ?_; clear S a; intro a S)
  (refine wpList_nil (hKq5 _ _ (wp_seq_k fun Kq6 hKq6 => ?_)); try clear hKq5 Kq5)
  refine wpc_split S rfl (fun h => ?_) (fun h => ?_)
  · (skip; (try simp only [tq] at h))
    refine wp_skip ?_
    (refine hKq6 _ _ ?_; try (clear hKq6 Kq6))
    (refine wp_seq_k ?_; intro Kq7 hKq7)
    refine wp_block ?_
    (refine wp_seq_k ?_; intro Kq8 hKq8)
    (obtain ⟨b8, o8, hao, x, cs1, v1, hx, hc1, hw9, hT1⟩ := TrM.pos hpos (k := i) (by omega); rw [hao] at S; replace hc1 := Cels.mono hF3 hc1; replace hT1 := hT1.mono hF3; have hxs := Rose.size_get hx; have hT1c := hT1; obtain ⟨a91, c91, rfl, -⟩ := hT1c; have hw9c := hw9.1; subst hw9c; (simp only [List.cons_append, List.nil_append] at hc1))
    refine wp_region_lit ?_
    (refine wpl_i S rfl rfl rfl ?_; clear S a; intro a S)
    (refine wpl_l S rfl rfl rfl ?_; clear S a; intro a S)
    (refine wpl_alloc S rfl rfl rfl rfl ?_; clear S a; intro b5 a w S)
    (refine wpl_storeO S rfl rfl rfl rfl rfl (by rfl) (by simp [Value.cells, Value.oneCell', splice]) (by rfl) ?_; clear S; intro w S)
    (refine wpList_nil (hKq8 _ _ ?_); try clear hKq8 Kq8)
    refine wp_region_lit ?_
    (refine wpl_p S rfl rfl rfl ?_; clear S a; intro a S)
    (refine wpl_l S rfl rfl rfl ?_; clear S a; intro a S)
    (refine wpl_callF S rfl rfl rfl rfl rfl rfl (ih x.2.size (by omega) F3 x.1 x.2 _ (Nat.le_refl _) (by omega) ⟨_, rfl, hT1, hw9.2⟩) rfl ?_; clear S a; intro u9 F4 a w hv hF4 S; obtain ⟨cs4, rfl, hV4⟩ := hv; have hV4c := hV4; obtain ⟨v4, rfl, ⟨a4, c4, rfl, -⟩, -⟩ := hV4c)
    (refine wpl_append S rfl rfl rfl rfl rfl rfl rfl rfl rfl rfl rfl (fun _ => rfl) hown (by rfl) (by simp [Value.cells, splice, splice]) (by simp [Value.cells, Value.oneCell', splice, splice]) rfl (by rfl) (by rfl) rfl (by omega) (by omega) ?_; clear hown S a; intro v u g a w hown S)
    (refine wpl_p S rfl rfl rfl ?_; clear S a; intro a S)
    (refine wpList_nil (hKq7 _ _ ?_); try clear hKq7 Kq7)
    refine wp_region_lit ?_
    (refine wpl_a S rfl rfl rfl ?_; clear S a; intro a S)
    (refine wpl_p S rfl rfl rfl ?_; clear S a; intro a S)
    refine wpList_nil ?_
    change ∃ m', _ ∧ _
    (rw [← hao] at S; replace S := S.drop1; refine ⟨L.len - (i + 1), by omega, i + 1, _, _, _, F4, rfl, by omega, fun b o h => hF4 _ _ (hF3 _ _ h), hown, ?_, ?_⟩; rotate_left 1; (refine S.keep ?_; repeat (first | exact trivial | refine ⟨rfl, ?_⟩)); (rw [List.take_add_one, kids_get, hx]; exact LiC.app (hfc.mono hF4) (LiC.one rfl (vac_ror hV4))))
  (skip; (try simp only [tq] at h))
  refine wp_exit ?_
  (refine hKq3 _ _ ?_; try (clear hKq3 Kq3))
  (refine wp_seq_k ?_; intro Kq7 hKq7)
  (obtain ⟨aoK, capK, rfl, -⟩ := hown.at)
  refine wp_region_lit ?_
  (refine wpl_p S rfl rfl rfl ?_; clear S a; intro a S)
  (refine wpl_f S rfl rfl rfl ?_; clear S a; intro a S)
  (refine wpl_store1 S rfl rfl rfl rfl rfl rfl (by first | (simp; done) | (simp [Value.cells]; done) | exact Nat.le_of_ble_eq_true rfl) ?_; clear S; intro w S)
  (refine wpList_nil (hKq7 _ _ (wp_sr fun Kq8 hKq8 => ?_)); try clear hKq7 Kq7)
  (refine wpl_l S rfl rfl rfl ?_; clear S a; intro a S)
  (refine wpl_storeO S rfl rfl rfl rfl rfl (by rfl) (by simp [Value.cells, Value.oneCell', splice]) (by rfl) ?_; clear S; intro w S)
  (refine wpList_nil (hKq8 _ _ ?_); try clear hKq8 Kq8)
  refine wp_ret ?_
  (have hii : i = L.len := (by omega); have hle := add_le (G1 := []) S; replace S := St.freeze (G1 := []) S; (simp only [List.nil_append] at S hle))
  refine fin_ret S (results1 Tryz.results26 (RV.cellO S rfl (by rfl))) ?_
  (rw [List.take_of_length_le (by rw [kids_len]; omega)] at hfc; exact ⟨_, rfl, _, rfl, trs_kids (LiC.lim hown hfc (by rw [kids_len]; omega) hle (by omega)), hsb⟩)
/-- How many values there are in one. -/
def insL : Vf → Nat
  | .nil => 0
  | .cons _ L r => (insL L + 1) + insL r
theorem insL_size : ∀ L : Vf, insL L = L.size
  | .nil => rfl
  | .cons h L r => by show (insL L + 1) + insL r = L.size + r.size + 1; rw [insL_size L, insL_size r]; omega
end Go.Proofs.YtigblodhdfnleaaGreatDoor
namespace Go.Proofs.YtigblodhdfnleaaGreatDoor
open Go Go.Wk Go.Un Go.De Go.Num
set_option linter.unusedSimpArgs false
set_option linter.unusedVariables false

/-! ### how values stand -/
def cI (a b : Int) : Int := if a < b then -1 else if b < a then 1 else 0
def cS (s t : List UInt8) : Int := if Op.bytesLess s t = true then -1 else if s = t then 0 else 1
def or2 (a b : Int) : Int := if a ≠ 0 then a else b
/-- Whole numbers' texts. -/
def bigC : Nat → List UInt8 → List UInt8 → Int
  | 0, _, _ => 0
  | n + 1, s, t => if s.take 1 = [45] ∧ t.take 1 = [45] then bigC n (t.drop 1) (s.drop 1) else if s.take 1 = [45] then -1 else if t.take 1 = [45] then 1 else or2 (cI s.length t.length) (cS s t)
def bigsC (s t : List UInt8) : Int := bigC (s.length + t.length + 1) s t
def cmpL : Vf → Vf → Int
  | .nil, .nil => 0
  | .nil, .cons _ _ _ => -1
  | .cons _ _ _, .nil => 1
  | .cons h L r, .cons h2 L2 r2 => or2 (if h.k ≠ h2.k then cI h.k h2.k else if h.k = 3 then bigsC h.s h2.s else if h.k = 4 then cS h.s h2.s else or2 (cI h.n h2.n) (or2 (cS h.s h2.s) (cmpL L L2))) (cmpL r r2)
def cmpH (h : VH) (L : Vf) (h2 : VH) (L2 : Vf) : Int := if h.k ≠ h2.k then cI h.k h2.k else if h.k = 3 then bigsC h.s h2.s else if h.k = 4 then cS h.s h2.s else or2 (cI h.n h2.n) (or2 (cS h.s h2.s) (cmpL L L2))
def mayV (v : VH × Vf) : Bool := decide (checkV v.1 v.2 = 0)
/-- How two values stand. -/
def cmpV2 (a b : VH × Vf) : Int := if mayV a = true ∧ mayV b = true then cmpH a.1 a.2 b.1 b.2 else if mayV a = mayV b then 0 else if mayV a = true then -1 else 1

/-! ### what expressions come to -/
abbrev Vv := VH × Vf
abbrev Ans := Int × Vv
def zV : Vv := (⟨0, 0, []⟩, .nil)
def noA (e : Int) : Ans := (e, zV)
def yesA (v : Vv) : Ans := (0, v)
def boolV (b : Bool) : Vv := (⟨1, if b then 1 else 0, []⟩, .nil)
def intV (n : Int) : Vv := (⟨2, n, []⟩, .nil)
def bigV (s : List UInt8) : Vv := (⟨3, 0, s⟩, .nil)
def textV (s : List UInt8) : Vv := (⟨4, 0, s⟩, .nil)
def in64 (n : Int) : Prop := -9223372036854775808 ≤ n ∧ n ≤ 9223372036854775807
instance (n : Int) : Decidable (in64 n) := by unfold in64; infer_instance
/-- What two ints come to. -/
def intO (k : Nat) (a b : Int) : Int × Int :=
  if k = 0 then (if in64 (a + b) then (a + b, 0) else (0, 80))
  else if k = 1 then (if in64 (a - b) then (a - b, 0) else (0, 80))
  else if k = 2 then (if in64 (a * b) then (a * b, 0) else (0, 80))
  else if k = 3 then (if b = 0 then (0, 81) else if in64 (a.tdiv b) then (a.tdiv b, 0) else (0, 80))
  else (if b = 0 then (0, 81) else (a.tmod b, 0))
def numO (k : Nat) (a b : Vv) : Ans :=
  if a.1.k = 2 ∧ b.1.k = 2 then (if (intO k a.1.n b.1.n).2 ≠ 0 then noA (intO k a.1.n b.1.n).2 else yesA (intV (intO k a.1.n b.1.n).1))
  else if a.1.k = 3 ∧ b.1.k = 3 then (if (doA k a.1.s b.1.s).2 ≠ 0 then noA (doA k a.1.s b.1.s).2 else yesA (bigV (doA k a.1.s b.1.s).1))
  else noA 70
def ordT (k : Nat) (c : Int) : Bool := if k = 0 then decide (c = 0) else if k = 1 then decide (c ≠ 0) else if k = 2 then decide (c < 0) else if k = 3 then decide (c ≤ 0) else if k = 4 then decide (0 < c) else decide (0 ≤ c)
def ordO (k : Nat) (a b : Vv) : Ans := yesA (boolV (ordT k (cmpV2 a b)))
def catO (a b : Vv) : Ans := if a.1.k ≠ 4 ∨ b.1.k ≠ 4 then noA 70 else if 4096 < a.1.s.length + b.1.s.length then noA 80 else yesA (textV (a.1.s ++ b.1.s))
/-- The operators of two: their names, and what they come to. -/
def ops2 : List (List UInt8 × (Vv → Vv → Ans)) :=
  [([43], numO 0), ([45], numO 1), ([42], numO 2), ([47], numO 3), ([37], numO 4), ([61, 61], ordO 0), ([33, 61], ordO 1), ([60], ordO 2), ([60, 61], ordO 3), ([62], ordO 4), ([62, 61], ordO 5), ([43, 43], catO)]
def op2 (s : List UInt8) : Option (Vv → Vv → Ans) := (ops2.find? fun x => decide (s = x.1)).map (·.2)
def sAnd : List UInt8 := [97, 110, 100]
def sOr : List UInt8 := [111, 114]
def sNot : List UInt8 := [110, 111, 116]
def sNeg : List UInt8 := [110, 101, 103]
def sLen : List UInt8 := [108, 101, 110]
def op1 (s : List UInt8) (a : Vv) : Ans :=
  if s = sNot ∧ a.1.k = 1 then yesA (boolV (decide (a.1.n = 0)))
  else if s = sNeg ∧ a.1.k = 2 then (if in64 (0 - a.1.n) then yesA (intV (0 - a.1.n)) else noA 80)
  else if s = sNeg ∧ a.1.k = 3 then yesA (bigV (negA a.1.s).1)
  else if s = sLen ∧ a.1.k = 4 then yesA (intV a.1.s.length)
  else if s = sBig ∧ a.1.k = 2 then yesA (bigV (showZ a.1.n).1)
  else if s = sInt ∧ a.1.k = 3 then (if checkS a.1.s = 0 ∧ in64 (valS a.1.s) then yesA (intV (valS a.1.s)) else noA 80)
  else noA 70
/-- What values put together come to. -/
def wholeO (h : VH) (L : Vf) : Ans := if checkV h L = 65 ∨ 4096 < insL L + 1 then noA 80 else if checkV h L ≠ 0 then noA 4 else yesA (h, L)
abbrev Bd := List UInt8 × Vv
def findB (vs : List Bd) (s : List UInt8) : Option Bd := vs.find? fun x => decide (x.1 = s)
/-- A list's part. -/
def nthA : List Ans → Nat → Ans
  | [], _ => noA 0
  | x :: _, 0 => x
  | _ :: r, k + 1 => nthA r k
def truthO (x : Ans) : Bool × Int := if x.1 ≠ 0 then (false, x.1) else if x.2.1.k ≠ 1 then (false, 70) else (decide (x.2.1.n = 1), 0)
/-- What several come to, in their order: the first refusal, or all. -/
def listO : List Ans → Int × List Vv
  | [] => (0, [])
  | x :: r => if x.1 ≠ 0 then (x.1, []) else if (listO r).1 ≠ 0 then ((listO r).1, []) else (0, x.2 :: (listO r).2)
/-- A value's field. -/
def fieldO (cs : List KC) (nm : List UInt8) (v : Vv) : Ans :=
  if v.1.k ≠ 6 then noA 70 else match findC cs v.1.s with
    | none => noA 70
    | some c => if c.fs.length ≠ v.2.len ∨ nm = [] then noA 70 else match c.fs.findIdx? fun f => decide (f.nm = nm) with
      | none => noA 70
      | some i => match v.2.get? i with | none => noA 70 | some x => yesA x
/-- Values put together, of parts, or the first refusal. -/
def partsO (h : VH) (l : List Ans) : Ans := if (listO l).1 ≠ 0 then noA (listO l).1 else wholeO h (roseOf (listO l).2)
/-- What an expression of a kind comes to, of what its parts come to, over constructors. -/
def evK (cs : List KC) (vs : List Bd) (h : EH) (l : List Ans) : Ans :=
  if h.k = 1 then yesA (h.v, h.vl)
  else if h.k = 2 then (match findB vs h.nm with | none => noA 71 | some x => yesA x.2)
  else if h.k = 4 then partsO ⟨5, 0, []⟩ l
  else if h.k = 5 then (match findC cs h.nm with | none => noA 63 | some c => if c.fs.length ≠ l.length then noA 70 else partsO ⟨6, 0, h.nm⟩ l)
  else if h.k = 7 then (if (nthA l 0).1 ≠ 0 then noA (nthA l 0).1 else fieldO cs h.nm (nthA l 0).2)
  else if h.k = 8 then (if (truthO (nthA l 0)).2 ≠ 0 then noA (truthO (nthA l 0)).2 else if (truthO (nthA l 0)).1 = true then nthA l 1 else nthA l 2)
  else if h.nm = sAnd ∨ h.nm = sOr then
    (if (truthO (nthA l 0)).2 = 0 ∧ (truthO (nthA l 0)).1 = decide (h.nm = sAnd) then (if (truthO (nthA l 1)).2 ≠ 0 then noA (truthO (nthA l 1)).2 else yesA (boolV (truthO (nthA l 1)).1))
     else if (truthO (nthA l 0)).2 ≠ 0 then noA (truthO (nthA l 0)).2 else yesA (boolV (truthO (nthA l 0)).1))
  else if (listO l).1 ≠ 0 then noA (listO l).1
  else match (listO l).2 with
    | [a] => op1 h.nm a
    | a :: b :: _ => (match op2 h.nm with | some f => f a b | none => noA 0)
    | [] => noA 0
def evL (cs : List KC) (vs : List Bd) : Ef → List Ans
  | .nil => []
  | .cons h L r => evK cs vs h (evL cs vs L) :: evL cs vs r
def evE (cs : List KC) (vs : List Bd) (h : EH) (L : Ef) : Ans := evK cs vs h (evL cs vs L)
/-! ### which may be -/
def deepL : Ef → Int → Bool
  | .nil, _ => false
  | .cons _ L r, d => (decide (64 < d) || deepL L (d + 1)) || deepL r d
def deepE (L : Ef) (d : Int) : Bool := decide (64 < d) || deepL L (d + 1)
def ones : List (List UInt8) := [sNot, sNeg, sLen, sBig, sInt]
def formK (h : EH) (n : Nat) : Bool :=
  if h.k = 4 then decide (n ≠ 1) && decide (n ≤ 16) else if h.k = 5 then true else if h.k = 7 then decide (n = 1) else if h.k = 8 then decide (n = 3)
  else if h.k = 6 then ((((op2 h.nm).isSome || decide (h.nm = sAnd)) || decide (h.nm = sOr)) && decide (n = 2)) || (decide (n = 1) && decide (h.nm ∈ ones)) else false
def formEL : Ef → Bool
  | .nil => true
  | .cons h L r => (if h.k = 1 then decide (checkV h.v h.vl = 0) else if h.k = 2 then true else formK h L.len && formEL L) && formEL r
def formE (h : EH) (L : Ef) : Bool := if h.k = 1 then decide (checkV h.v h.vl = 0) else if h.k = 2 then true else formK h L.len && formEL L
/-- What Eval tells. -/
def evalO (cs : List KC) (vs : List Bd) (h : EH) (L : Ef) : Ans :=
  if deepE L 1 = true then noA 65 else if formE h L = false then noA 4 else if (vs.all fun x => mayV x.2) = false then noA 4 else evE cs vs h L
end Go.Proofs.YtigblodhdfnleaaGreatDoor
namespace Go.Proofs.YtigblodhdfnleaaGreatDoor
open Go Go.Wk Go.Un Go.De
set_option linter.unusedSimpArgs false
set_option linter.unusedVariables false

/-- The own block of a number, put in front. -/
class PullB (G : List Grp) (b : Nat) (o : outParam Obj) (R : outParam (List Grp)) : Prop where h : ∃ G1 G2, G = G1 ++ [(b, o)] :: G2 ∧ R = G1 ++ G2
instance {b : Nat} {o : Obj} {G : List Grp} : PullB ([(b, o)] :: G) b o G := ⟨[], G, rfl, rfl⟩
instance {b : Nat} {o : Obj} {g : Grp} {G R : List Grp} [h : PullB G b o R] : PullB (g :: G) b o (g :: R) := by
  obtain ⟨G1, G2, e, hR⟩ := h.h
  exact ⟨g :: G1, G2, by rw [e]; rfl, by rw [hR]; rfl⟩
section
variable {n : Sz} {L : List (Nat × Value)} {w0 : World} {F0 : Heap} {K0 : List Nat} {a : Act} {w : World}
theorem St.pullB (b : Nat) {G R : List Grp} {F : Heap} {o : Obj} [h : PullB G b o R] (S : St n L w0 F0 K0 F G a w) : St n L w0 F0 K0 F ([(b, o)] :: R) a w := by
  obtain ⟨G1, G2, rfl, rfl⟩ := h.h
  exact ⟨S.fr, S.tr.perm (by first | exact List.Perm.flatten List.perm_middle | exact (List.Perm.flatten List.perm_middle).symm)⟩
/-- All own blocks of a list, not written any more. -/
theorem frzAll {G2 : List Grp} : ∀ (l : List (Nat × Obj)) {F : Heap}, St n L w0 F0 K0 F ((l.map fun p => [p]) ++ G2) a w → ∃ F', (∀ b o, F b = some o → F' b = some o) ∧ (∀ p ∈ l, F' p.1 = some p.2) ∧ St n L w0 F0 K0 F' G2 a w
  | [], F, S => ⟨F, fun _ _ h => h, fun p hp => (by cases hp), S⟩
  | p :: l, F, S => by
    have hle := add_le (G1 := []) S
    have S2 := St.freeze (G1 := []) S
    obtain ⟨F', h1, h2, S3⟩ := frzAll l S2
    refine ⟨F', fun b o h => h1 _ _ (hle _ _ h), fun q hq => ?_, S3⟩
    rcases List.mem_cons.1 hq with rfl | hq
    · exact h1 _ _ (Heap.add_new (p := q) (List.mem_singleton.2 rfl) (by simp))
    · exact h2 q hq
theorem frz1 {G2 : List Grp} {p : Nat × Obj} {F : Heap} (S : St n L w0 F0 K0 F ([p] :: G2) a w) : ∃ F', (∀ b o, F b = some o → F' b = some o) ∧ F' p.1 = some p.2 ∧ St n L w0 F0 K0 F' G2 a w :=
  ⟨_, add_le (G1 := []) S, Heap.add_new (p := p) (List.mem_singleton.2 rfl) (by simp), St.freeze (G1 := []) S⟩
end
theorem cels_of {F : Heap} {b : Nat} {cs : List Value} {e : TypeId} (h : F b = some (.cells ⟨cs⟩ e (0, 0))) : Cels F b 0 cs := fun j u hj => ⟨_, _, _, h, by simpa using hj⟩
theorem lim_of {α : Type} {F : Heap} {b sz : Nat} {cs : List Value} {e : TypeId} {R : Heap → α → List Value → Prop} {l : List α} (h : F b = some (.cells ⟨cs⟩ e (0, 0))) (hl : LiC F sz R cs l) (hn : l.length ≤ 140737488355328) : LiM F sz R (.slice (some ⟨b, 0, none⟩) l.length l.length) l :=
  ⟨some ⟨b, 0, none⟩, l.length, rfl, ⟨Nat.le_refl _, hn⟩, fun hp => ⟨b, 0, rfl, fun k x hx => by
    obtain ⟨cs2, h5, h6, h7⟩ := hl.get hx
    exact ⟨cs2, fun j u hj => ⟨_, _, _, h, by have := h5 j u hj; simpa [Nat.zero_add] using this⟩, h6, h7⟩⟩⟩
theorem drop_at {α : Type} {l : List α} {k : Nat} {x : α} (h : l[k]? = some x) : l.drop k = x :: l.drop (k + 1) := by
  obtain ⟨h1, h2⟩ := List.getElem?_eq_some_iff.1 h
  rw [List.drop_eq_getElem_cons h1, h2]
end Go.Proofs.YtigblodhdfnleaaGreatDoor
