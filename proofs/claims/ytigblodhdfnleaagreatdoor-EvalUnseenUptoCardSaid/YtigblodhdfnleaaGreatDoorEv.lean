/- The walk of over of package big: the quotient and the rest of two magnitudes. Numbers as integers: what the answers of package big come to. No program in sight beyond the names of Ops and Mul. The walks of divided, Div, Mod of package big. What package big's calls come to, as the document's numbers (for seats in which the document's own walk of them has no part). Walks: own, inside: copies of values, how many values there are in one. What values stand like, and what expressions come to where no table is at hand, in plain Lean. -/
import Derived.Test.YtigblodhdfnleaaGreatDoorMul
import Derived.Test.YtigblodhdfnleaaGreatDoorWk18
import Derived.Test.YtigblodhdfnleaaGreatDoorFmt
import Derived.Test.YtigblodhdfnleaaGreatDoorDeX
import Derived.Test.YtigblodhdfnleaaGreatDoorDeV
namespace Go.Proofs.YtigblodhdfnleaaGreatDoor
open Go Go.Wk Go.Num
set_option linter.unusedSimpArgs false
set_option linter.unusedVariables false
attribute [local irreducible] Go.wpList Go.Code.wp Go.wpStill Go.Wk.wpPre Go.bodyPost Go.Calls Go.Wk.Ct Go.Wk.OwnS
attribute [local irreducible] Go.wpListIn Go.Code.wpIn Go.CallsIn Go.bodyPostM Go.Wk.roundP Go.Wk.wpG Go.Wk.wpM

theorem dig_push0 {r a : Nat} (ha : a < 1000000000) : dig 1000000000 (r * 1000000000 + a) 0 = a := by
  unfold dig; rw [Nat.pow_zero, Nat.div_one]; omega
theorem dig_push {r a j : Nat} (ha : a < 1000000000) : dig 1000000000 (r * 1000000000 + a) (j + 1) = dig 1000000000 r j := by
  unfold dig
  rw [Nat.pow_succ', ← Nat.div_div_eq_div_mul, show (r * 1000000000 + a) / 1000000000 = r by omega]
theorem cel_push {k r a : Nat} (ha : a < 1000000000) : [Value.int .i64 ((a : Nat) : Int)] ++ cel k (dig 1000000000 r) = cel (k + 1) (dig 1000000000 (r * 1000000000 + a)) := by
  rw [cel_cons, dig_push0 ha, show (fun j => dig 1000000000 (r * 1000000000 + a) (j + 1)) = dig 1000000000 r from funext fun j => dig_push ha]
  rfl
theorem push_lt {r a k : Nat} (ha : a < 1000000000) (h : r < 1000000000 ^ k) : r * 1000000000 + a < 1000000000 ^ (k + 1) := by
  rw [Nat.pow_succ]
  have : (r + 1) * 1000000000 ≤ 1000000000 ^ k * 1000000000 := Nat.mul_le_mul_right _ h
  rw [Nat.add_mul] at this; omega
/-- The quotient's digits, from j on. -/
def fq (Q j i : Nat) : Nat := if j ≤ i then dig 1000000000 Q i else 0
theorem own_q {e : TypeId} {v x : Value} {K j Q : Nat} {gr : Grp} (h : OwnS e 1 v K ((cel K (fq Q (j + 1))).set j x) gr) (hx : x = .int .i64 ((dig 1000000000 Q j : Nat) : Int)) : OwnS e 1 v K (cel K (fq Q j)) gr := by
  have : (cel K (fq Q (j + 1))).set j x = cel K (fq Q j) := by
    refine List.ext_getElem? fun i => ?_
    by_cases hi : i < K
    · rw [cel_get hi, List.getElem?_set, cel_len]
      by_cases e : j = i
      · subst e; rw [if_pos rfl, if_pos hi, hx]; unfold fq; rw [if_pos (Nat.le_refl _)]
      · rw [if_neg e, cel_get hi]
        unfold fq
        by_cases h1 : j ≤ i
        · rw [if_pos h1, if_pos (by omega)]
        · rw [if_neg h1, if_neg (by omega)]
    · rw [List.getElem?_eq_none (by rw [List.length_set, cel_len]; omega), List.getElem?_eq_none (by rw [cel_len]; omega)]
  rw [this] at h; exact h
theorem half_q {R C lo hi : Nat} (h1 : C * lo ≤ R) (h2 : R < C * hi) (h3 : lo < hi) (h4 : ¬ (1 : Int) < (hi : Int) - lo) : lo = R / C := by
  have : hi = lo + 1 := by omega
  subst this
  rw [Nat.mul_comm] at h1 h2
  exact (Nat.div_eq_of_lt_le h1 h2).symm
theorem cmp_np {A C : Nat} (h : cmpI A C ≤ 0) : A ≤ C := by
  unfold cmpI at h; split at h; omega; split at h <;> omega
theorem cmp_ps {A C : Nat} (h : ¬ cmpI A C ≤ 0) : C < A := by
  unfold cmpI at h; split at h; omega; split at h <;> omega
theorem nd_one {C n m : Nat} (hn : n < 1000000000) (hC : nd 1000000000 C ≤ m) : nd 1000000000 (C * n) ≤ m + 1 := by
  have := nd_le (lt_pow_mul (lt_nd b2 C) (lc := 1) (C := n) (by simpa using hn)) b2
  omega

theorem zzOver0 {p : Prop} (h : p := by (first | (refine ⟨hi - mid, by omega, mid, hi, F4, rfl, by omega, hhi, cmp_np h, hRhi, (fun b o h => hF4 _ _ (hF3 _ _ h)), hu3.mono hF4, ?_⟩; refine S.keep ?_; repeat (first | exact trivial | refine ⟨rfl, ?_⟩)) | (refine ⟨mid - lo, by omega, lo, mid, F4, rfl, by omega, by omega, hlo, cmp_ps h, (fun b o h => hF4 _ _ (hF3 _ _ h)), hu3.mono hF4, ?_⟩; refine S.keep ?_; repeat (first | exact trivial | refine ⟨rfl, ?_⟩)))) : p := h
set_option maxHeartbeats 8000000 in
theorem overCt (A C : Nat) (v u : Value) (F : Heap) (hC : 0 < C) (hlA : nd 1000000000 A ≤ 10000) (hlC : nd 1000000000 C ≤ 10000) (hv : Mag F v A) (hu : Mag F u C) :
    Ct Tryz.prog 104 [v, u] F [] (fun F' _ r => ∃ q s, r = .tuple ⟨[q, s]⟩ ∧ Mag F' q (A / C) ∧ Mag F' s (A % C)) := by
  have hv0 := hv
  have hu0 := hu
  obtain ⟨ao, ca, rfl, hca, hpa⟩ := hv0
  obtain ⟨co, cc, rfl, hcc, hpc⟩ := hu0
  have hQ : A / C < 1000000000 ^ nd 1000000000 A := Nat.lt_of_le_of_lt (Nat.div_le_self _ _) (lt_nd b2 A)
  have hrl : ∀ j, remJ 1000000000 A C j < C := fun j => Nat.mod_lt _ hC
  have hrK : ∀ j, nd 1000000000 (remJ 1000000000 A C j) ≤ 10000 := fun j => Nat.le_trans (nd_mono (Nat.le_of_lt (hrl j))) hlC
  have hA := lt_nd b2 A
  generalize hK : nd 1000000000 A = K at *
  generalize hKC : nd 1000000000 C = KC at *
  have hm0 : Mag F (.slice none 0 0) (remJ 1000000000 A C K) := by rw [rem_top hA]; exact ⟨none, 0, rfl, Nat.le_refl _, fun h => absurd h (Nat.lt_irrefl _)⟩
  refine Ct.enterM Tryz.func104 rfl Tryz.ntmps104 rfl fun w0 a S => ?_
  (refine wpIn_seq_k ?_; intro Z hZ)
  refine wpi_region rfl ?_
  (refine wpl_box S rfl rfl rfl rfl rfl ?_; clear S a; intro b3 a w S)
  (revert S a; revert hZ Z; refine go10 4 ?_; intro a S)
  (refine wpIn_seq_k ?_; intro Z hZ)
  refine wpi_region rfl ?_
  (revert S a; refine go00 2 ?_; intro a S)
  (refine wpl_makeSlice (q := K) S rfl rfl rfl rfl rfl rfl rfl (by omega) (by omega) ?_; clear S a; intro bq a w hq S)
  (refine wpl_alloc S rfl rfl rfl rfl ?_; clear S a; intro b6 a w S)
  (refine wpl_store1 S rfl rfl rfl rfl rfl rfl (by first | (simp; done) | (simp [Value.cells]; done) | exact Nat.le_of_ble_eq_true rfl) ?_; clear S; intro w S)
  (refine wpList_nil (hZ _ _ ?_); clear hZ Z)
  (refine wpIn_seq_k ?_; intro Z hZ)
  refine wpi_region rfl ?_
  (refine wpl_alloc S rfl rfl rfl rfl ?_; clear S a; intro b7 a w S)
  (refine wpList_nil (hZ _ _ ?_); clear hZ Z)
  iterate 2 (refine wpIn_seq_k ?_; intro Z hZ)
  refine wpi_region rfl ?_
  (revert S a; refine go00 1 ?_; intro a S)
  (refine wpl_callFrz S rfl rfl rfl rfl rfl rfl (backwardCt _ F) rfl ?_; clear S a; intro bx F5 a w hF5 hbx S; have hbox := hbx 0 _ rfl; have hq0 : OwnS 2 1 (.slice (some ⟨bq, 0, none⟩) K K) K (cel K (fq (A / C) K)) _ := (by rw [show cel K (fq (A / C) K) = cel K (fun _ => 0) from cel_congr fun i hi => (by unfold fq; rw [if_neg (by omega)]), ← replicate_cel]; exact hq); have hm5 := hm0.mono hF5)
  (refine wpList_nil (hZ _ _ ?_); clear hZ Z)
  refine wpIn_block ?_
  refine wpi_back S rfl rfl rfl rfl (backIter bx K (dig 1000000000 A) F5 ao ca (by omega) hbox (fun h0 => by obtain ⟨b, off, h1, h2⟩ := hpa h0; exact ⟨b, off, h1, h2.mono hF5⟩)) (fun j F2 G2 => (∀ b o, F5 b = some o → F2 b = some o) ∧ ∃ rv gq, G2 = [[(b7, .cells ⟨[rv]⟩ 91 (0, 0))], [(b6, .cells ⟨[.slice (some ⟨bq, 0, none⟩) K K]⟩ 91 (0, 0))], gq, [(b3, .cells ⟨[.slice co KC cc]⟩ 91 (0, 0))]] ∧ Mag F2 rv (remJ 1000000000 A C j) ∧ OwnS 2 1 (.slice (some ⟨bq, 0, none⟩) K K) K (cel K (fq (A / C) j)) gq) (fun _ _ => False) (⟨fun _ _ h => h, .slice none 0 0, _, rfl, hm5, hq0⟩) (fun j => [(8, .int .i64 (j : Int)), (9, .int .i64 ((dig 1000000000 A j : Nat) : Int)), (3, .pointer (some ⟨b3, 0, none⟩)), (6, .pointer (some ⟨b6, 0, none⟩)), (7, .pointer (some ⟨b7, 0, none⟩))]) ?_ ?_ ?_ ?_
  · (clear S; intro r j w F1 G1 a KA S hKA)
    (refine wpIn_seq_k ?_; intro Z hZ)
    refine wpi_region rfl ?_
    (revert S a; revert hZ Z; refine go10 3 ?_; intro a S)
    refine wpi_region rfl ?_
    (revert S a; refine go00 2 ?_; intro a S)
    (refine hKA _ ?_; refine S.keep ?_; repeat (first | exact trivial | refine ⟨rfl, ?_⟩))
  · (clear S; intro r j w F1 G1 a hj hF1 hI S)
    (obtain ⟨hF2, rv, gq, rfl, hrv, hq⟩ := hI; have hrv0 := hrv; obtain ⟨ro, rc, rfl, hrc, hrp⟩ := hrv0; have hdj := dig_lt b2 A j; have hrk := hrK (j + 1); have hrle := hrl (j + 1); have huF := (hu.mono hF5).mono hF2; generalize w = W0 at *; generalize hKK : keys _ = KK at S)
    refine wpIn_block ?_
    (refine wpIn_seq_k ?_; intro Z hZ)
    refine wpi_region rfl ?_
    (revert S a; refine go00 1 ?_; intro a S)
    (refine wpl_buildSlice S rfl rfl rfl rfl rfl rfl (by rfl) (by simp [Value.cells, splice, splice]) rfl (by rfl) (by rfl) ?_; clear S a; intro b21 a w hown S)
    (revert S a; refine go00 1 ?_; intro a S)
    (refine wpl_appendSl S rfl rfl rfl rfl rfl rfl hown (by rfl) (by rw [cel_len, Nat.mul_one]) hrp cel_one (by omega) (by omega) ?_; clear hown S a; intro v g a w hown S)
    (have hle := add_le (G1 := []) S; obtain ⟨vo, vc, rfl, -, -⟩ := hown.at; replace S := St.freeze (G1 := []) S; (try simp only [List.nil_append] at S); have hslg := hown.slC F1; obtain ⟨R1, hR1⟩ : ∃ R1, R1 = remJ 1000000000 A C (j + 1) * 1000000000 + dig 1000000000 A j := ⟨_, rfl⟩; have hslg2 : SlC (F1.add g) (.slice vo (1 + nd 1000000000 (remJ 1000000000 A C (j + 1))) vc) (1 + nd 1000000000 (remJ 1000000000 A C (j + 1))) (cel (1 + nd 1000000000 (remJ 1000000000 A C (j + 1))) (dig 1000000000 R1)) := (by rw [hR1, Nat.add_comm 1, ← cel_push (by omega), Nat.add_comm _ 1]; exact hslg); have hR1lt : R1 < 1000000000 ^ (1 + nd 1000000000 (remJ 1000000000 A C (j + 1))) := (by rw [hR1, Nat.add_comm 1]; exact push_lt (by omega) (lt_nd b2 _)); have hR1K : nd 1000000000 R1 ≤ 10001 := Nat.le_trans (nd_le hR1lt b2) (by omega); have hR1C : R1 < C * 1000000000 := (by omega); clear hown)
    (first | (refine wpl_call0 S rfl rfl rfl rfl rfl rfl (trimCt R1 _ _ _ hR1lt (by omega) hslg2) rfl ?_; clear S a; intro u1 a w hu1 S; have hu10 := hu1; obtain ⟨uo, uc, rfl, -, -⟩ := hu10) | (refine wpl_call0 S rfl rfl rfl rfl rfl rfl (trimCt (A / C) K _ _ hQ (by omega) hqf) rfl ?_; clear S a; intro u9 a w hu9 S))
    (refine wpl_store1 S rfl rfl rfl rfl rfl rfl (by first | (simp; done) | (simp [Value.cells]; done) | exact Nat.le_of_ble_eq_true rfl) ?_; clear S; intro w S)
    (revert S a; revert hZ Z; refine go10 2 ?_; intro a S)
    (refine wpIn_seq_k ?_; intro Z hZ)
    refine wpi_region rfl ?_
    (revert S a; revert hZ Z; refine go10 4 ?_; intro a S)
    (refine wpIn_seq_k ?_; intro Z hZ)
    refine wpIn_block ?_
    refine wpi_loop (fun m a w' => ∃ (lo hi : Nat) (F3 : Heap), m = hi - lo ∧ lo < hi ∧ hi ≤ 1000000000 ∧ C * lo ≤ R1 ∧ R1 < C * hi ∧ (∀ b o, F1 b = some o → F3 b = some o) ∧ Mag F3 (.slice uo (nd 1000000000 R1) uc) R1 ∧ St 53 [(8, .int .i64 (j : Int)), (3, .pointer (some ⟨b3, 0, none⟩)), (6, .pointer (some ⟨b6, 0, none⟩)), (7, .pointer (some ⟨b7, 0, none⟩)), (10, .int .i64 (lo : Int)), (11, .int .i64 (hi : Int))] W0 F1 KK F3 [[(b7, .cells ⟨[.slice uo (nd 1000000000 R1) uc]⟩ 91 (0, 0))], [(b6, .cells ⟨[.slice (some ⟨bq, 0, none⟩) K K]⟩ 91 (0, 0))], gq, [(b3, .cells ⟨[.slice co KC cc]⟩ 91 (0, 0))]] a w') ?_ ?_
    · (refine ⟨1000000000, 0, 1000000000, F1.add g, rfl, by decide, Nat.le_refl _, by omega, hR1C, hle, hu1, ?_⟩; refine S.keep ?_; repeat (first | exact trivial | refine ⟨rfl, ?_⟩))
    (clear S; rintro m a w ⟨lo, hi, F3, rfl, hlh, hhi, hlo, hRhi, hF3, hu3, S⟩)
    iterate 2 (refine wpIn_seq_k ?_; intro Z hZ)
    refine wpi_region rfl ?_
    (revert S a; revert hZ Z; refine go10 6 ?_; intro a S)
    refine wpi_split S rfl (fun h => ?_) (fun h => ?_)
    · (skip; (try simp only [tq] at h))
      refine wpIn_skip ?_
      (refine hZ _ _ ?_; clear hZ Z)
      refine wpIn_block ?_
      (refine wpIn_seq_k ?_; intro Z hZ)
      refine wpi_region rfl ?_
      (revert S a; refine go00 3 ?_; intro a S)
      (refine wpl_v S rfl rfl rfl (sv_quo S rfl rfl rfl (by first | omega | (simp only [List.length_append, List.length_cons, List.length_nil]; omega))) ?_; clear S a; intro a S)
      (revert S a; revert hZ Z; refine go10 3 ?_; intro a S)
      (refine wpIn_seq_k ?_; intro Z hZ)
      (obtain ⟨mid, hmid⟩ : ∃ mid, mid = (lo + hi) / 2 := ⟨_, rfl⟩; replace S := S.keep (L' := [(8, .int .i64 (j : Int)), (3, .pointer (some ⟨b3, 0, none⟩)), (6, .pointer (some ⟨b6, 0, none⟩)), (7, .pointer (some ⟨b7, 0, none⟩)), (10, .int .i64 (lo : Int)), (11, .int .i64 (hi : Int)), (12, .int .i64 (mid : Int))]) ⟨rfl, rfl, rfl, rfl, rfl, rfl, reg (by omega), trivial⟩)
      (refine wpi_mixM [0, 1, 3, 5] [0, 3] [] (.one 0 (.one 1 (.one 3 (.one 2 (.one 4 (.one 5 .nil)))))) [b3, b7] S mixed rfl (by kernel_rfl) ?_; clear S; intro w S)
      (refine wpm_o b3 S rfl rfl rfl (want_none _ rfl) rfl rfl ?_; clear S a; intro a S)
      (refine wpm_p S rfl rfl rfl (want_none _ rfl) rfl rfl ?_; clear S a; intro a S)
      (refine wpm_o b7 S rfl rfl rfl (want_none _ rfl) rfl rfl ?_; clear S a; intro a S)
      refine wpm_eff rfl rfl (kwa S) ?_
      (first | (refine wpl_callF S rfl rfl rfl rfl rfl rfl (timesCt C mid _ F3 (by omega) (by omega) (huF.mono hF3)) rfl ?_; clear S a; intro t1 F4 a w ht1 hF4 S; skip) | (refine wpl_callF S rfl rfl rfl rfl rfl rfl (timesCt C lo _ F3 (by omega) (by omega) (huF.mono hF3)) rfl ?_; clear S a; intro t1 F4 a w ht1 hF4 S; skip))
      refine wpList_nil ?_
      refine wpm_eff rfl rfl (kwa S) ?_
      (refine wpl_call0 S rfl rfl rfl rfl rfl rfl (sizesCt (C * mid) R1 _ _ F4 (Nat.le_trans (nd_one (by omega) (by rw [hKC]; exact hlC)) (by omega)) (by omega) ht1 (hu3.mono hF4)) rfl ?_; clear S a; intro v a w hv S; subst hv)
      refine wpList_nil ?_
      (refine wpm_p S rfl rfl rfl (want_none _ rfl) rfl rfl ?_; clear S a; intro a S)
      (refine wpm_nil (kwa S) (hZ _ _ ?_); clear hZ Z)
      refine wpi_split S rfl (fun h => ?_) (fun h => ?_)
      · (skip; (try simp only [tq] at h))
        refine wpi_region rfl ?_
        (revert S a; refine go00 3 ?_; intro a S)
        change ∃ m', _ ∧ _
        exact zzOver0
      (skip; (try simp only [tq] at h))
      refine wpi_region rfl ?_
      (revert S a; refine go00 3 ?_; intro a S)
      change ∃ m', _ ∧ _
      exact zzOver0
    (skip; (try simp only [tq] at h))
    (refine wpIn_exit ?_; conv => whnf)
    clear hZ Z
    (refine hZ _ _ ?_; clear hZ Z)
    (refine wpIn_seq_k ?_; intro Z hZ)
    (have hlod := half_q hlo hRhi hlh (by omega); have hdd := dig_div (A := A) (j := j) b2 hC; rw [← hR1, ← hlod] at hdd; have hrd : R1 - C * lo = remJ 1000000000 A C j := (by rw [rem_step, ← hR1, hlod]; have := Nat.div_add_mod R1 C; omega))
    refine wpi_region rfl ?_
    (revert S a; refine go00 4 ?_; intro a S)
    (refine wpl_storeOwn S rfl rfl rfl rfl rfl hq rfl (by omega) ?_; clear hq S; intro gq w hq S)
    (revert S a; revert hZ Z; refine go10 2 ?_; intro a S)
    (refine wpi_mixM [0, 1, 2] [0, 1] [5] (.one 0 (.one 1 (.one 2 (.one 3 (.one 4 (.one 5 .nil)))))) [b7, b3] S mixed rfl (by kernel_rfl) ?_; clear S; intro w S)
    (refine wpm_o b7 S rfl rfl rfl (want_none _ rfl) rfl rfl ?_; clear S a; intro a S)
    (refine wpm_o b3 S rfl rfl rfl (want_none _ rfl) rfl rfl ?_; clear S a; intro a S)
    (refine wpm_p S rfl rfl rfl (want_none _ rfl) rfl rfl ?_; clear S a; intro a S)
    refine wpm_eff rfl rfl (kwa S) ?_
    (first | (refine wpl_callF S rfl rfl rfl rfl rfl rfl (timesCt C mid _ F3 (by omega) (by omega) (huF.mono hF3)) rfl ?_; clear S a; intro t1 F4 a w ht1 hF4 S; skip) | (refine wpl_callF S rfl rfl rfl rfl rfl rfl (timesCt C lo _ F3 (by omega) (by omega) (huF.mono hF3)) rfl ?_; clear S a; intro t1 F4 a w ht1 hF4 S; skip))
    refine wpList_nil ?_
    refine wpm_eff rfl rfl (kwa S) ?_
    (refine wpl_callF S rfl rfl rfl rfl rfl rfl (minusCt R1 (C * lo) _ _ F4 hlo (by omega) (Nat.le_trans (nd_one (by omega) (by rw [hKC]; exact hlC)) (by omega)) (hu3.mono hF4) ht1) rfl ?_; clear S a; intro u8 F8 a w hu8 hF8 S; have hu80 := hu8; obtain ⟨u8o, u8c, rfl, -, -⟩ := hu80)
    refine wpList_nil ?_
    refine wpm_eff rfl rfl (kwa S) ?_
    (refine wpl_store1 S rfl rfl rfl rfl rfl rfl (by first | (simp; done) | (simp [Value.cells]; done) | exact Nat.le_of_ble_eq_true rfl) ?_; clear S; intro w S)
    refine wpList_nil ?_
    refine wpm_nil (fun h => absurd h (by decide)) ?_
    subst hKK
    refine round_normal S.tr ?_
    (refine ⟨fun b o h => hF8 _ _ (hF4 _ _ (hF3 _ _ (hF2 _ _ h))), _, _, rfl, ?_, own_q hq (congrArg _ ?_)⟩; (rw [← hrd]; exact hu8); rw [hdd])
  · (clear S; intro D F1 G1 a w hF1 hI S)
    (obtain ⟨hF2, rv, gq, rfl, hrv, hq⟩ := hI; have hle9 := add_le (G1 := [[(D, .deferred (some []))], [(b7, .cells ⟨[rv]⟩ 91 (0, 0))], [(b6, .cells ⟨[.slice (some ⟨bq, 0, none⟩) K K]⟩ 91 (0, 0))]]) S; replace S := St.freeze (G1 := [[(D, .deferred (some []))], [(b7, .cells ⟨[rv]⟩ 91 (0, 0))], [(b6, .cells ⟨[.slice (some ⟨bq, 0, none⟩) K K]⟩ 91 (0, 0))]]) S; (simp only [List.cons_append, List.nil_append] at S); have hqf := hq.slC F1; rw [show cel K (fq (A / C) 0) = cel K (dig 1000000000 (A / C)) from cel_congr fun i hi => (by unfold fq; rw [if_pos (Nat.zero_le _)])] at hqf)
    (refine hZ _ _ ?_; clear hZ Z)
    (refine wpIn_seq_k ?_; intro Z hZ)
    (refine wpi_mixM [0, 2] [0, 2] [] (.one 0 (.one 2 (.one 1 (.one 3 (.one 4 .nil))))) [b6, b7] S mixed rfl (by kernel_rfl) ?_; clear S; intro w S)
    (refine wpm_o b6 S rfl rfl rfl (want_none _ rfl) rfl rfl ?_; clear S a; intro a S)
    (refine wpm_o b7 S rfl rfl rfl (want_none _ rfl) rfl rfl ?_; clear S a; intro a S)
    refine wpm_eff rfl rfl (kwa S) ?_
    (first | (refine wpl_call0 S rfl rfl rfl rfl rfl rfl (trimCt R1 _ _ _ hR1lt (by omega) hslg2) rfl ?_; clear S a; intro u1 a w hu1 S; have hu10 := hu1; obtain ⟨uo, uc, rfl, -, -⟩ := hu10) | (refine wpl_call0 S rfl rfl rfl rfl rfl rfl (trimCt (A / C) K _ _ hQ (by omega) hqf) rfl ?_; clear S a; intro u9 a w hu9 S))
    refine wpList_nil ?_
    refine wpm_eff rfl rfl (kwa S) ?_
    (revert S a; refine go00 2 ?_; intro a S)
    refine wpm_eff rfl rfl (kwa S) ?_
    (revert S a; refine go00 2 ?_; intro a S)
    (refine wpm_nil (kwa S) (hZ _ _ ?_); clear hZ Z)
    refine wpIn_ret ?_
    (refine fin_retM S fun w S => ?_; try (dsimp only at S))
    refine ⟨_, results2 Tryz.results104 (RV.tmp S rfl) (RV.tmp S rfl), ?_⟩
    (have h9 := hrv.mono hle9; rw [rem_zero] at h9; exact ⟨_, _, rfl, hu9, h9⟩)
  (clear S; intro D F1 G1 a w hF1 hI S)
  exact hI.elim
end Go.Proofs.YtigblodhdfnleaaGreatDoor
namespace Go.Proofs.YtigblodhdfnleaaGreatDoor
open Go Go.Wk Go.Num
set_option linter.unusedSimpArgs false
set_option linter.unusedVariables false

def valS (s : List UInt8) : Int := toZ (negS s, decV (bodyS s))
def showZ (z : Int) : List UInt8 × Int := showS (decide (z < 0)) z.natAbs
def ansZ (e : Int) (x : List UInt8 × Int) : List UInt8 × Int := if e = 0 then x else ([], e)
theorem showS_zero (n : Bool) : showS n 0 = ([48], 0) := by unfold showS; rw [if_pos rfl]
theorem showS_toZ (n : Bool) (N : Nat) : showS n N = showZ (toZ (n, N)) := by
  unfold showZ
  rcases Nat.eq_zero_or_pos N with e | e
  · subst e
    have : toZ (n, 0) = 0 := by unfold toZ; cases n <;> rfl
    rw [this, showS_zero]; rfl
  · cases n
    · have h : toZ (false, N) = (N : Int) := rfl
      rw [h, show decide ((N : Int) < 0) = false by simp]; rfl
    · have h : toZ (true, N) = -(N : Int) := rfl
      rw [h, show decide (-(N : Int) < 0) = true by simp; omega, Int.natAbs_neg]; rfl
theorem toZ_not (n : Bool) (N : Nat) : toZ (!n, N) = - toZ (n, N) := by cases n <;> simp [toZ]
theorem toZ_mul (n m : Bool) (N M : Nat) : toZ (n != m, N * M) = toZ (n, N) * toZ (m, M) := by
  cases n <;> cases m <;> simp [toZ, Int.neg_mul, Int.mul_neg]
theorem addA_eq (s t : List UInt8) : addA s t = ansZ (bothE s t) (showZ (valS s + valS t)) := by
  unfold addA ansZ
  split
  · rw [showS_toZ]; congr 1; exact toZ_addS _ _ _ _
  · rfl
theorem subA_eq (s t : List UInt8) : subA s t = ansZ (bothE s t) (showZ (valS s - valS t)) := by
  unfold subA ansZ
  split
  · rw [showS_toZ]; congr 1
    rw [Int.sub_eq_add_neg]
    have := toZ_addS (negS s) (decV (bodyS s)) (!negS t) (decV (bodyS t))
    rw [toZ_not] at this; exact this
  · rfl
theorem mulA_eq (s t : List UInt8) : mulA s t = ansZ (bothE s t) (showZ (valS s * valS t)) := by
  unfold mulA ansZ
  split
  · rw [showS_toZ, toZ_mul]; rfl
  · rfl
theorem negA_eq (s : List UInt8) : negA s = ansZ (checkS s) (showZ (- valS s)) := by
  unfold negA ansZ
  split
  · rw [showS_toZ, toZ_not]; rfl
  · rfl

/-! ### a number's text -/
theorem body_neg (l : List UInt8) : bodyS (45 :: l) = l ∧ negS (45 :: l) = true := by unfold bodyS negS; simp
theorem dd_unique : ∀ (n : Nat) (l : List UInt8), l.length = n → l.all isD = true → l ≠ [] → (l.head? = some 48 → l = [48]) → Lib.decDigits (decV l) = l := by
  intro n
  induction n with
  | zero => intro l hl _ hne; exact absurd (List.length_eq_zero_iff.1 hl) hne
  | succ n ih =>
    intro l hl hall hne hh
    obtain ⟨m, c, rfl⟩ : ∃ m c, l = m ++ [c] := ⟨l.dropLast, l.getLast hne, (List.dropLast_concat_getLast hne).symm⟩
    rw [List.all_append, Bool.and_eq_true] at hall
    have hc : isD c = true := by simpa using hall.2
    have hc2 := (isD_iff c).1 hc
    have hdv : dv c = c.toNat - 48 := rfl
    have hce : UInt8.ofNat (48 + dv c) = c := by rw [hdv, show 48 + (c.toNat - 48) = c.toNat by omega, UInt8.ofNat_toNat]
    rw [decV_snoc]
    cases m with
    | nil =>
      rw [decV_nil, Nat.mul_zero, Nat.zero_add, dd_small (dv_lt hc), hce]; rfl
    | cons x r =>
      have hx : x ≠ 48 := fun e => by
        have := hh (by rw [e]; rfl)
        have := congrArg List.length this
        simp at this
      have hm := ih (x :: r) (by simpa using hl) hall.1 (by simp) (fun e => absurd (by simpa using e) hx)
      have hpos : 0 < decV (x :: r) := by
        rcases Nat.eq_zero_or_pos (decV (x :: r)) with e | e
        · rw [e, dd_small (by decide)] at hm
          simp only [List.cons.injEq] at hm
          exact absurd hm.1.symm hx
        · exact e
      have hlt := dv_lt hc
      rw [dd_big (by omega), show (10 * decV (x :: r) + dv c) / 10 = decV (x :: r) by omega, show (10 * decV (x :: r) + dv c) % 10 = dv c by omega, hm, hce]
theorem check_parts {s : List UInt8} (h : checkS s = 0) : (bodyS s).all isD = true ∧ (bodyS s).length ≤ 200 ∧ bodyS s ≠ [] ∧ ((bodyS s).head? = some 48 → s = [48]) := by
  obtain ⟨h1, h2, h3⟩ := check_digits h
  refine ⟨h1, h2, h3, fun e => ?_⟩
  by_cases e2 : s = [48]
  · exact e2
  · unfold checkS at h
    rw [if_pos (Or.inr ⟨e, e2⟩)] at h; cases h
theorem canon_body {s : List UInt8} (h : checkS s = 0) : Lib.decDigits (decV (bodyS s)) = bodyS s := by
  obtain ⟨h1, h2, h3, h4⟩ := check_parts h
  refine dd_unique _ _ rfl h1 h3 fun e => ?_
  have := h4 e; subst this; decide
theorem s_of_body (s : List UInt8) : s = (if negS s = true then [45] else []) ++ bodyS s := by
  unfold negS bodyS
  cases s with
  | nil => simp
  | cons c r => by_cases h : c = 45 <;> simp [h]
/-- A number is shown as it is written. -/
theorem show_val {s : List UInt8} (h : checkS s = 0) : showZ (valS s) = (s, 0) := by
  obtain ⟨h1, h2, h3, h4⟩ := check_parts h
  have hc := canon_body h
  rw [show showZ (valS s) = showS (negS s) (decV (bodyS s)) from (showS_toZ _ _).symm]
  unfold showS
  by_cases h0 : decV (bodyS s) = 0
  · rw [if_pos h0]
    rw [h0, dd_small (by decide)] at hc
    have := h4 (by rw [← hc]; rfl)
    rw [this]
  · rw [if_neg h0, hc, if_neg (by omega), ← s_of_body]
theorem val_zero {s : List UInt8} (h : checkS s = 0) : valS s = 0 ↔ s = [48] := by
  constructor
  · intro e
    have := show_val h
    rw [e] at this
    exact (congrArg Prod.fst this).symm
  · rintro rfl; decide
theorem t2 : 2 ≤ 10 := by decide
theorem toZ_abs (n : Bool) (N : Nat) : (toZ (n, N)).natAbs = N := by cases n <;> simp [toZ]
theorem toZ_neg {N : Nat} (n : Bool) (h : N ≠ 0) : decide (toZ (n, N) < 0) = n := by cases n <;> simp [toZ] <;> omega
theorem tdiv_sign {x y : Int} : toZ (decide (x < 0) != decide (y < 0), x.natAbs / y.natAbs) = x.tdiv y := by
  by_cases h1 : x < 0 <;> by_cases h2 : y < 0
  · obtain ⟨a, rfl⟩ := Int.eq_negSucc_of_lt_zero h1
    obtain ⟨b, rfl⟩ := Int.eq_negSucc_of_lt_zero h2
    simp [toZ, Int.tdiv, h1, h2]
  · obtain ⟨a, rfl⟩ := Int.eq_negSucc_of_lt_zero h1
    obtain ⟨b, rfl⟩ := Int.eq_ofNat_of_zero_le (Int.not_lt.1 h2)
    simp [toZ, Int.tdiv, h1, h2]
  · obtain ⟨a, rfl⟩ := Int.eq_ofNat_of_zero_le (Int.not_lt.1 h1)
    obtain ⟨b, rfl⟩ := Int.eq_negSucc_of_lt_zero h2
    simp [toZ, Int.tdiv, h1, h2]
  · obtain ⟨a, rfl⟩ := Int.eq_ofNat_of_zero_le (Int.not_lt.1 h1)
    obtain ⟨b, rfl⟩ := Int.eq_ofNat_of_zero_le (Int.not_lt.1 h2)
    simp [toZ, Int.tdiv, h1, h2]
theorem tmod_sign {x y : Int} : toZ (decide (x < 0), x.natAbs % y.natAbs) = x.tmod y := by
  by_cases h1 : x < 0 <;> by_cases h2 : y < 0
  · obtain ⟨a, rfl⟩ := Int.eq_negSucc_of_lt_zero h1
    obtain ⟨b, rfl⟩ := Int.eq_negSucc_of_lt_zero h2
    simp [toZ, Int.tmod, h1, h2]
  · obtain ⟨a, rfl⟩ := Int.eq_negSucc_of_lt_zero h1
    obtain ⟨b, rfl⟩ := Int.eq_ofNat_of_zero_le (Int.not_lt.1 h2)
    simp [toZ, Int.tmod, h1, h2]
  · obtain ⟨a, rfl⟩ := Int.eq_ofNat_of_zero_le (Int.not_lt.1 h1)
    obtain ⟨b, rfl⟩ := Int.eq_negSucc_of_lt_zero h2
    simp [toZ, Int.tmod, h1, h2]
  · obtain ⟨a, rfl⟩ := Int.eq_ofNat_of_zero_le (Int.not_lt.1 h1)
    obtain ⟨b, rfl⟩ := Int.eq_ofNat_of_zero_le (Int.not_lt.1 h2)
    simp [toZ, Int.tmod, h1, h2]
theorem dd_nd {N : Nat} (h : N ≠ 0) : (Lib.decDigits N).length = nd 10 N := by
  have h1 : nd 10 N ≤ (Lib.decDigits N).length := nd_le (by have := decV_lt _ (dd_isD N); rwa [dd_val] at this) t2
  have h2 := nd_pos t2 (S := N) (by omega)
  have h3 := dd_len (lt_nd t2 N) (by omega)
  omega
end Go.Proofs.YtigblodhdfnleaaGreatDoor
namespace Go.Proofs.YtigblodhdfnleaaGreatDoor
open Go Go.Wk Go.Num
set_option linter.unusedSimpArgs false
set_option linter.unusedVariables false
attribute [local irreducible] Go.wpList Go.Code.wp Go.wpStill Go.Wk.wpPre Go.bodyPost Go.Calls Go.Wk.Ct Go.Wk.OwnS
attribute [local irreducible] Go.Wk.wpG Go.Wk.wpM

def divE (s t : List UInt8) : Int := if bothE s t = 0 then (if decV (bodyS t) = 0 then 81 else 0) else bothE s t
def zeroB : Value := .agg ⟨[.bool false, .slice none 0 0]⟩
def DivV (F : Heap) (u : Value) (s t : List UInt8) : Prop :=
  if divE s t = 0 then ∃ q r, u = .tuple ⟨[.agg ⟨[.bool (negS s != negS t), q]⟩, .agg ⟨[.bool (negS s), r]⟩, .int .i64 0]⟩ ∧ Mag F q (decV (bodyS s) / decV (bodyS t)) ∧ Mag F r (decV (bodyS s) % decV (bodyS t))
  else u = .tuple ⟨[zeroB, zeroB, .int .i64 (divE s t)]⟩
set_option maxHeartbeats 2000000 in
theorem dividedErr (s t : List UInt8) (F : Heap) (hs : s.length ≤ 1000000) (ht : t.length ≤ 1000000) (hbe : ¬ bothE s t = 0) : Ct Tryz.prog 77 [.string (bs s), .string (bs t)] F [] (fun F' _ u => DivV F' u s t) := by
  have hde : divE s t = bothE s t := by unfold divE; rw [if_neg hbe]
  refine Ct.enter Tryz.func77 rfl Tryz.ntmps77 rfl fun w0 a S => ?_
  refine wp_sr fun Z hZ => ?_
  (refine wpl_alloc S rfl rfl rfl rfl ?_; clear S a; intro b4 a w S)
  (refine wpl_alloc S rfl rfl rfl rfl ?_; clear S a; intro b5 a w S)
  (revert S a; revert hZ Z; refine go11 6 ?_; intro Z hZ a S)
  (refine wpl_callF S rfl rfl rfl rfl rfl rfl (bothCt s t F (by omega) (by omega)) rfl ?_; clear S a; intro v F1 a w hv hF1 S; rw [BothV, if_neg hbe] at hv; subst hv)
  (revert S a; refine go00 4 ?_; intro a S)
  (refine wpl_alloc S rfl rfl rfl rfl ?_; clear S a; intro b7 a w S)
  (refine wpl_alloc S rfl rfl rfl rfl ?_; clear S a; intro b8 a w S)
  iterate 2 (refine wpl_storeO S rfl rfl rfl rfl rfl (by rfl) (by simp [Value.cells, Value.oneCell', splice]) (by rfl) ?_; clear S; intro w S)
  (revert S a; revert hZ Z; refine go11 11 ?_; intro Z hZ a S)
  refine wpc_split S rfl (fun h => ?_) (fun h => ?_)
  · (skip; (try simp only [tq] at h))
    (revert S a; refine go01 4 ?_; intro Z hZ a S)
    iterate 2 (refine wpl_storeO S rfl rfl rfl rfl rfl (by rfl) (by simp [Value.cells, Value.oneCell', splice]) (by rfl) ?_; clear S; intro w S)
    (revert S a; revert hZ Z; refine go10 3 ?_; intro a S)
    refine wp_ret (fin_ret S (results3 Tryz.results77 (RV.cellO S rfl (by rfl)) (RV.cellO S rfl (by rfl)) (RV.tmp S rfl)) ?_)
    (unfold DivV; rw [if_neg (by rw [hde]; exact hbe), hde]; rfl)
  (skip; (try simp only [tq] at h); exact absurd h hbe)
set_option maxHeartbeats 2000000 in
theorem dividedZero (s t : List UInt8) (F : Heap) (hs : s.length ≤ 1000000) (ht : t.length ≤ 1000000) (hbe : bothE s t = 0) (h0 : decV (bodyS t) = 0) : Ct Tryz.prog 77 [.string (bs s), .string (bs t)] F [] (fun F' _ u => DivV F' u s t) := by
  have hde : divE s t = 81 := by unfold divE; rw [if_pos hbe, if_pos h0]
  have hn0 : nd 1000000000 (decV (bodyS t)) = 0 := by rw [h0, nd_zero]
  refine Ct.enter Tryz.func77 rfl Tryz.ntmps77 rfl fun w0 a S => ?_
  refine wp_sr fun Z hZ => ?_
  (refine wpl_alloc S rfl rfl rfl rfl ?_; clear S a; intro b4 a w S)
  (refine wpl_alloc S rfl rfl rfl rfl ?_; clear S a; intro b5 a w S)
  (revert S a; revert hZ Z; refine go11 6 ?_; intro Z hZ a S)
  (refine wpl_callF S rfl rfl rfl rfl rfl rfl (bothCt s t F (by omega) (by omega)) rfl ?_; clear S a; intro v F1 a w hv hF1 S; rw [BothV, if_pos hbe] at hv; obtain ⟨p, q, rfl, hp, hq⟩ := hv; have hp0 := hp; have hq0 := hq; obtain ⟨po, pc, rfl, -, -⟩ := hp0; obtain ⟨qo, qc, rfl, -, -⟩ := hq0)
  (revert S a; refine go00 4 ?_; intro a S)
  (refine wpl_alloc S rfl rfl rfl rfl ?_; clear S a; intro b7 a w S)
  (refine wpl_alloc S rfl rfl rfl rfl ?_; clear S a; intro b8 a w S)
  iterate 2 (refine wpl_storeO S rfl rfl rfl rfl rfl (by rfl) (by simp [Value.cells, Value.oneCell', splice]) (by rfl) ?_; clear S; intro w S)
  (revert S a; revert hZ Z; refine go11 11 ?_; intro Z hZ a S)
  refine wpc_split S rfl (fun h => ?_) (fun h => ?_)
  · (skip; (try simp only [tq] at h); exact absurd trivial h)
  (skip; (try simp only [tq] at h))
  (revert S a; refine go00 8 ?_; intro a S)
  refine wpc_split S rfl (fun h => ?_) (fun h => ?_)
  · (skip; (try simp only [tq] at h))
    (revert S a; refine go01 3 ?_; intro Z hZ a S)
    iterate 2 (refine wpl_storeO S rfl rfl rfl rfl rfl (by rfl) (by simp [Value.cells, Value.oneCell', splice]) (by rfl) ?_; clear S; intro w S)
    (revert S a; revert hZ Z; refine go10 3 ?_; intro a S)
    refine wp_ret (fin_ret S (results3 Tryz.results77 (RV.cellO S rfl (by rfl)) (RV.cellO S rfl (by rfl)) (RV.tmp S rfl)) ?_)
    (unfold DivV; rw [if_neg (by rw [hde]; decide), hde]; rfl)
  (skip; (try simp only [tq] at h); omega)
set_option maxHeartbeats 2000000 in
theorem dividedOk (s t : List UInt8) (F : Heap) (hs : s.length ≤ 1000000) (ht : t.length ≤ 1000000) (hbe : bothE s t = 0) (h0 : ¬ decV (bodyS t) = 0) : Ct Tryz.prog 77 [.string (bs s), .string (bs t)] F [] (fun F' _ u => DivV F' u s t) := by
  have hde : divE s t = 0 := by unfold divE; rw [if_pos hbe, if_neg h0]
  have hn0 : nd 1000000000 (decV (bodyS t)) ≠ 0 := fun e => h0 (nd_eq_zero b2 e)
  have hn1 := nd_num (both_ok hbe).1
  have hn2 := nd_num (both_ok hbe).2
  refine Ct.enter Tryz.func77 rfl Tryz.ntmps77 rfl fun w0 a S => ?_
  refine wp_sr fun Z hZ => ?_
  (refine wpl_alloc S rfl rfl rfl rfl ?_; clear S a; intro b4 a w S)
  (refine wpl_alloc S rfl rfl rfl rfl ?_; clear S a; intro b5 a w S)
  (revert S a; revert hZ Z; refine go11 6 ?_; intro Z hZ a S)
  (refine wpl_callF S rfl rfl rfl rfl rfl rfl (bothCt s t F (by omega) (by omega)) rfl ?_; clear S a; intro v F1 a w hv hF1 S; rw [BothV, if_pos hbe] at hv; obtain ⟨p, q, rfl, hp, hq⟩ := hv; have hp0 := hp; have hq0 := hq; obtain ⟨po, pc, rfl, -, -⟩ := hp0; obtain ⟨qo, qc, rfl, -, -⟩ := hq0)
  (revert S a; refine go00 4 ?_; intro a S)
  (refine wpl_alloc S rfl rfl rfl rfl ?_; clear S a; intro b7 a w S)
  (refine wpl_alloc S rfl rfl rfl rfl ?_; clear S a; intro b8 a w S)
  iterate 2 (refine wpl_storeO S rfl rfl rfl rfl rfl (by rfl) (by simp [Value.cells, Value.oneCell', splice]) (by rfl) ?_; clear S; intro w S)
  (revert S a; revert hZ Z; refine go11 11 ?_; intro Z hZ a S)
  refine wpc_split S rfl (fun h => ?_) (fun h => ?_)
  · (skip; (try simp only [tq] at h); exact absurd trivial h)
  (skip; (try simp only [tq] at h))
  (revert S a; refine go00 8 ?_; intro a S)
  refine wpc_split S rfl (fun h => ?_) (fun h => ?_)
  · (skip; (try simp only [tq] at h); omega)
  (skip; (try simp only [tq] at h))
  (revert S a; revert hZ Z; refine go11 7 ?_; intro Z hZ a S)
  (refine wpl_callF S rfl rfl rfl rfl rfl rfl (overCt (decV (bodyS s)) (decV (bodyS t)) _ _ F1 (by omega) (by omega) (by omega) hp hq) rfl ?_; clear S a; intro v2 F2 a w hv2 hF2 S; obtain ⟨q2, r2, rfl, hq2, hr2⟩ := hv2; have hq20 := hq2; have hr20 := hr2; obtain ⟨q2o, q2c, rfl, -, -⟩ := hq20; obtain ⟨r2o, r2c, rfl, -, -⟩ := hr20)
  (revert S a; revert hZ Z; refine go10 7 ?_; intro a S)
  (refine wp_seq_k ?_; intro Z hZ)
  (refine wpc_mixM [0, 1, 2, 3, 4, 5, 6, 7, 8, 9, 10] [1, 3, 8] [] (.one 0 (.one 1 (.one 2 (.one 3 (.one 4 (.one 5 (.one 6 (.one 7 (.one 8 (.one 9 (.one 10 (.one 11 (.one 12 (.one 13 .nil)))))))))))))) [b7, b8] S mixed (by kernel_rfl) ?_; clear S; intro w S)
  (refine wpm_f S rfl rfl rfl (want_none _ rfl) rfl rfl ?_; clear S a; intro a S)
  (refine wpm_o b7 S rfl rfl rfl (want_none _ rfl) rfl rfl ?_; clear S a; intro a S)
  (refine wpm_f S rfl rfl rfl (want_none _ rfl) rfl rfl ?_; clear S a; intro a S)
  (refine wpm_o b8 S rfl rfl rfl (want_none _ rfl) rfl rfl ?_; clear S a; intro a S)
  (refine wpm_s S rfl rfl rfl (want_none _ rfl) rfl rfl ?_; clear S a; intro a S)
  (refine wpm_p S rfl rfl rfl (want_none _ rfl) rfl rfl ?_; clear S a; intro a S)
  (refine wpm_b S rfl rfl rfl (want_none _ rfl) rfl rfl ?_; clear S a; intro a S)
  (refine wpm_f S rfl rfl rfl (want_none _ rfl) rfl rfl ?_; clear S a; intro a S)
  (refine wpm_o b7 S rfl rfl rfl (want_none _ rfl) rfl rfl ?_; clear S a; intro a S)
  (refine wpm_p S rfl rfl rfl (want_none _ rfl) rfl rfl ?_; clear S a; intro a S)
  (refine wpm_b S rfl rfl rfl (want_none _ rfl) rfl rfl ?_; clear S a; intro a S)
  refine wpm_eff rfl rfl (kwa S) ?_
  (refine wpl_storeO S rfl rfl rfl rfl rfl (by rfl) (by simp [Value.cells, Value.oneCell', splice]) (by rfl) ?_; clear S; intro w S)
  refine wpList_nil ?_
  refine wpm_eff rfl rfl (kwa S) ?_
  (refine wpl_storeO S rfl rfl rfl rfl rfl (by rfl) (by simp [Value.cells, Value.oneCell', splice]) (by rfl) ?_; clear S; intro w S)
  refine wpList_nil ?_
  refine wpm_eff rfl rfl (kwa S) ?_
  (revert S a; refine go00 2 ?_; intro a S)
  (refine wpm_nil (kwa S) (hZ _ _ ?_); clear hZ Z)
  refine wp_ret (fin_ret S (results3 Tryz.results77 (RV.cellO S rfl (by rfl)) (RV.cellO S rfl (by rfl)) (RV.tmp S rfl)) ?_)
  (unfold DivV; rw [if_pos hde]; exact ⟨_, _, rfl, hq2, hr2⟩)
theorem dividedCt (s t : List UInt8) (F : Heap) (hs : s.length ≤ 1000000) (ht : t.length ≤ 1000000) : Ct Tryz.prog 77 [.string (bs s), .string (bs t)] F [] (fun F' _ u => DivV F' u s t) := by
  by_cases hbe : bothE s t = 0
  · by_cases h0 : decV (bodyS t) = 0
    · exact dividedZero s t F hs ht hbe h0
    · exact dividedOk s t F hs ht hbe h0
  · exact dividedErr s t F hs ht hbe

def divA (s t : List UInt8) : List UInt8 × Int := if divE s t = 0 then showS (negS s != negS t) (decV (bodyS s) / decV (bodyS t)) else ([], divE s t)
def modA (s t : List UInt8) : List UInt8 × Int := if divE s t = 0 then showS (negS s) (decV (bodyS s) % decV (bodyS t)) else ([], divE s t)
theorem divE_ok {s t : List UInt8} (h : divE s t = 0) : bothE s t = 0 ∧ decV (bodyS t) ≠ 0 := by
  unfold divE at h
  split at h
  · rename_i h1; split at h
    · cases h
    · exact ⟨h1, by assumption⟩
  · rename_i h1; exact absurd h h1
set_option maxHeartbeats 2000000 in
theorem bdivCt (s t : List UInt8) (F : Heap) (hT : TabF F) (hs : s.length ≤ 1000000) (ht : t.length ≤ 1000000) : Ct Tryz.prog 42 [.string (bs s), .string (bs t)] F [] (fun _ _ u => u = ansV (divA s t)) := by
  have hdc := dividedCt s t F hs ht
  by_cases hde : divE s t = 0
  · have hn1 := nd_num (both_ok (divE_ok hde).1).1
    have hn3 := nd_mono (Nat.div_le_self (decV (bodyS s)) (decV (bodyS t)))
    simp only [DivV, if_pos hde] at hdc
    refine Ct.enter Tryz.func42 rfl Tryz.ntmps42 rfl fun w0 a S => ?_
    (revert S a; refine go01 8 ?_; intro Z hZ a S)
    (refine wpl_callF S rfl rfl rfl rfl rfl rfl (hdc) rfl ?_; clear S a; intro v F1 a w hv hF1 S; obtain ⟨q, r, rfl, hq, hr⟩ := hv; have hq0 := hq; have hr0 := hr; obtain ⟨qo, qc, rfl, -, -⟩ := hq0; obtain ⟨ro, rc, rfl, -, -⟩ := hr0)
    (revert S a; refine go00 4 ?_; intro a S)
    (refine wpl_alloc S rfl rfl rfl rfl ?_; clear S a; intro b6 a w S)
    (refine wpl_alloc S rfl rfl rfl rfl ?_; clear S a; intro b7 a w S)
    iterate 2 (refine wpl_storeO S rfl rfl rfl rfl rfl (by rfl) (by simp [Value.cells, Value.oneCell', splice]) (by rfl) ?_; clear S; intro w S)
    (revert S a; revert hZ Z; refine go11 9 ?_; intro Z hZ a S)
    refine wpc_split S rfl (fun h => ?_) (fun h => ?_)
    · (skip; (try simp only [tq] at h); exact absurd trivial h)
    (skip; (try simp only [tq] at h))
    (revert S a; revert hZ Z; refine go11 4 ?_; intro Z hZ a S)
    (refine wpl_call0 S rfl rfl rfl rfl rfl rfl (textCt _ _ _ F1 (hT.mono hF1) (by omega) ⟨_, rfl, hq⟩) rfl ?_; clear S a; intro v a w hv S; subst hv)
    (revert S a; revert hZ Z; refine go10 6 ?_; intro a S)
    refine wp_ret (fin_ret S (results2 Tryz.results42 (RV.tmp S rfl) (RV.tmp S rfl)) ?_)
    (unfold divA; rw [if_pos hde]; rfl)
  · simp only [DivV, if_neg hde] at hdc
    refine Ct.enter Tryz.func42 rfl Tryz.ntmps42 rfl fun w0 a S => ?_
    (revert S a; refine go01 8 ?_; intro Z hZ a S)
    (refine wpl_callF S rfl rfl rfl rfl rfl rfl (hdc) rfl ?_; clear S a; intro v F1 a w hv hF1 S; subst hv)
    (revert S a; refine go00 4 ?_; intro a S)
    (refine wpl_alloc S rfl rfl rfl rfl ?_; clear S a; intro b6 a w S)
    (refine wpl_alloc S rfl rfl rfl rfl ?_; clear S a; intro b7 a w S)
    iterate 2 (refine wpl_storeO S rfl rfl rfl rfl rfl (by rfl) (by simp [Value.cells, Value.oneCell', splice, zeroB]) (by rfl) ?_; clear S; intro w S)
    (revert S a; revert hZ Z; refine go11 9 ?_; intro Z hZ a S)
    refine wpc_split S rfl (fun h => ?_) (fun h => ?_)
    · (skip; (try simp only [tq] at h))
      (revert S a; refine go00 6 ?_; intro a S)
      refine wp_ret (fin_ret S (results2 Tryz.results42 (RV.tmp S rfl) (RV.tmp S rfl)) ?_)
      (unfold divA; rw [if_neg hde]; rfl)
    (skip; (try simp only [tq] at h); exact absurd h hde)
set_option maxHeartbeats 2000000 in
theorem bmodCt (s t : List UInt8) (F : Heap) (hT : TabF F) (hs : s.length ≤ 1000000) (ht : t.length ≤ 1000000) : Ct Tryz.prog 44 [.string (bs s), .string (bs t)] F [] (fun _ _ u => u = ansV (modA s t)) := by
  have hdc := dividedCt s t F hs ht
  by_cases hde : divE s t = 0
  · have hn1 := nd_num (both_ok (divE_ok hde).1).1
    have hn3 := nd_mono (Nat.mod_le (decV (bodyS s)) (decV (bodyS t)))
    simp only [DivV, if_pos hde] at hdc
    refine Ct.enter Tryz.func44 rfl Tryz.ntmps44 rfl fun w0 a S => ?_
    (revert S a; refine go01 8 ?_; intro Z hZ a S)
    (refine wpl_callF S rfl rfl rfl rfl rfl rfl (hdc) rfl ?_; clear S a; intro v F1 a w hv hF1 S; obtain ⟨q, r, rfl, hq, hr⟩ := hv; have hq0 := hq; have hr0 := hr; obtain ⟨qo, qc, rfl, -, -⟩ := hq0; obtain ⟨ro, rc, rfl, -, -⟩ := hr0)
    (revert S a; refine go00 4 ?_; intro a S)
    (refine wpl_alloc S rfl rfl rfl rfl ?_; clear S a; intro b6 a w S)
    (refine wpl_alloc S rfl rfl rfl rfl ?_; clear S a; intro b7 a w S)
    iterate 2 (refine wpl_storeO S rfl rfl rfl rfl rfl (by rfl) (by simp [Value.cells, Value.oneCell', splice]) (by rfl) ?_; clear S; intro w S)
    (revert S a; revert hZ Z; refine go11 9 ?_; intro Z hZ a S)
    refine wpc_split S rfl (fun h => ?_) (fun h => ?_)
    · (skip; (try simp only [tq] at h); exact absurd trivial h)
    (skip; (try simp only [tq] at h))
    (revert S a; revert hZ Z; refine go11 4 ?_; intro Z hZ a S)
    (refine wpl_call0 S rfl rfl rfl rfl rfl rfl (textCt _ _ _ F1 (hT.mono hF1) (by omega) ⟨_, rfl, hr⟩) rfl ?_; clear S a; intro v a w hv S; subst hv)
    (revert S a; revert hZ Z; refine go10 6 ?_; intro a S)
    refine wp_ret (fin_ret S (results2 Tryz.results44 (RV.tmp S rfl) (RV.tmp S rfl)) ?_)
    (unfold modA; rw [if_pos hde]; rfl)
  · simp only [DivV, if_neg hde] at hdc
    refine Ct.enter Tryz.func44 rfl Tryz.ntmps44 rfl fun w0 a S => ?_
    (revert S a; refine go01 8 ?_; intro Z hZ a S)
    (refine wpl_callF S rfl rfl rfl rfl rfl rfl (hdc) rfl ?_; clear S a; intro v F1 a w hv hF1 S; subst hv)
    (revert S a; refine go00 4 ?_; intro a S)
    (refine wpl_alloc S rfl rfl rfl rfl ?_; clear S a; intro b6 a w S)
    (refine wpl_alloc S rfl rfl rfl rfl ?_; clear S a; intro b7 a w S)
    iterate 2 (refine wpl_storeO S rfl rfl rfl rfl rfl (by rfl) (by simp [Value.cells, Value.oneCell', splice, zeroB]) (by rfl) ?_; clear S; intro w S)
    (revert S a; revert hZ Z; refine go11 9 ?_; intro Z hZ a S)
    refine wpc_split S rfl (fun h => ?_) (fun h => ?_)
    · (skip; (try simp only [tq] at h))
      (revert S a; refine go00 6 ?_; intro a S)
      refine wp_ret (fin_ret S (results2 Tryz.results44 (RV.tmp S rfl) (RV.tmp S rfl)) ?_)
      (unfold modA; rw [if_neg hde]; rfl)
    (skip; (try simp only [tq] at h); exact absurd h hde)
theorem val_nz {t : List UInt8} : decV (bodyS t) = 0 ↔ valS t = 0 := by unfold valS toZ; cases negS t <;> simp
theorem val_abs (s : List UInt8) : (valS s).natAbs = decV (bodyS s) := toZ_abs _ _
theorem val_neg (s : List UInt8) (h : decV (bodyS s) ≠ 0) : decide (valS s < 0) = negS s := toZ_neg _ h
theorem neg_zero {s : List UInt8} (hs : checkS s = 0) (h : decV (bodyS s) = 0) : negS s = false := by
  have := (val_zero hs).1 (val_nz.1 h)
  subst this; rfl
theorem val_neg2 {s : List UInt8} (hs : checkS s = 0) : decide (valS s < 0) = negS s := by
  by_cases h : decV (bodyS s) = 0
  · rw [neg_zero hs h, val_nz.1 h]; rfl
  · exact val_neg s h
theorem divA_eq (s t : List UInt8) : divA s t = ansZ (divE s t) (showZ ((valS s).tdiv (valS t))) := by
  unfold divA ansZ
  split
  · rename_i h
    have h1 := both_ok (divE_ok h).1
    rw [showS_toZ, ← tdiv_sign, val_neg2 h1.1, val_neg2 h1.2, val_abs, val_abs]
  · rfl
theorem modA_eq (s t : List UInt8) : modA s t = ansZ (divE s t) (showZ ((valS s).tmod (valS t))) := by
  unfold modA ansZ
  split
  · rename_i h
    have h1 := both_ok (divE_ok h).1
    rw [showS_toZ, ← tmod_sign, val_neg2 h1.1, val_abs, val_abs]
  · rfl

def doA (o : Nat) (s t : List UInt8) : List UInt8 × Int :=
  match o with
  | 0 => ansZ (bothE s t) (showZ (valS s + valS t))
  | 1 => ansZ (bothE s t) (showZ (valS s - valS t))
  | 2 => ansZ (bothE s t) (showZ (valS s * valS t))
  | 3 => ansZ (divE s t) (showZ ((valS s).tdiv (valS t)))
  | _ => ansZ (divE s t) (showZ ((valS s).tmod (valS t)))
end Go.Proofs.YtigblodhdfnleaaGreatDoor
namespace Go.Proofs.YtigblodhdfnleaaGreatDoor
open Go Go.Wk Go.Num
set_option linter.unusedSimpArgs false
set_option linter.unusedVariables false
attribute [local irreducible] Go.wpList Go.Code.wp Go.wpStill Go.Wk.wpPre Go.bodyPost Go.Calls Go.Wk.Ct Go.Wk.OwnS
attribute [local irreducible] Go.Wk.wpG Go.Wk.wpM

theorem bmulCt (s t : List UInt8) (F : Heap) (hT : TabF F) (hs : s.length ≤ 1000000) (ht : t.length ≤ 1000000) : Ct Tryz.prog 40 [.string (bs s), .string (bs t)] F [] (fun _ _ u => u = ansV (doA 2 s t)) := by
  rw [show doA 2 s t = mulA s t from (mulA_eq s t).symm]
  by_cases hbe : bothE s t = 0
  · exact mulOk s t F hT hs ht hbe
  · exact mulErr s t F hs ht hbe
theorem baddCt (s t : List UInt8) (F : Heap) (hT : TabF F) (hs : s.length ≤ 1000000) (ht : t.length ≤ 1000000) : Ct Tryz.prog 36 [.string (bs s), .string (bs t)] F [] (fun _ _ u => u = ansV (doA 0 s t)) := by
  rw [show doA 0 s t = addA s t from (addA_eq s t).symm]; exact add0Ct s t F hT hs ht
theorem bsubCt (s t : List UInt8) (F : Heap) (hT : TabF F) (hs : s.length ≤ 1000000) (ht : t.length ≤ 1000000) : Ct Tryz.prog 38 [.string (bs s), .string (bs t)] F [] (fun _ _ u => u = ansV (doA 1 s t)) := by
  rw [show doA 1 s t = subA s t from (subA_eq s t).symm]; exact sub0Ct s t F hT hs ht
theorem bdivCt2 (s t : List UInt8) (F : Heap) (hT : TabF F) (hs : s.length ≤ 1000000) (ht : t.length ≤ 1000000) : Ct Tryz.prog 42 [.string (bs s), .string (bs t)] F [] (fun _ _ u => u = ansV (doA 3 s t)) := by
  rw [show doA 3 s t = divA s t from (divA_eq s t).symm]; exact bdivCt s t F hT hs ht
theorem bmodCt2 (s t : List UInt8) (F : Heap) (hT : TabF F) (hs : s.length ≤ 1000000) (ht : t.length ≤ 1000000) : Ct Tryz.prog 44 [.string (bs s), .string (bs t)] F [] (fun _ _ u => u = ansV (doA 4 s t)) := by
  rw [show doA 4 s t = modA s t from (modA_eq s t).symm]; exact bmodCt s t F hT hs ht

end Go.Proofs.YtigblodhdfnleaaGreatDoor
namespace Go.Proofs.YtigblodhdfnleaaGreatDoor
open Go Go.Wk Go.Un Go.De
set_option linter.unusedSimpArgs false
set_option linter.unusedVariables false
attribute [local irreducible] Go.wpList Go.Code.wp Go.wpStill Go.Wk.wpPre Go.bodyPost Go.Calls Go.Wk.Ct Go.Wk.OwnS
attribute [local irreducible] Go.Wk.wpG Go.Wk.wpM

set_option maxHeartbeats 4000000 in
theorem ownVCt : ∀ (n : Nat) (F : Heap) (h : VH) (L : Vf) (cs : List Value), L.size ≤ n → L.size ≤ 1000000000 → VaC F cs h L → Ct Tryz.prog 26 [.agg ⟨cs⟩] F [] (fun F' _ u => ∃ cs', u = .agg ⟨cs'⟩ ∧ VaC F' cs' h L) := by
  intro n
  induction n using Nat.strongRecOn with
  | _ n ih =>
  intro F h L cs hn hb hV
  obtain ⟨v, rfl, ⟨ao, cap, rfl, hcap, hpos⟩, hsb⟩ := hV
  have hll := Rose.len_size L
  refine Ct.enter Tryz.func26 rfl Tryz.ntmps26 rfl fun w0 a S => ?_
  refine wp_sr fun Z hZ => ?_
  (refine wpl_box S rfl rfl rfl rfl rfl ?_; clear S a; intro b1 a w S)
  (refine wpl_alloc S rfl rfl rfl rfl ?_; clear S a; intro b2 a w S)
  (revert S a; revert hZ Z; refine go11 15 ?_; intro Z hZ a S)
  refine wpc_loop (fun m a w' => ∃ (i : Nat) (v : Value) (g : Grp) (xs : List Value) (F3 : Heap), m = L.len - i ∧ i ≤ L.len ∧ (∀ b o, F b = some o → F3 b = some o) ∧ OwnS 26 4 v i xs g ∧ LiC F3 4 (RoR 4 VhR) xs ((kids L).take i) ∧ St 22 [(1, ptr b1), (2, ptr b2), (3, v), (7, .slice ao L.len cap), (8, .int .i64 L.len), (9, .int .i64 i)] w0 F [] F3 (g :: [(b2, .cells ⟨[.int .u8 0, .int .i64 0, .string (bs []), .slice none 0 0]⟩ 26 (0, 0))] :: [(b1, .cells ⟨[.int .u8 (h.k : Int), .int .i64 h.n, .string (bs h.s), .slice ao L.len cap]⟩ 26 (0, 0))] :: []) a w') ?_ ?_
  · (replace S := S.nilg; refine ⟨L.len, 0, .slice none 0 0, [], [], F, by omega, Nat.zero_le _, fun _ _ h => h, OwnS.nil _ _, rfl, ?_⟩; refine S.keep ?_; repeat (first | exact trivial | refine ⟨rfl, ?_⟩))
  (clear S; rintro m a w ⟨i, v, g, xs, F3, rfl, hil, hF3, hown, hfc, S⟩)
  (revert S a; refine go01 5 ?_; intro Z hZ a S)
  refine wpc_split S rfl (fun h => ?_) (fun h => ?_)
  · (skip; (try simp only [tq] at h))
    (revert S a; revert hZ Z; refine go11 4 ?_; intro Z hZ a S)
    (refine wp_seq_k ?_; intro Z hZ)
    (obtain ⟨b8, o8, hao, x, cs1, v1, hx, hc1, hw9, hT1⟩ := TrM.pos hpos (k := i) (by omega); rw [hao] at S; replace hc1 := Cels.mono hF3 hc1; replace hT1 := hT1.mono hF3; have hxs := Rose.size_get hx; have hT1c := hT1; obtain ⟨a91, c91, rfl, -⟩ := hT1c; have hw9c := hw9.1; subst hw9c; (simp only [List.cons_append, List.nil_append] at hc1))
    (revert S a; refine go00 3 ?_; intro a S)
    (refine wpl_alloc S rfl rfl rfl rfl ?_; clear S a; intro b5 a w S)
    (refine wpl_storeO S rfl rfl rfl rfl rfl (by rfl) (by simp [Value.cells, Value.oneCell', splice]) (by rfl) ?_; clear S; intro w S)
    (revert S a; revert hZ Z; refine go10 5 ?_; intro a S)
    (refine wpl_callF S rfl rfl rfl rfl rfl rfl (ih x.2.size (by omega) F3 x.1 x.2 _ (Nat.le_refl _) (by omega) ⟨_, rfl, hT1, hw9.2⟩) rfl ?_; clear S a; intro u9 F4 a w hv hF4 S; obtain ⟨cs4, rfl, hV4⟩ := hv; have hV4c := hV4; obtain ⟨v4, rfl, ⟨a4, c4, rfl, -⟩, -⟩ := hV4c)
    (refine wpl_append S rfl rfl rfl rfl rfl rfl rfl rfl rfl rfl rfl (fun _ => rfl) hown (by rfl) (by simp [Value.cells, splice, splice]) (by simp [Value.cells, Value.oneCell', splice, splice]) rfl (by rfl) (by rfl) rfl (by omega) (by omega) ?_; clear hown S a; intro v u g a w hown S)
    (revert S a; revert hZ Z; refine go10 7 ?_; intro a S)
    change ∃ m', _ ∧ _
    (rw [← hao] at S; replace S := S.drop1; refine ⟨L.len - (i + 1), by omega, i + 1, _, _, _, F4, rfl, by omega, fun b o h => hF4 _ _ (hF3 _ _ h), hown, ?_, ?_⟩; rotate_left 1; (refine S.keep ?_; repeat (first | exact trivial | refine ⟨rfl, ?_⟩)); (rw [List.take_add_one, kids_get, hx]; exact LiC.app (hfc.mono hF4) (LiC.one rfl (vac_ror hV4))))
  (skip; (try simp only [tq] at h))
  (refine wp_exit ?_; conv => whnf)
  clear hZ Z
  (refine hZ _ _ ?_; clear hZ Z)
  (refine wp_seq_k ?_; intro Z hZ)
  (obtain ⟨aoK, capK, rfl, -⟩ := hown.at)
  (revert S a; refine go00 3 ?_; intro a S)
  (refine wpl_store1 S rfl rfl rfl rfl rfl rfl (by first | (simp; done) | (simp [Value.cells]; done) | exact Nat.le_of_ble_eq_true rfl) ?_; clear S; intro w S)
  (revert S a; revert hZ Z; refine go11 4 ?_; intro Z hZ a S)
  (refine wpl_storeO S rfl rfl rfl rfl rfl (by rfl) (by simp [Value.cells, Value.oneCell', splice]) (by rfl) ?_; clear S; intro w S)
  (refine wpList_nil (hZ _ _ ?_); clear hZ Z)
  refine wp_ret ?_
  (have hii : i = L.len := (by omega); have hle := add_le (G1 := []) S; replace S := St.freeze (G1 := []) S; (simp only [List.nil_append] at S hle))
  refine fin_ret S (results1 Tryz.results26 (RV.cellO S rfl (by rfl))) ?_
  (rw [List.take_of_length_le (by rw [kids_len]; omega)] at hfc; exact ⟨_, rfl, _, rfl, trs_kids (LiC.lim hown hfc (by rw [kids_len]; omega) hle (by omega)), hsb⟩)
/-- How many values there are in one. -/
def insL : Vf → Nat
  | .nil => 0
  | .cons _ L r => (insL L + 1) + insL r
theorem insL_size : ∀ L : Vf, insL L = L.size
  | .nil => rfl
  | .cons h L r => by show (insL L + 1) + insL r = L.size + r.size + 1; rw [insL_size L, insL_size r]; omega
end Go.Proofs.YtigblodhdfnleaaGreatDoor
namespace Go.Proofs.YtigblodhdfnleaaGreatDoor
open Go Go.Wk Go.Un Go.De Go.Num
set_option linter.unusedSimpArgs false
set_option linter.unusedVariables false

/-! ### how values stand -/
def cI (a b : Int) : Int := if a < b then -1 else if b < a then 1 else 0
def cS (s t : List UInt8) : Int := if Op.bytesLess s t = true then -1 else if s = t then 0 else 1
def or2 (a b : Int) : Int := if a ≠ 0 then a else b
/-- Whole numbers' texts. -/
def bigC : Nat → List UInt8 → List UInt8 → Int
  | 0, _, _ => 0
  | n + 1, s, t => if s.take 1 = [45] ∧ t.take 1 = [45] then bigC n (t.drop 1) (s.drop 1) else if s.take 1 = [45] then -1 else if t.take 1 = [45] then 1 else or2 (cI s.length t.length) (cS s t)
def bigsC (s t : List UInt8) : Int := bigC (s.length + t.length + 1) s t
def cmpL : Vf → Vf → Int
  | .nil, .nil => 0
  | .nil, .cons _ _ _ => -1
  | .cons _ _ _, .nil => 1
  | .cons h L r, .cons h2 L2 r2 => or2 (if h.k ≠ h2.k then cI h.k h2.k else if h.k = 3 then bigsC h.s h2.s else if h.k = 4 then cS h.s h2.s else or2 (cI h.n h2.n) (or2 (cS h.s h2.s) (cmpL L L2))) (cmpL r r2)
def cmpH (h : VH) (L : Vf) (h2 : VH) (L2 : Vf) : Int := if h.k ≠ h2.k then cI h.k h2.k else if h.k = 3 then bigsC h.s h2.s else if h.k = 4 then cS h.s h2.s else or2 (cI h.n h2.n) (or2 (cS h.s h2.s) (cmpL L L2))
def mayV (v : VH × Vf) : Bool := decide (checkV v.1 v.2 = 0)
/-- How two values stand. -/
def cmpV2 (a b : VH × Vf) : Int := if mayV a = true ∧ mayV b = true then cmpH a.1 a.2 b.1 b.2 else if mayV a = mayV b then 0 else if mayV a = true then -1 else 1

/-! ### what expressions come to -/
abbrev Vv := VH × Vf
abbrev Ans := Int × Vv
def zV : Vv := (⟨0, 0, []⟩, .nil)
def noA (e : Int) : Ans := (e, zV)
def yesA (v : Vv) : Ans := (0, v)
def boolV (b : Bool) : Vv := (⟨1, if b then 1 else 0, []⟩, .nil)
def intV (n : Int) : Vv := (⟨2, n, []⟩, .nil)
def bigV (s : List UInt8) : Vv := (⟨3, 0, s⟩, .nil)
def textV (s : List UInt8) : Vv := (⟨4, 0, s⟩, .nil)
def in64 (n : Int) : Prop := -9223372036854775808 ≤ n ∧ n ≤ 9223372036854775807
instance (n : Int) : Decidable (in64 n) := by unfold in64; infer_instance
/-- What two ints come to. -/
def intO (k : Nat) (a b : Int) : Int × Int :=
  if k = 0 then (if in64 (a + b) then (a + b, 0) else (0, 80))
  else if k = 1 then (if in64 (a - b) then (a - b, 0) else (0, 80))
  else if k = 2 then (if in64 (a * b) then (a * b, 0) else (0, 80))
  else if k = 3 then (if b = 0 then (0, 81) else if in64 (a.tdiv b) then (a.tdiv b, 0) else (0, 80))
  else (if b = 0 then (0, 81) else (a.tmod b, 0))
def numO (k : Nat) (a b : Vv) : Ans :=
  if a.1.k = 2 ∧ b.1.k = 2 then (if (intO k a.1.n b.1.n).2 ≠ 0 then noA (intO k a.1.n b.1.n).2 else yesA (intV (intO k a.1.n b.1.n).1))
  else if a.1.k = 3 ∧ b.1.k = 3 then (if (doA k a.1.s b.1.s).2 ≠ 0 then noA (doA k a.1.s b.1.s).2 else yesA (bigV (doA k a.1.s b.1.s).1))
  else noA 70
def ordT (k : Nat) (c : Int) : Bool := if k = 0 then decide (c = 0) else if k = 1 then decide (c ≠ 0) else if k = 2 then decide (c < 0) else if k = 3 then decide (c ≤ 0) else if k = 4 then decide (0 < c) else decide (0 ≤ c)
def ordO (k : Nat) (a b : Vv) : Ans := yesA (boolV (ordT k (cmpV2 a b)))
def catO (a b : Vv) : Ans := if a.1.k ≠ 4 ∨ b.1.k ≠ 4 then noA 70 else if 4096 < a.1.s.length + b.1.s.length then noA 80 else yesA (textV (a.1.s ++ b.1.s))
/-- The operators of two: their names, and what they come to. -/
def ops2 : List (List UInt8 × (Vv → Vv → Ans)) :=
  [([43], numO 0), ([45], numO 1), ([42], numO 2), ([47], numO 3), ([37], numO 4), ([61, 61], ordO 0), ([33, 61], ordO 1), ([60], ordO 2), ([60, 61], ordO 3), ([62], ordO 4), ([62, 61], ordO 5), ([43, 43], catO)]
def op2 (s : List UInt8) : Option (Vv → Vv → Ans) := (ops2.find? fun x => decide (s = x.1)).map (·.2)
def sAnd : List UInt8 := [97, 110, 100]
def sOr : List UInt8 := [111, 114]
def sNot : List UInt8 := [110, 111, 116]
def sNeg : List UInt8 := [110, 101, 103]
def sLen : List UInt8 := [108, 101, 110]
def op1 (s : List UInt8) (a : Vv) : Ans :=
  if s = sNot ∧ a.1.k = 1 then yesA (boolV (decide (a.1.n = 0)))
  else if s = sNeg ∧ a.1.k = 2 then (if in64 (0 - a.1.n) then yesA (intV (0 - a.1.n)) else noA 80)
  else if s = sNeg ∧ a.1.k = 3 then yesA (bigV (negA a.1.s).1)
  else if s = sLen ∧ a.1.k = 4 then yesA (intV a.1.s.length)
  else if s = sBig ∧ a.1.k = 2 then yesA (bigV (showZ a.1.n).1)
  else if s = sInt ∧ a.1.k = 3 then (if checkS a.1.s = 0 ∧ in64 (valS a.1.s) then yesA (intV (valS a.1.s)) else noA 80)
  else noA 70
/-- What values put together come to. -/
def wholeO (h : VH) (L : Vf) : Ans := if checkV h L = 65 ∨ 4096 < insL L + 1 then noA 80 else if checkV h L ≠ 0 then noA 4 else yesA (h, L)
abbrev Bd := List UInt8 × Vv
def findB (vs : List Bd) (s : List UInt8) : Option Bd := vs.find? fun x => decide (x.1 = s)
/-- A list's part. -/
def nthA : List Ans → Nat → Ans
  | [], _ => noA 0
  | x :: _, 0 => x
  | _ :: r, k + 1 => nthA r k
def truthO (x : Ans) : Bool × Int := if x.1 ≠ 0 then (false, x.1) else if x.2.1.k ≠ 1 then (false, 70) else (decide (x.2.1.n = 1), 0)
/-- What several come to, in their order: the first refusal, or all. -/
def listO : List Ans → Int × List Vv
  | [] => (0, [])
  | x :: r => if x.1 ≠ 0 then (x.1, []) else if (listO r).1 ≠ 0 then ((listO r).1, []) else (0, x.2 :: (listO r).2)
/-- A value's field. -/
def fieldO (cs : List KC) (nm : List UInt8) (v : Vv) : Ans :=
  if v.1.k ≠ 6 then noA 70 else match findC cs v.1.s with
    | none => noA 70
    | some c => if c.fs.length ≠ v.2.len ∨ nm = [] then noA 70 else match c.fs.findIdx? fun f => decide (f.nm = nm) with
      | none => noA 70
      | some i => match v.2.get? i with | none => noA 70 | some x => yesA x
/-- Values put together, of parts, or the first refusal. -/
def partsO (h : VH) (l : List Ans) : Ans := if (listO l).1 ≠ 0 then noA (listO l).1 else wholeO h (roseOf (listO l).2)
/-- What an expression of a kind comes to, of what its parts come to, over constructors. -/
def evK (cs : List KC) (vs : List Bd) (h : EH) (l : List Ans) : Ans :=
  if h.k = 1 then yesA (h.v, h.vl)
  else if h.k = 2 then (match findB vs h.nm with | none => noA 71 | some x => yesA x.2)
  else if h.k = 4 then partsO ⟨5, 0, []⟩ l
  else if h.k = 5 then (match findC cs h.nm with | none => noA 63 | some c => if c.fs.length ≠ l.length then noA 70 else partsO ⟨6, 0, h.nm⟩ l)
  else if h.k = 7 then (if (nthA l 0).1 ≠ 0 then noA (nthA l 0).1 else fieldO cs h.nm (nthA l 0).2)
  else if h.k = 8 then (if (truthO (nthA l 0)).2 ≠ 0 then noA (truthO (nthA l 0)).2 else if (truthO (nthA l 0)).1 = true then nthA l 1 else nthA l 2)
  else if h.nm = sAnd ∨ h.nm = sOr then
    (if (truthO (nthA l 0)).2 = 0 ∧ (truthO (nthA l 0)).1 = decide (h.nm = sAnd) then (if (truthO (nthA l 1)).2 ≠ 0 then noA (truthO (nthA l 1)).2 else yesA (boolV (truthO (nthA l 1)).1))
     else if (truthO (nthA l 0)).2 ≠ 0 then noA (truthO (nthA l 0)).2 else yesA (boolV (truthO (nthA l 0)).1))
  else if (listO l).1 ≠ 0 then noA (listO l).1
  else match (listO l).2 with
    | [a] => op1 h.nm a
    | a :: b :: _ => (match op2 h.nm with | some f => f a b | none => noA 0)
    | [] => noA 0
def evL (cs : List KC) (vs : List Bd) : Ef → List Ans
  | .nil => []
  | .cons h L r => evK cs vs h (evL cs vs L) :: evL cs vs r
def evE (cs : List KC) (vs : List Bd) (h : EH) (L : Ef) : Ans := evK cs vs h (evL cs vs L)
/-! ### which may be -/
def deepL : Ef → Int → Bool
  | .nil, _ => false
  | .cons _ L r, d => (decide (64 < d) || deepL L (d + 1)) || deepL r d
def deepE (L : Ef) (d : Int) : Bool := decide (64 < d) || deepL L (d + 1)
def ones : List (List UInt8) := [sNot, sNeg, sLen, sBig, sInt]
def formK (h : EH) (n : Nat) : Bool :=
  if h.k = 4 then decide (n ≠ 1) && decide (n ≤ 16) else if h.k = 5 then true else if h.k = 7 then decide (n = 1) else if h.k = 8 then decide (n = 3)
  else if h.k = 6 then ((((op2 h.nm).isSome || decide (h.nm = sAnd)) || decide (h.nm = sOr)) && decide (n = 2)) || (decide (n = 1) && decide (h.nm ∈ ones)) else false
def formEL : Ef → Bool
  | .nil => true
  | .cons h L r => (if h.k = 1 then decide (checkV h.v h.vl = 0) else if h.k = 2 then true else formK h L.len && formEL L) && formEL r
def formE (h : EH) (L : Ef) : Bool := if h.k = 1 then decide (checkV h.v h.vl = 0) else if h.k = 2 then true else formK h L.len && formEL L
/-- What Eval tells. -/
def evalO (cs : List KC) (vs : List Bd) (h : EH) (L : Ef) : Ans :=
  if deepE L 1 = true then noA 65 else if formE h L = false then noA 4 else if (vs.all fun x => mayV x.2) = false then noA 4 else evE cs vs h L
end Go.Proofs.YtigblodhdfnleaaGreatDoor
