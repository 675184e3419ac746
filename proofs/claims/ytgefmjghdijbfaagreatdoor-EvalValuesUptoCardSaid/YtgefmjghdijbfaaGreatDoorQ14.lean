/- Walks. -/
import Derived.Test.YtgefmjghdijbfaaGreatDoorQ07
import Derived.Test.YtgefmjghdijbfaaGreatDoorQ13
import Derived.Test.YtgefmjghdijbfaaGreatDoorQ05
import Derived.Test.YtgefmjghdijbfaaGreatDoorQ12
import Derived.Test.YtgefmjghdijbfaaGreatDoorQ03
import Derived.OpenShut
import Derived.Below
import Derived.Carry
import Derived.SizedLaws
import Derived.Deep.Slices
import Derived.Deep.Strs
set_option maxHeartbeats 8000000
namespace Go.Proofs.YtgefmjghdijbfaaGreatDoor
open Go Go.Wk Go.Num Go.Un Go.De
set_option linter.unusedSimpArgs false
set_option linter.unusedVariables false
attribute [local irreducible] Go.wpList Go.Code.wp Go.wpStill Go.Wk.wpPre Go.bodyPost Go.Calls Go.Wk.Ct Go.Wk.OwnS Go.wpListIn Go.Code.wpIn Go.CallsIn Go.bodyPostM Go.Wk.roundP Go.Wk.wpG Go.Wk.wpM
theorem dig_push0 {r a : Nat} (ha : a < 1000000000) : dig 1000000000 (r * 1000000000 + a) 0 = a := by
 unfold dig; rw [Nat.pow_zero, Nat.div_one]; omega
theorem dig_push {r a j : Nat} (ha : a < 1000000000) : dig 1000000000 (r * 1000000000 + a) (j + 1) = dig 1000000000 r j := by
 unfold dig
 rw [Nat.pow_succ', ← Nat.div_div_eq_div_mul, show (r * 1000000000 + a) / 1000000000 = r by omega]
theorem cel_push {k r a : Nat} (ha : a < 1000000000) : [Value.int .i64 ((a : Nat) : Int)] ++ cel k (dig 1000000000 r) = cel (k + 1) (dig 1000000000 (r * 1000000000 + a)) := by
 rw [cel_cons, dig_push0 ha, show (fun j => dig 1000000000 (r * 1000000000 + a) (j + 1)) = dig 1000000000 r from funext fun j => dig_push ha]
 rfl
theorem push_lt {r a k : Nat} (ha : a < 1000000000) (h : r < 1000000000 ^ k) : r * 1000000000 + a < 1000000000 ^ (k + 1) := by
 rw [Nat.pow_succ]
 have : (r + 1) * 1000000000 ≤ 1000000000 ^ k * 1000000000 := Nat.mul_le_mul_right _ h
 rw [Nat.add_mul] at this; omega
def fq (Q j i : Nat) : Nat := if j ≤ i then dig 1000000000 Q i else 0
theorem own_q {e : TypeId} {v x : Value} {K j Q : Nat} {gr : Grp} (h : OwnS e 1 v K ((cel K (fq Q (j + 1))).set j x) gr) (hx : x = .int .i64 ((dig 1000000000 Q j : Nat) : Int)) : OwnS e 1 v K (cel K (fq Q j)) gr := by
 have : (cel K (fq Q (j + 1))).set j x = cel K (fq Q j) := by
  refine List.ext_getElem? fun i => ?_
  by_cases hi : i < K
  ·rw [cel_get hi, List.getElem?_set, cel_len]
   by_cases e : j = i
   ·subst e; rw [if_pos rfl, if_pos hi, hx]; unfold fq; rw [if_pos (Nat.le_refl _)]
   ·rw [if_neg e, cel_get hi]
    unfold fq
    by_cases h1 : j ≤ i
    ·rw [if_pos h1, if_pos (by omega)]
    ·rw [if_neg h1, if_neg (by omega)]
  ·rw [List.getElem?_eq_none (by rw [List.length_set, cel_len]; omega), List.getElem?_eq_none (by rw [cel_len]; omega)]
 rw [this] at h; exact h
theorem half_q {R C lo hi : Nat} (h1 : C * lo ≤ R) (h2 : R < C * hi) (h3 : lo < hi) (h4 : ¬ (1 : Int) < (hi : Int) - lo) : lo = R / C := by
 have : hi = lo + 1 := by omega
 subst this
 rw [Nat.mul_comm] at h1 h2
 exact (Nat.div_eq_of_lt_le h1 h2).symm
theorem cmp_np {A C : Nat} (h : cmpI A C ≤ 0) : A ≤ C := by
 unfold cmpI at h; split at h; omega; split at h <;> omega
theorem cmp_ps {A C : Nat} (h : ¬ cmpI A C ≤ 0) : C < A := by
 unfold cmpI at h; split at h; omega; split at h <;> omega
theorem nd_one {C n m : Nat} (hn : n < 1000000000) (hC : nd 1000000000 C ≤ m) : nd 1000000000 (C * n) ≤ m + 1 := by
 have := nd_le (lt_pow_mul (lt_nd b2 C) (lc := 1) (C := n) (by simpa using hn)) b2
 omega
theorem zzOver0 {p : Prop} (h : p := by (first | (refine ⟨hi - mid, by omega, mid, hi, F4, rfl, by omega, hhi, cmp_np h, hRhi, (fun b o h => hF4 _ _ (hF3 _ _ h)), hu3.mono hF4, ?_⟩; refine S.keep ?_; exact zk) | (refine ⟨mid - lo, by omega, lo, mid, F4, rfl, by omega, by omega, hlo, cmp_ps h, (fun b o h => hF4 _ _ (hF3 _ _ h)), hu3.mono hF4, ?_⟩; refine S.keep ?_; exact zk))) : p := h
theorem overCt (A C : Nat) (v u : Value) (F : Heap) (hC : 0 < C) (hlA : nd 1000000000 A ≤ 10000) (hlC : nd 1000000000 C ≤ 10000) (hv : Mag F v A) (hu : Mag F u C) :
  Ct Tryz.prog 161 [v, u] F [] (fun F' _ r => ∃ q s, r = .tuple ⟨[q, s]⟩ ∧ Mag F' q (A / C) ∧ Mag F' s (A % C)) := by
 have hv0 := hv
 have hu0 := hu
 obtain ⟨ao, ca, rfl, hca, hpa⟩ := hv0
 obtain ⟨co, cc, rfl, hcc, hpc⟩ := hu0
 have hQ : A / C < 1000000000 ^ nd 1000000000 A := Nat.lt_of_le_of_lt (Nat.div_le_self _ _) (lt_nd b2 A)
 have hrl : ∀ j, remJ 1000000000 A C j < C := fun j => Nat.mod_lt _ hC
 have hrK : ∀ j, nd 1000000000 (remJ 1000000000 A C j) ≤ 10000 := fun j => Nat.le_trans (nd_mono (Nat.le_of_lt (hrl j))) hlC
 have hA := lt_nd b2 A
 generalize hK : nd 1000000000 A = K at *
 generalize hKC : nd 1000000000 C = KC at *
 have hm0 : Mag F (.slice none 0 0) (remJ 1000000000 A C K) := by rw [rem_top hA]; exact ⟨none, 0, rfl, Nat.le_refl _, fun h => absurd h (Nat.lt_irrefl _)⟩
 refine Ct.enterM Tryz.func161 rfl Tryz.ntmps161 rfl fun w0 a S => ?_
 (refine wpIn_seq_k ?_; intro Z hZ)
 refine wpi_region rfl ?_
 (refine wbx S ?_; clear S a; intro b3 a w S)
 (revert S a; revert hZ Z; refine go 4 ?_; intro a S)
 (refine wpIn_seq_k ?_; intro Z hZ)
 refine wpi_region rfl ?_
 (revert S a; refine go 2 ?_; intro a S)
 (refine wpl_makeSlice (q := K) S rfl rfl rfl rfl rfl rfl rfl (by omega) (by omega) ?_; clear S a; intro bq a w hq S)
 (refine wpl_alloc S rfl rfl rfl rfl ?_; clear S a; intro b6 a w S)
 (refine wpl_store1 S rfl rfl rfl rfl rfl rfl (by first | (simp; done) | (simp [Value.cells]; done) | exact Nat.le_of_ble_eq_true rfl) ?_; clear S; intro w S)
 (revert S a; revert hZ Z; refine go 2 ?_; intro a S)
 (refine wpIn_seq_k ?_; intro Z hZ)
 refine wpi_region rfl ?_
 (refine wpl_alloc S rfl rfl rfl rfl ?_; clear S a; intro b7 a w S)
 (revert S a; revert hZ Z; refine go 2 ?_; intro a S)
 iterate 2 (refine wpIn_seq_k ?_; intro Z hZ)
 refine wpi_region rfl ?_
 (revert S a; refine go 1 ?_; intro a S)
 (refine wpl_callFrz S rfl rfl rfl rfl rfl rfl (backwardCt _ F) rfl ?_; clear S a; intro bx F5 a w hF5 hbx S; have hbox := hbx 0 _ rfl; have hq0 : OwnS 2 1 (.slice (some ⟨bq, 0, none⟩) K K) K (cel K (fq (A / C) K)) _ := (by rw [show cel K (fq (A / C) K) = cel K (fun _ => 0) from cel_congr fun i hi => (by unfold fq; rw [if_neg (by omega)]), ← replicate_cel]; exact hq); have hm5 := hm0.mono hF5)
 (revert S a; revert hZ Z; refine go 2 ?_; intro a S)
 refine wpIn_block ?_
 refine wpi_back S rfl rfl rfl rfl (backIter bx K (dig 1000000000 A) F5 ao ca (by omega) hbox (fun h0 => by obtain ⟨b, off, h1, h2⟩ := hpa h0; exact ⟨b, off, h1, h2.mono hF5⟩)) (fun j F2 G2 => (∀ b o, F5 b = some o → F2 b = some o) ∧ ∃ rv gq, G2 = [[(b7, .cells ⟨[rv]⟩ 178 (0, 0))], [(b6, .cells ⟨[.slice (some ⟨bq, 0, none⟩) K K]⟩ 178 (0, 0))], gq, [(b3, .cells ⟨[.slice co KC cc]⟩ 178 (0, 0))]] ∧ Mag F2 rv (remJ 1000000000 A C j) ∧ OwnS 2 1 (.slice (some ⟨bq, 0, none⟩) K K) K (cel K (fq (A / C) j)) gq) (fun _ _ => False) (⟨fun _ _ h => h, .slice none 0 0, _, rfl, hm5, hq0⟩) (fun j => [(8, .int .i64 (j : Int)), (9, .int .i64 ((dig 1000000000 A j : Nat) : Int)), (3, .pointer (some ⟨b3, 0, none⟩)), (6, .pointer (some ⟨b6, 0, none⟩)), (7, .pointer (some ⟨b7, 0, none⟩))]) ?_ ?_ ?_ ?_
 ·(clear S; intro r j w F1 G1 a KA S hKA)
  (refine wpIn_seq_k ?_; intro Z hZ)
  refine wpi_region rfl ?_
  (revert S a; revert hZ Z; refine go 3 ?_; intro a S)
  refine wpi_region rfl ?_
  (revert S a; refine go 2 ?_; intro a S)
  (refine hKA _ ?_; refine S.keep ?_; exact zk)
 ·(clear S; intro r j w F1 G1 a hj hF1 hI S)
  (obtain ⟨hF2, rv, gq, rfl, hrv, hq⟩ := hI; have hrv0 := hrv; obtain ⟨ro, rc, rfl, hrc, hrp⟩ := hrv0; have hdj := dig_lt b2 A j; have hrk := hrK (j + 1); have hrle := hrl (j + 1); have huF := (hu.mono hF5).mono hF2; generalize w = W0 at *; generalize hKK : keys _ = KK at S)
  refine wpIn_block ?_
  (refine wpIn_seq_k ?_; intro Z hZ)
  refine wpi_region rfl ?_
  (revert S a; refine go 1 ?_; intro a S)
  (refine wpl_buildSlice S rfl rfl rfl rfl rfl rfl (by rfl) (by simp [Value.cells, splice, splice]) rfl (by rfl) (by rfl) ?_; clear S a; intro b21 a w hown S)
  (revert S a; refine go 1 ?_; intro a S)
  (refine wpl_appendSl S rfl rfl rfl rfl rfl rfl hown (by rfl) (by rw [cel_len, Nat.mul_one]) hrp cel_one (by omega) (by omega) ?_; clear hown S a; intro v g a w hown S)
  (have hle := add_le (G1 := []) S; obtain ⟨vo, vc, rfl, -, -⟩ := hown.at; replace S := St.freeze (G1 := []) S; (try simp only [List.nil_append] at S); have hslg := hown.slC F1; obtain ⟨R1, hR1⟩ : ∃ R1, R1 = remJ 1000000000 A C (j + 1) * 1000000000 + dig 1000000000 A j := ⟨_, rfl⟩; have hslg2 : SlC (F1.add g) (.slice vo (1 + nd 1000000000 (remJ 1000000000 A C (j + 1))) vc) (1 + nd 1000000000 (remJ 1000000000 A C (j + 1))) (cel (1 + nd 1000000000 (remJ 1000000000 A C (j + 1))) (dig 1000000000 R1)) := (by rw [hR1, Nat.add_comm 1, ← cel_push (by omega), Nat.add_comm _ 1]; exact hslg); have hR1lt : R1 < 1000000000 ^ (1 + nd 1000000000 (remJ 1000000000 A C (j + 1))) := (by rw [hR1, Nat.add_comm 1]; exact push_lt (by omega) (lt_nd b2 _)); have hR1K : nd 1000000000 R1 ≤ 10001 := Nat.le_trans (nd_le hR1lt b2) (by omega); have hR1C : R1 < C * 1000000000 := (by omega); clear hown)
  (first | (refine wc0 S (trimCt R1 _ _ _ hR1lt (by omega) hslg2) ?_; clear S a; intro u1 a w hu1 S; have hu10 := hu1; obtain ⟨uo, uc, rfl, -, -⟩ := hu10) | (refine wc0 S (trimCt (A / C) K _ _ hQ (by omega) hqf) ?_; clear S a; intro u9 a w hu9 S))
  (refine wpl_store1 S rfl rfl rfl rfl rfl rfl (by first | (simp; done) | (simp [Value.cells]; done) | exact Nat.le_of_ble_eq_true rfl) ?_; clear S; intro w S)
  (revert S a; revert hZ Z; refine go 2 ?_; intro a S)
  (refine wpIn_seq_k ?_; intro Z hZ)
  refine wpi_region rfl ?_
  (revert S a; revert hZ Z; refine go 4 ?_; intro a S)
  (refine wpIn_seq_k ?_; intro Z hZ)
  refine wpIn_block ?_
  refine wpi_loop (fun m a w' => ∃ (lo hi : Nat) (F3 : Heap), m = hi - lo ∧ lo < hi ∧ hi ≤ 1000000000 ∧ C * lo ≤ R1 ∧ R1 < C * hi ∧ (∀ b o, F1 b = some o → F3 b = some o) ∧ Mag F3 (.slice uo (nd 1000000000 R1) uc) R1 ∧ St 53 [(8, .int .i64 (j : Int)), (3, .pointer (some ⟨b3, 0, none⟩)), (6, .pointer (some ⟨b6, 0, none⟩)), (7, .pointer (some ⟨b7, 0, none⟩)), (10, .int .i64 (lo : Int)), (11, .int .i64 (hi : Int))] W0 F1 KK F3 [[(b7, .cells ⟨[.slice uo (nd 1000000000 R1) uc]⟩ 178 (0, 0))], [(b6, .cells ⟨[.slice (some ⟨bq, 0, none⟩) K K]⟩ 178 (0, 0))], gq, [(b3, .cells ⟨[.slice co KC cc]⟩ 178 (0, 0))]] a w') ?_ ?_
  ·(refine ⟨1000000000, 0, 1000000000, F1.add g, rfl, by decide, Nat.le_refl _, by omega, hR1C, hle, hu1, ?_⟩; refine S.keep ?_; exact zk)
  (clear S; rintro m a w ⟨lo, hi, F3, rfl, hlh, hhi, hlo, hRhi, hF3, hu3, S⟩)
  iterate 2 (refine wpIn_seq_k ?_; intro Z hZ)
  refine wpi_region rfl ?_
  (revert S a; revert hZ Z; refine go 6 ?_; intro a S)
  refine wpi_split S rfl (fun h => ?_) (fun h => ?_)
  ·(skip; (try simp only [tq] at h))
   refine wpIn_skip ?_
   (refine hZ _ _ ?_; clear hZ Z)
   refine wpIn_block ?_
   (refine wpIn_seq_k ?_; intro Z hZ)
   refine wpi_region rfl ?_
   (revert S a; refine go 3 ?_; intro a S)
   (refine wv S (sv_quo S rfl rfl rfl (by first | omega | (simp only [List.length_append, List.length_cons, List.length_nil]; omega))) ?_; clear S a; intro a S)
   (revert S a; revert hZ Z; refine go 3 ?_; intro a S)
   (refine wpIn_seq_k ?_; intro Z hZ)
   (obtain ⟨mid, hmid⟩ : ∃ mid, mid = (lo + hi) / 2 := ⟨_, rfl⟩; replace S := S.keep (L' := [(8, .int .i64 (j : Int)), (3, .pointer (some ⟨b3, 0, none⟩)), (6, .pointer (some ⟨b6, 0, none⟩)), (7, .pointer (some ⟨b7, 0, none⟩)), (10, .int .i64 (lo : Int)), (11, .int .i64 (hi : Int)), (12, .int .i64 (mid : Int))]) ⟨rfl, rfl, rfl, rfl, rfl, rfl, reg (by omega), trivial⟩)
   (refine wpi_mixM [0, 1, 3, 5] [0, 3] [] (.one 0 (.one 1 (.one 3 (.one 2 (.one 4 (.one 5 .nil)))))) [b3, b7] S mixed rfl (by kernel_rfl) ?_; clear S; intro w S)
   (revert S a; refine go 4 ?_; intro a S)
   (first | (refine wcF S (timesCt C mid _ F3 (by omega) (by omega) (huF.mono hF3)) ?_; clear S a; intro t1 F4 a w ht1 hF4 S; skip) | (refine wcF S (timesCt C lo _ F3 (by omega) (by omega) (huF.mono hF3)) ?_; clear S a; intro t1 F4 a w ht1 hF4 S; skip))
   (revert S a; refine go 2 ?_; intro a S)
   (refine wc0 S (sizesCt (C * mid) R1 _ _ F4 (Nat.le_trans (nd_one (by omega) (by rw [hKC]; exact hlC)) (by omega)) (by omega) ht1 (hu3.mono hF4)) ?_; clear S a; intro v a w hv S; subst hv)
   (revert S a; revert hZ Z; refine go 4 ?_; intro a S)
   refine wpi_split S rfl (fun h => ?_) (fun h => ?_)
   ·(skip; (try simp only [tq] at h))
    refine wpi_region rfl ?_
    (revert S a; refine go 3 ?_; intro a S)
    change ∃ m', _ ∧ _
    exact zzOver0
   (skip; (try simp only [tq] at h))
   refine wpi_region rfl ?_
   (revert S a; refine go 3 ?_; intro a S)
   change ∃ m', _ ∧ _
   exact zzOver0
  (skip; (try simp only [tq] at h))
  (refine wpIn_exit ?_; conv => whnf)
  clear hZ Z
  (refine hZ _ _ ?_; clear hZ Z)
  (refine wpIn_seq_k ?_; intro Z hZ)
  (have hlod := half_q hlo hRhi hlh (by omega); have hdd := dig_div (A := A) (j := j) b2 hC; rw [← hR1, ← hlod] at hdd; have hrd : R1 - C * lo = remJ 1000000000 A C j := (by rw [rem_step, ← hR1, hlod]; have := Nat.div_add_mod R1 C; omega))
  refine wpi_region rfl ?_
  (revert S a; refine go 4 ?_; intro a S)
  (refine wpl_storeOwn S rfl rfl rfl rfl rfl hq rfl (by omega) ?_; clear hq S; intro gq w hq S)
  (revert S a; revert hZ Z; refine go 2 ?_; intro a S)
  (refine wpi_mixM [0, 1, 2] [0, 1] [5] (.one 0 (.one 1 (.one 2 (.one 3 (.one 4 (.one 5 .nil)))))) [b7, b3] S mixed rfl (by kernel_rfl) ?_; clear S; intro w S)
  (revert S a; refine go 4 ?_; intro a S)
  (first | (refine wcF S (timesCt C mid _ F3 (by omega) (by omega) (huF.mono hF3)) ?_; clear S a; intro t1 F4 a w ht1 hF4 S; skip) | (refine wcF S (timesCt C lo _ F3 (by omega) (by omega) (huF.mono hF3)) ?_; clear S a; intro t1 F4 a w ht1 hF4 S; skip))
  (revert S a; refine go 2 ?_; intro a S)
  (refine wcF S (minusCt R1 (C * lo) _ _ F4 hlo (by omega) (Nat.le_trans (nd_one (by omega) (by rw [hKC]; exact hlC)) (by omega)) (hu3.mono hF4) ht1) ?_; clear S a; intro u8 F8 a w hu8 hF8 S; have hu80 := hu8; obtain ⟨u8o, u8c, rfl, -, -⟩ := hu80)
  (revert S a; refine go 2 ?_; intro a S)
  (refine wpl_store1 S rfl rfl rfl rfl rfl rfl (by first | (simp; done) | (simp [Value.cells]; done) | exact Nat.le_of_ble_eq_true rfl) ?_; clear S; intro w S)
  refine wpList_nil ?_
  refine wpm_nil (fun h => absurd h (by decide)) ?_
  subst hKK
  refine round_normal S.tr ?_
  (refine ⟨fun b o h => hF8 _ _ (hF4 _ _ (hF3 _ _ (hF2 _ _ h))), _, _, rfl, ?_, own_q hq (congrArg _ ?_)⟩; (rw [← hrd]; exact hu8); rw [hdd])
 ·(clear S; intro D F1 G1 a w hF1 hI S)
  (obtain ⟨hF2, rv, gq, rfl, hrv, hq⟩ := hI; have hle9 := add_le (G1 := [[(D, .deferred (some []))], [(b7, .cells ⟨[rv]⟩ 178 (0, 0))], [(b6, .cells ⟨[.slice (some ⟨bq, 0, none⟩) K K]⟩ 178 (0, 0))]]) S; replace S := St.freeze (G1 := [[(D, .deferred (some []))], [(b7, .cells ⟨[rv]⟩ 178 (0, 0))], [(b6, .cells ⟨[.slice (some ⟨bq, 0, none⟩) K K]⟩ 178 (0, 0))]]) S; (simp only [List.cons_append, List.nil_append] at S); have hqf := hq.slC F1; rw [show cel K (fq (A / C) 0) = cel K (dig 1000000000 (A / C)) from cel_congr fun i hi => (by unfold fq; rw [if_pos (Nat.zero_le _)])] at hqf)
  (refine hZ _ _ ?_; clear hZ Z)
  (refine wpIn_seq_k ?_; intro Z hZ)
  (refine wpi_mixM [0, 2] [0, 2] [] (.one 0 (.one 2 (.one 1 (.one 3 (.one 4 .nil))))) [b6, b7] S mixed rfl (by kernel_rfl) ?_; clear S; intro w S)
  (revert S a; refine go 3 ?_; intro a S)
  (first | (refine wc0 S (trimCt R1 _ _ _ hR1lt (by omega) hslg2) ?_; clear S a; intro u1 a w hu1 S; have hu10 := hu1; obtain ⟨uo, uc, rfl, -, -⟩ := hu10) | (refine wc0 S (trimCt (A / C) K _ _ hQ (by omega) hqf) ?_; clear S a; intro u9 a w hu9 S))
  (revert S a; revert hZ Z; refine go 9 ?_; intro a S)
  refine wpIn_ret ?_
  (refine fin_retM S fun w S => ?_; try (dsimp only at S))
  refine ⟨_, results2 Tryz.results161 (RV.tmp S rfl) (RV.tmp S rfl), ?_⟩
  (have h9 := hrv.mono hle9; rw [rem_zero] at h9; exact ⟨_, _, rfl, hu9, h9⟩)
 (clear S; intro D F1 G1 a w hF1 hI S)
 exact hI.elim
def valS (s : List UInt8) : Int := toZ (negS s, decV (bodyS s))
def showZ (z : Int) : List UInt8 × Int := showS (decide (z < 0)) z.natAbs
def ansZ (e : Int) (x : List UInt8 × Int) : List UInt8 × Int := if e = 0 then x else ([], e)
theorem showS_zero (n : Bool) : showS n 0 = ([48], 0) := by unfold showS; rw [if_pos rfl]
theorem showS_toZ (n : Bool) (N : Nat) : showS n N = showZ (toZ (n, N)) := by
 unfold showZ
 rcases Nat.eq_zero_or_pos N with e | e
 ·subst e
  have : toZ (n, 0) = 0 := by unfold toZ; cases n <;> rfl
  rw [this, showS_zero]; rfl
 ·cases n
  ·have h : toZ (false, N) = (N : Int) := rfl
   rw [h, show decide ((N : Int) < 0) = false by simp]; rfl
  ·have h : toZ (true, N) = -(N : Int) := rfl
   rw [h, show decide (-(N : Int) < 0) = true by simp; omega, Int.natAbs_neg]; rfl
theorem toZ_not (n : Bool) (N : Nat) : toZ (!n, N) = - toZ (n, N) := by cases n <;> simp [toZ]
theorem toZ_mul (n m : Bool) (N M : Nat) : toZ (n != m, N * M) = toZ (n, N) * toZ (m, M) := by
 cases n <;> cases m <;> simp [toZ, Int.neg_mul, Int.mul_neg]
theorem addA_eq (s t : List UInt8) : addA s t = ansZ (bothE s t) (showZ (valS s + valS t)) := by
 unfold addA ansZ
 split
 ·rw [showS_toZ]; congr 1; exact toZ_addS _ _ _ _
 ·rfl
theorem subA_eq (s t : List UInt8) : subA s t = ansZ (bothE s t) (showZ (valS s - valS t)) := by
 unfold subA ansZ
 split
 ·rw [showS_toZ]; congr 1
  rw [Int.sub_eq_add_neg]
  have := toZ_addS (negS s) (decV (bodyS s)) (!negS t) (decV (bodyS t))
  rw [toZ_not] at this; exact this
 ·rfl
theorem negA_eq (s : List UInt8) : negA s = ansZ (checkS s) (showZ (- valS s)) := by
 unfold negA ansZ
 split
 ·rw [showS_toZ, toZ_not]; rfl
 ·rfl
theorem body_neg (l : List UInt8) : bodyS (45 :: l) = l ∧ negS (45 :: l) = true := by unfold bodyS negS; simp
theorem dd_unique : ∀ (n : Nat) (l : List UInt8), l.length = n → l.all isD = true → l ≠ [] → (l.head? = some 48 → l = [48]) → Lib.decDigits (decV l) = l := by
 intro n
 induction n with
 | zero => intro l hl _ hne; exact absurd (List.length_eq_zero_iff.1 hl) hne
 | succ n ih =>
  intro l hl hall hne hh
  obtain ⟨m, c, rfl⟩ : ∃ m c, l = m ++ [c] := ⟨l.dropLast, l.getLast hne, (List.dropLast_concat_getLast hne).symm⟩
  rw [List.all_append, Bool.and_eq_true] at hall
  have hc : isD c = true := by simpa using hall.2
  have hc2 := (isD_iff c).1 hc
  have hdv : dv c = c.toNat - 48 := rfl
  have hce : UInt8.ofNat (48 + dv c) = c := by rw [hdv, show 48 + (c.toNat - 48) = c.toNat by omega, UInt8.ofNat_toNat]
  rw [decV_snoc]
  cases m with
  | nil =>
   rw [decV_nil, Nat.mul_zero, Nat.zero_add, dd_small (dv_lt hc), hce]; rfl
  | cons x r =>
   have hx : x ≠ 48 := fun e => by
    have := hh (by rw [e]; rfl)
    have := congrArg List.length this
    simp at this
   have hm := ih (x :: r) (by simpa using hl) hall.1 (by simp) (fun e => absurd (by simpa using e) hx)
   have hpos : 0 < decV (x :: r) := by
    rcases Nat.eq_zero_or_pos (decV (x :: r)) with e | e
    ·rw [e, dd_small (by decide)] at hm
     simp only [List.cons.injEq] at hm
     exact absurd hm.1.symm hx
    ·exact e
   have hlt := dv_lt hc
   rw [dd_big (by omega), show (10 * decV (x :: r) + dv c) / 10 = decV (x :: r) by omega, show (10 * decV (x :: r) + dv c) % 10 = dv c by omega, hm, hce]
theorem check_parts {s : List UInt8} (h : checkS s = 0) : (bodyS s).all isD = true ∧ (bodyS s).length ≤ 200 ∧ bodyS s ≠ [] ∧ ((bodyS s).head? = some 48 → s = [48]) := by
 obtain ⟨h1, h2, h3⟩ := check_digits h
 refine ⟨h1, h2, h3, fun e => ?_⟩
 by_cases e2 : s = [48]
 ·exact e2
 ·unfold checkS at h
  rw [if_pos (Or.inr ⟨e, e2⟩)] at h; cases h
theorem canon_body {s : List UInt8} (h : checkS s = 0) : Lib.decDigits (decV (bodyS s)) = bodyS s := by
 obtain ⟨h1, h2, h3, h4⟩ := check_parts h
 refine dd_unique _ _ rfl h1 h3 fun e => ?_
 have := h4 e; subst this; decide
theorem s_of_body (s : List UInt8) : s = (if negS s = true then [45] else []) ++ bodyS s := by
 unfold negS bodyS
 cases s with
 | nil => simp
 | cons c r => by_cases h : c = 45 <;> simp [h]
theorem show_val {s : List UInt8} (h : checkS s = 0) : showZ (valS s) = (s, 0) := by
 obtain ⟨h1, h2, h3, h4⟩ := check_parts h
 have hc := canon_body h
 rw [show showZ (valS s) = showS (negS s) (decV (bodyS s)) from (showS_toZ _ _).symm]
 unfold showS
 by_cases h0 : decV (bodyS s) = 0
 ·rw [if_pos h0]
  rw [h0, dd_small (by decide)] at hc
  have := h4 (by rw [← hc]; rfl)
  rw [this]
 ·rw [if_neg h0, hc, if_neg (by omega), ← s_of_body]
theorem val_zero {s : List UInt8} (h : checkS s = 0) : valS s = 0 ↔ s = [48] := by
 constructor
 ·intro e
  have := show_val h
  rw [e] at this
  exact (congrArg Prod.fst this).symm
 ·rintro rfl; decide
theorem t2 : 2 ≤ 10 := by decide
theorem toZ_abs (n : Bool) (N : Nat) : (toZ (n, N)).natAbs = N := by cases n <;> simp [toZ]
theorem toZ_neg {N : Nat} (n : Bool) (h : N ≠ 0) : decide (toZ (n, N) < 0) = n := by cases n <;> simp [toZ] <;> omega
theorem tdiv_sign {x y : Int} : toZ (decide (x < 0) != decide (y < 0), x.natAbs / y.natAbs) = x.tdiv y := by
 by_cases h1 : x < 0 <;> by_cases h2 : y < 0
 ·obtain ⟨a, rfl⟩ := Int.eq_negSucc_of_lt_zero h1
  obtain ⟨b, rfl⟩ := Int.eq_negSucc_of_lt_zero h2
  simp [toZ, Int.tdiv, h1, h2]
 ·obtain ⟨a, rfl⟩ := Int.eq_negSucc_of_lt_zero h1
  obtain ⟨b, rfl⟩ := Int.eq_ofNat_of_zero_le (Int.not_lt.1 h2)
  simp [toZ, Int.tdiv, h1, h2]
 ·obtain ⟨a, rfl⟩ := Int.eq_ofNat_of_zero_le (Int.not_lt.1 h1)
  obtain ⟨b, rfl⟩ := Int.eq_negSucc_of_lt_zero h2
  simp [toZ, Int.tdiv, h1, h2]
 ·obtain ⟨a, rfl⟩ := Int.eq_ofNat_of_zero_le (Int.not_lt.1 h1)
  obtain ⟨b, rfl⟩ := Int.eq_ofNat_of_zero_le (Int.not_lt.1 h2)
  simp [toZ, Int.tdiv, h1, h2]
theorem tmod_sign {x y : Int} : toZ (decide (x < 0), x.natAbs % y.natAbs) = x.tmod y := by
 by_cases h1 : x < 0 <;> by_cases h2 : y < 0
 ·obtain ⟨a, rfl⟩ := Int.eq_negSucc_of_lt_zero h1
  obtain ⟨b, rfl⟩ := Int.eq_negSucc_of_lt_zero h2
  simp [toZ, Int.tmod, h1, h2]
 ·obtain ⟨a, rfl⟩ := Int.eq_negSucc_of_lt_zero h1
  obtain ⟨b, rfl⟩ := Int.eq_ofNat_of_zero_le (Int.not_lt.1 h2)
  simp [toZ, Int.tmod, h1, h2]
 ·obtain ⟨a, rfl⟩ := Int.eq_ofNat_of_zero_le (Int.not_lt.1 h1)
  obtain ⟨b, rfl⟩ := Int.eq_negSucc_of_lt_zero h2
  simp [toZ, Int.tmod, h1, h2]
 ·obtain ⟨a, rfl⟩ := Int.eq_ofNat_of_zero_le (Int.not_lt.1 h1)
  obtain ⟨b, rfl⟩ := Int.eq_ofNat_of_zero_le (Int.not_lt.1 h2)
  simp [toZ, Int.tmod, h1, h2]
theorem dd_nd {N : Nat} (h : N ≠ 0) : (Lib.decDigits N).length = nd 10 N := by
 have h1 : nd 10 N ≤ (Lib.decDigits N).length := nd_le (by have := decV_lt _ (dd_isD N); rwa [dd_val] at this) t2
 have h2 := nd_pos t2 (S := N) (by omega)
 have h3 := dd_len (lt_nd t2 N) (by omega)
 omega
theorem mulA_eq (s t : List UInt8) : mulA s t = ansZ (bothE s t) (showZ (valS s * valS t)) := by
 unfold mulA ansZ
 split
 ·rw [showS_toZ, toZ_mul]; rfl
 ·rfl
def divE (s t : List UInt8) : Int := if bothE s t = 0 then (if decV (bodyS t) = 0 then 81 else 0) else bothE s t
def zeroB : Value := .agg ⟨[.bool false, .slice none 0 0]⟩
def DivV (F : Heap) (u : Value) (s t : List UInt8) : Prop :=
 if divE s t = 0 then ∃ q r, u = .tuple ⟨[.agg ⟨[.bool (negS s != negS t), q]⟩, .agg ⟨[.bool (negS s), r]⟩, .int .i64 0]⟩ ∧ Mag F q (decV (bodyS s) / decV (bodyS t)) ∧ Mag F r (decV (bodyS s) % decV (bodyS t))
 else u = .tuple ⟨[zeroB, zeroB, .int .i64 (divE s t)]⟩
theorem dividedErr (s t : List UInt8) (F : Heap) (hs : s.length ≤ 1000000) (ht : t.length ≤ 1000000) (hbe : ¬ bothE s t = 0) : Ct Tryz.prog 117 [.string (bs s), .string (bs t)] F [] (fun F' _ u => DivV F' u s t) := by
 have hde : divE s t = bothE s t := by unfold divE; rw [if_neg hbe]
 refine Ct.enter Tryz.func117 rfl Tryz.ntmps117 rfl fun w0 a S => ?_
 refine wp_sr fun Z hZ => ?_
 (refine wpl_alloc S rfl rfl rfl rfl ?_; clear S a; intro b4 a w S)
 (refine wpl_alloc S rfl rfl rfl rfl ?_; clear S a; intro b5 a w S)
 (revert S a; revert hZ Z; refine go 6 ?_; intro Z hZ a S)
 (refine wcF S (bothCt s t F (by omega) (by omega)) ?_; clear S a; intro v F1 a w hv hF1 S; rw [BothV, if_neg hbe] at hv; subst hv)
 (revert S a; refine go 4 ?_; intro a S)
 (refine wpl_alloc S rfl rfl rfl rfl ?_; clear S a; intro b7 a w S)
 (refine wpl_alloc S rfl rfl rfl rfl ?_; clear S a; intro b8 a w S)
 iterate 2 (refine wso S rfl rfl ?_; clear S; intro w S)
 (revert S a; revert hZ Z; refine go 11 ?_; intro Z hZ a S)
 refine wpc_split S rfl (fun h => ?_) (fun h => ?_)
 ·(skip; (try simp only [tq] at h))
  (revert S a; refine go 4 ?_; intro Z hZ a S)
  iterate 2 (refine wso S rfl rfl ?_; clear S; intro w S)
  (revert S a; revert hZ Z; refine go 3 ?_; intro a S)
  refine wp_ret (fin_ret S (results3 Tryz.results117 (RV.cellO S rfl (by rfl)) (RV.cellO S rfl (by rfl)) (RV.tmp S rfl)) ?_)
  (unfold DivV; rw [if_neg (by rw [hde]; exact hbe), hde]; rfl)
 (skip; (try simp only [tq] at h); exact absurd h hbe)
theorem dividedZero (s t : List UInt8) (F : Heap) (hs : s.length ≤ 1000000) (ht : t.length ≤ 1000000) (hbe : bothE s t = 0) (h0 : decV (bodyS t) = 0) : Ct Tryz.prog 117 [.string (bs s), .string (bs t)] F [] (fun F' _ u => DivV F' u s t) := by
 have hde : divE s t = 81 := by unfold divE; rw [if_pos hbe, if_pos h0]
 have hn0 : nd 1000000000 (decV (bodyS t)) = 0 := by rw [h0, nd_zero]
 refine Ct.enter Tryz.func117 rfl Tryz.ntmps117 rfl fun w0 a S => ?_
 refine wp_sr fun Z hZ => ?_
 (refine wpl_alloc S rfl rfl rfl rfl ?_; clear S a; intro b4 a w S)
 (refine wpl_alloc S rfl rfl rfl rfl ?_; clear S a; intro b5 a w S)
 (revert S a; revert hZ Z; refine go 6 ?_; intro Z hZ a S)
 (refine wcF S (bothCt s t F (by omega) (by omega)) ?_; clear S a; intro v F1 a w hv hF1 S; rw [BothV, if_pos hbe] at hv; obtain ⟨p, q, rfl, hp, hq⟩ := hv; have hp0 := hp; have hq0 := hq; obtain ⟨po, pc, rfl, -, -⟩ := hp0; obtain ⟨qo, qc, rfl, -, -⟩ := hq0)
 (revert S a; refine go 4 ?_; intro a S)
 (refine wpl_alloc S rfl rfl rfl rfl ?_; clear S a; intro b7 a w S)
 (refine wpl_alloc S rfl rfl rfl rfl ?_; clear S a; intro b8 a w S)
 iterate 2 (refine wso S rfl rfl ?_; clear S; intro w S)
 (revert S a; revert hZ Z; refine go 11 ?_; intro Z hZ a S)
 refine wpc_split S rfl (fun h => ?_) (fun h => ?_)
 ·(skip; (try simp only [tq] at h); exact absurd trivial h)
 (skip; (try simp only [tq] at h))
 (revert S a; refine go 8 ?_; intro a S)
 refine wpc_split S rfl (fun h => ?_) (fun h => ?_)
 ·(skip; (try simp only [tq] at h))
  (revert S a; refine go 3 ?_; intro Z hZ a S)
  iterate 2 (refine wso S rfl rfl ?_; clear S; intro w S)
  (revert S a; revert hZ Z; refine go 3 ?_; intro a S)
  refine wp_ret (fin_ret S (results3 Tryz.results117 (RV.cellO S rfl (by rfl)) (RV.cellO S rfl (by rfl)) (RV.tmp S rfl)) ?_)
  (unfold DivV; rw [if_neg (by rw [hde]; decide), hde]; rfl)
 (skip; (try simp only [tq] at h); omega)
theorem dividedOk (s t : List UInt8) (F : Heap) (hs : s.length ≤ 1000000) (ht : t.length ≤ 1000000) (hbe : bothE s t = 0) (h0 : ¬ decV (bodyS t) = 0) : Ct Tryz.prog 117 [.string (bs s), .string (bs t)] F [] (fun F' _ u => DivV F' u s t) := by
 have hde : divE s t = 0 := by unfold divE; rw [if_pos hbe, if_neg h0]
 have hn0 : nd 1000000000 (decV (bodyS t)) ≠ 0 := fun e => h0 (nd_eq_zero b2 e)
 have hn1 := nd_num (both_ok hbe).1
 have hn2 := nd_num (both_ok hbe).2
 refine Ct.enter Tryz.func117 rfl Tryz.ntmps117 rfl fun w0 a S => ?_
 refine wp_sr fun Z hZ => ?_
 (refine wpl_alloc S rfl rfl rfl rfl ?_; clear S a; intro b4 a w S)
 (refine wpl_alloc S rfl rfl rfl rfl ?_; clear S a; intro b5 a w S)
 (revert S a; revert hZ Z; refine go 6 ?_; intro Z hZ a S)
 (refine wcF S (bothCt s t F (by omega) (by omega)) ?_; clear S a; intro v F1 a w hv hF1 S; rw [BothV, if_pos hbe] at hv; obtain ⟨p, q, rfl, hp, hq⟩ := hv; have hp0 := hp; have hq0 := hq; obtain ⟨po, pc, rfl, -, -⟩ := hp0; obtain ⟨qo, qc, rfl, -, -⟩ := hq0)
 (revert S a; refine go 4 ?_; intro a S)
 (refine wpl_alloc S rfl rfl rfl rfl ?_; clear S a; intro b7 a w S)
 (refine wpl_alloc S rfl rfl rfl rfl ?_; clear S a; intro b8 a w S)
 iterate 2 (refine wso S rfl rfl ?_; clear S; intro w S)
 (revert S a; revert hZ Z; refine go 11 ?_; intro Z hZ a S)
 refine wpc_split S rfl (fun h => ?_) (fun h => ?_)
 ·(skip; (try simp only [tq] at h); exact absurd trivial h)
 (skip; (try simp only [tq] at h))
 (revert S a; refine go 8 ?_; intro a S)
 refine wpc_split S rfl (fun h => ?_) (fun h => ?_)
 ·(skip; (try simp only [tq] at h); omega)
 (skip; (try simp only [tq] at h))
 (revert S a; revert hZ Z; refine go 7 ?_; intro Z hZ a S)
 (refine wcF S (overCt (decV (bodyS s)) (decV (bodyS t)) _ _ F1 (by omega) (by omega) (by omega) hp hq) ?_; clear S a; intro v2 F2 a w hv2 hF2 S; obtain ⟨q2, r2, rfl, hq2, hr2⟩ := hv2; have hq20 := hq2; have hr20 := hr2; obtain ⟨q2o, q2c, rfl, -, -⟩ := hq20; obtain ⟨r2o, r2c, rfl, -, -⟩ := hr20)
 (revert S a; revert hZ Z; refine go 7 ?_; intro a S)
 (refine wp_seq_k ?_; intro Z hZ)
 (refine wpc_mixM [0, 1, 2, 3, 4, 5, 6, 7, 8, 9, 10] [1, 3, 8] [] (.one 0 (.one 1 (.one 2 (.one 3 (.one 4 (.one 5 (.one 6 (.one 7 (.one 8 (.one 9 (.one 10 (.one 11 (.one 12 (.one 13 .nil)))))))))))))) [b7, b8] S mixed (by kernel_rfl) ?_; clear S; intro w S)
 (revert S a; refine go 12 ?_; intro a S)
 (refine wso S rfl rfl ?_; clear S; intro w S)
 (revert S a; refine go 2 ?_; intro a S)
 (refine wso S rfl rfl ?_; clear S; intro w S)
 (revert S a; revert hZ Z; refine go 6 ?_; intro a S)
 refine wp_ret (fin_ret S (results3 Tryz.results117 (RV.cellO S rfl (by rfl)) (RV.cellO S rfl (by rfl)) (RV.tmp S rfl)) ?_)
 (unfold DivV; rw [if_pos hde]; exact ⟨_, _, rfl, hq2, hr2⟩)
theorem dividedCt (s t : List UInt8) (F : Heap) (hs : s.length ≤ 1000000) (ht : t.length ≤ 1000000) : Ct Tryz.prog 117 [.string (bs s), .string (bs t)] F [] (fun F' _ u => DivV F' u s t) := by
 by_cases hbe : bothE s t = 0
 ·by_cases h0 : decV (bodyS t) = 0
  ·exact dividedZero s t F hs ht hbe h0
  ·exact dividedOk s t F hs ht hbe h0
 ·exact dividedErr s t F hs ht hbe
def divA (s t : List UInt8) : List UInt8 × Int := if divE s t = 0 then showS (negS s != negS t) (decV (bodyS s) / decV (bodyS t)) else ([], divE s t)
def modA (s t : List UInt8) : List UInt8 × Int := if divE s t = 0 then showS (negS s) (decV (bodyS s) % decV (bodyS t)) else ([], divE s t)
theorem divE_ok {s t : List UInt8} (h : divE s t = 0) : bothE s t = 0 ∧ decV (bodyS t) ≠ 0 := by
 unfold divE at h
 split at h
 ·rename_i h1; split at h
  ·cases h
  ·exact ⟨h1, by assumption⟩
 ·rename_i h1; exact absurd h h1
theorem bdivCt (s t : List UInt8) (F : Heap) (hT : TabF F) (hs : s.length ≤ 1000000) (ht : t.length ≤ 1000000) : Ct Tryz.prog 64 [.string (bs s), .string (bs t)] F [] (fun _ _ u => u = ansV (divA s t)) := by
 have hdc := dividedCt s t F hs ht
 by_cases hde : divE s t = 0
 ·have hn1 := nd_num (both_ok (divE_ok hde).1).1
  have hn3 := nd_mono (Nat.div_le_self (decV (bodyS s)) (decV (bodyS t)))
  simp only [DivV, if_pos hde] at hdc
  refine Ct.enter Tryz.func64 rfl Tryz.ntmps64 rfl fun w0 a S => ?_
  (revert S a; refine go 8 ?_; intro Z hZ a S)
  (refine wcF S (hdc) ?_; clear S a; intro v F1 a w hv hF1 S; obtain ⟨q, r, rfl, hq, hr⟩ := hv; have hq0 := hq; have hr0 := hr; obtain ⟨qo, qc, rfl, -, -⟩ := hq0; obtain ⟨ro, rc, rfl, -, -⟩ := hr0)
  (revert S a; refine go 4 ?_; intro a S)
  (refine wpl_alloc S rfl rfl rfl rfl ?_; clear S a; intro b6 a w S)
  (refine wpl_alloc S rfl rfl rfl rfl ?_; clear S a; intro b7 a w S)
  iterate 2 (refine wso S rfl rfl ?_; clear S; intro w S)
  (revert S a; revert hZ Z; refine go 9 ?_; intro Z hZ a S)
  refine wpc_split S rfl (fun h => ?_) (fun h => ?_)
  ·(skip; (try simp only [tq] at h); exact absurd trivial h)
  (skip; (try simp only [tq] at h))
  (revert S a; revert hZ Z; refine go 4 ?_; intro Z hZ a S)
  (refine wc0 S (textCt _ _ _ F1 (hT.mono hF1) (by omega) ⟨_, rfl, hq⟩) ?_; clear S a; intro v a w hv S; subst hv)
  (revert S a; revert hZ Z; refine go 6 ?_; intro a S)
  refine wp_ret (fr2 S Tryz.results64 ?_)
  (unfold divA; rw [if_pos hde]; rfl)
 ·simp only [DivV, if_neg hde] at hdc
  refine Ct.enter Tryz.func64 rfl Tryz.ntmps64 rfl fun w0 a S => ?_
  (revert S a; refine go 8 ?_; intro Z hZ a S)
  (refine wcF S (hdc) ?_; clear S a; intro v F1 a w hv hF1 S; subst hv)
  (revert S a; refine go 4 ?_; intro a S)
  (refine wpl_alloc S rfl rfl rfl rfl ?_; clear S a; intro b6 a w S)
  (refine wpl_alloc S rfl rfl rfl rfl ?_; clear S a; intro b7 a w S)
  iterate 2 (refine wpl_storeO S rfl rfl rfl rfl rfl (by rfl) (by simp [Value.cells, Value.oneCell', splice, zeroB]) (by rfl) ?_; clear S; intro w S)
  (revert S a; revert hZ Z; refine go 9 ?_; intro Z hZ a S)
  refine wpc_split S rfl (fun h => ?_) (fun h => ?_)
  ·(skip; (try simp only [tq] at h))
   (revert S a; refine go 6 ?_; intro a S)
   refine wp_ret (fr2 S Tryz.results64 ?_)
   (unfold divA; rw [if_neg hde]; rfl)
  (skip; (try simp only [tq] at h); exact absurd h hde)
theorem bmodCt (s t : List UInt8) (F : Heap) (hT : TabF F) (hs : s.length ≤ 1000000) (ht : t.length ≤ 1000000) : Ct Tryz.prog 66 [.string (bs s), .string (bs t)] F [] (fun _ _ u => u = ansV (modA s t)) := by
 have hdc := dividedCt s t F hs ht
 by_cases hde : divE s t = 0
 ·have hn1 := nd_num (both_ok (divE_ok hde).1).1
  have hn3 := nd_mono (Nat.mod_le (decV (bodyS s)) (decV (bodyS t)))
  simp only [DivV, if_pos hde] at hdc
  refine Ct.enter Tryz.func66 rfl Tryz.ntmps66 rfl fun w0 a S => ?_
  (revert S a; refine go 8 ?_; intro Z hZ a S)
  (refine wcF S (hdc) ?_; clear S a; intro v F1 a w hv hF1 S; obtain ⟨q, r, rfl, hq, hr⟩ := hv; have hq0 := hq; have hr0 := hr; obtain ⟨qo, qc, rfl, -, -⟩ := hq0; obtain ⟨ro, rc, rfl, -, -⟩ := hr0)
  (revert S a; refine go 4 ?_; intro a S)
  (refine wpl_alloc S rfl rfl rfl rfl ?_; clear S a; intro b6 a w S)
  (refine wpl_alloc S rfl rfl rfl rfl ?_; clear S a; intro b7 a w S)
  iterate 2 (refine wso S rfl rfl ?_; clear S; intro w S)
  (revert S a; revert hZ Z; refine go 9 ?_; intro Z hZ a S)
  refine wpc_split S rfl (fun h => ?_) (fun h => ?_)
  ·(skip; (try simp only [tq] at h); exact absurd trivial h)
  (skip; (try simp only [tq] at h))
  (revert S a; revert hZ Z; refine go 4 ?_; intro Z hZ a S)
  (refine wc0 S (textCt _ _ _ F1 (hT.mono hF1) (by omega) ⟨_, rfl, hr⟩) ?_; clear S a; intro v a w hv S; subst hv)
  (revert S a; revert hZ Z; refine go 6 ?_; intro a S)
  refine wp_ret (fr2 S Tryz.results66 ?_)
  (unfold modA; rw [if_pos hde]; rfl)
 ·simp only [DivV, if_neg hde] at hdc
  refine Ct.enter Tryz.func66 rfl Tryz.ntmps66 rfl fun w0 a S => ?_
  (revert S a; refine go 8 ?_; intro Z hZ a S)
  (refine wcF S (hdc) ?_; clear S a; intro v F1 a w hv hF1 S; subst hv)
  (revert S a; refine go 4 ?_; intro a S)
  (refine wpl_alloc S rfl rfl rfl rfl ?_; clear S a; intro b6 a w S)
  (refine wpl_alloc S rfl rfl rfl rfl ?_; clear S a; intro b7 a w S)
  iterate 2 (refine wpl_storeO S rfl rfl rfl rfl rfl (by rfl) (by simp [Value.cells, Value.oneCell', splice, zeroB]) (by rfl) ?_; clear S; intro w S)
  (revert S a; revert hZ Z; refine go 9 ?_; intro Z hZ a S)
  refine wpc_split S rfl (fun h => ?_) (fun h => ?_)
  ·(skip; (try simp only [tq] at h))
   (revert S a; refine go 6 ?_; intro a S)
   refine wp_ret (fr2 S Tryz.results66 ?_)
   (unfold modA; rw [if_neg hde]; rfl)
  (skip; (try simp only [tq] at h); exact absurd h hde)
theorem val_nz {t : List UInt8} : decV (bodyS t) = 0 ↔ valS t = 0 := by unfold valS toZ; cases negS t <;> simp
theorem val_abs (s : List UInt8) : (valS s).natAbs = decV (bodyS s) := toZ_abs _ _
theorem val_neg (s : List UInt8) (h : decV (bodyS s) ≠ 0) : decide (valS s < 0) = negS s := toZ_neg _ h
theorem neg_zero {s : List UInt8} (hs : checkS s = 0) (h : decV (bodyS s) = 0) : negS s = false := by
 have := (val_zero hs).1 (val_nz.1 h)
 subst this; rfl
theorem val_neg2 {s : List UInt8} (hs : checkS s = 0) : decide (valS s < 0) = negS s := by
 by_cases h : decV (bodyS s) = 0
 ·rw [neg_zero hs h, val_nz.1 h]; rfl
 ·exact val_neg s h
theorem divA_eq (s t : List UInt8) : divA s t = ansZ (divE s t) (showZ ((valS s).tdiv (valS t))) := by
 unfold divA ansZ
 split
 ·rename_i h
  have h1 := both_ok (divE_ok h).1
  rw [showS_toZ, ← tdiv_sign, val_neg2 h1.1, val_neg2 h1.2, val_abs, val_abs]
 ·rfl
theorem modA_eq (s t : List UInt8) : modA s t = ansZ (divE s t) (showZ ((valS s).tmod (valS t))) := by
 unfold modA ansZ
 split
 ·rename_i h
  have h1 := both_ok (divE_ok h).1
  rw [showS_toZ, ← tmod_sign, val_neg2 h1.1, val_abs, val_abs]
 ·rfl
def doA (o : Nat) (s t : List UInt8) : List UInt8 × Int :=
 match o with
 | 0 => ansZ (bothE s t) (showZ (valS s + valS t))
 | 1 => ansZ (bothE s t) (showZ (valS s - valS t))
 | 2 => ansZ (bothE s t) (showZ (valS s * valS t))
 | 3 => ansZ (divE s t) (showZ ((valS s).tdiv (valS t)))
 | _ => ansZ (divE s t) (showZ ((valS s).tmod (valS t)))
theorem bmulCt (s t : List UInt8) (F : Heap) (hT : TabF F) (hs : s.length ≤ 1000000) (ht : t.length ≤ 1000000) : Ct Tryz.prog 62 [.string (bs s), .string (bs t)] F [] (fun _ _ u => u = ansV (doA 2 s t)) := by
 rw [show doA 2 s t = mulA s t from (mulA_eq s t).symm]
 by_cases hbe : bothE s t = 0
 ·exact mulOk s t F hT hs ht hbe
 ·exact mulErr s t F hs ht hbe
theorem baddCt (s t : List UInt8) (F : Heap) (hT : TabF F) (hs : s.length ≤ 1000000) (ht : t.length ≤ 1000000) : Ct Tryz.prog 58 [.string (bs s), .string (bs t)] F [] (fun _ _ u => u = ansV (doA 0 s t)) := by
 rw [show doA 0 s t = addA s t from (addA_eq s t).symm]; exact add0Ct s t F hT hs ht
theorem bsubCt (s t : List UInt8) (F : Heap) (hT : TabF F) (hs : s.length ≤ 1000000) (ht : t.length ≤ 1000000) : Ct Tryz.prog 60 [.string (bs s), .string (bs t)] F [] (fun _ _ u => u = ansV (doA 1 s t)) := by
 rw [show doA 1 s t = subA s t from (subA_eq s t).symm]; exact sub0Ct s t F hT hs ht
theorem bdivCt2 (s t : List UInt8) (F : Heap) (hT : TabF F) (hs : s.length ≤ 1000000) (ht : t.length ≤ 1000000) : Ct Tryz.prog 64 [.string (bs s), .string (bs t)] F [] (fun _ _ u => u = ansV (doA 3 s t)) := by
 rw [show doA 3 s t = divA s t from (divA_eq s t).symm]; exact bdivCt s t F hT hs ht
theorem bmodCt2 (s t : List UInt8) (F : Heap) (hT : TabF F) (hs : s.length ≤ 1000000) (ht : t.length ≤ 1000000) : Ct Tryz.prog 66 [.string (bs s), .string (bs t)] F [] (fun _ _ u => u = ansV (doA 4 s t)) := by
 rw [show doA 4 s t = modA s t from (modA_eq s t).symm]; exact bmodCt s t F hT hs ht
theorem decV_cons (c : UInt8) (r : List UInt8) : decV (c :: r) = dv c * 10 ^ r.length + decV r := by
 have := decV_append [c] r
 rw [List.singleton_append] at this
 rw [this]; congr 1; simp [decV]
theorem parseM (l : List UInt8) : ∀ acc : Nat, l.all isD = true → acc ≤ 18446744073709551615 → Lib.parseUintM (2 ^ 64 - 1) acc l = if acc * 10 ^ l.length + decV l ≤ 18446744073709551615 then .ok (acc * 10 ^ l.length + decV l) else .range := by
 induction l with
 | nil => intro acc _ ha; simp [Lib.parseUintM, decV_nil, ha]
 | cons c r ih =>
  intro acc hall ha
  rw [List.all_cons, Bool.and_eq_true] at hall
  have hc := (isD_iff c).1 hall.1
  have hdv : dv c = c.toNat - 48 := rfl
  have hp : 1 ≤ 10 ^ r.length := Nat.pow_pos (by decide)
  have hge : acc * 10 + dv c ≤ (acc * 10 + dv c) * 10 ^ r.length := Nat.le_mul_of_pos_right _ hp
  have hval : acc * 10 ^ (c :: r).length + decV (c :: r) = (acc * 10 + dv c) * 10 ^ r.length + decV r := by
   rw [decV_cons, List.length_cons, Nat.pow_succ, Nat.add_mul, Nat.mul_assoc, Nat.mul_comm 10, ← Nat.mul_assoc, Nat.add_assoc, Nat.mul_assoc]
  rw [hval]
  unfold Lib.parseUintM
  rw [if_pos hc]
  by_cases h1 : 1844674407370955162 ≤ acc
  ·rw [if_pos h1, if_neg (by omega)]
  ·rw [if_neg h1, ← hdv]
   by_cases h2 : 2 ^ 64 - 1 < acc * 10 + dv c
   ·rw [if_pos h2, if_neg (by omega)]
   ·rw [if_neg h2]
    exact ih _ hall.2 (by omega)
def fitsI (z : Int) : Bool := decide (-9223372036854775808 ≤ z) && decide (z ≤ 9223372036854775807)
theorem parse_int {s : List UInt8} (h : checkS s = 0) : Lib.parseIntB 64 s = if fitsI (valS s) = true then .ok (valS s) else .range := by
 obtain ⟨h1, h2, h3, h4⟩ := check_parts h
 have hu : Lib.parseUintB 64 (bodyS s) = if decV (bodyS s) ≤ 18446744073709551615 then .ok (decV (bodyS s)) else .range := by
  unfold Lib.parseUintB
  rw [if_neg h3, parseM _ 0 h1 (by decide)]; simp
 cases s with
 | nil => exact absurd rfl h3
 | cons c r =>
  unfold Lib.parseIntB
  by_cases hc : c = 45
  ·subst hc
   have hb : bodyS (45 :: r) = r := (body_neg r).1
   have hn : negS (45 :: r) = true := (body_neg r).2
   rw [hb] at hu
   have hv : valS (45 :: r) = -(decV r : Int) := by unfold valS; rw [hb, hn]; rfl
   rw [hv]
   simp only [show (45 : UInt8).toNat = 45 from rfl, or_true, if_true, hu, not_true, false_and, if_false, true_and]
   unfold fitsI
   by_cases hd : decV r ≤ 18446744073709551615
   ·rw [if_pos hd]
    simp only
    by_cases hd2 : 2 ^ (64 - 1) < decV r
    ·rw [if_pos hd2, if_neg (by simp; omega)]
    ·rw [if_neg hd2, if_pos (by simp; omega)]
   ·rw [if_neg hd, if_neg (by simp; omega)]
  ·have hb : bodyS (c :: r) = c :: r := by unfold bodyS; rw [if_neg (by simpa using hc)]
   have hn : negS (c :: r) = false := by unfold negS; simpa using hc
   rw [hb] at hu h1
   have hcd := (isD_iff c).1 (by rw [List.all_cons, Bool.and_eq_true] at h1; exact h1.1)
   have hv : valS (c :: r) = (decV (c :: r) : Int) := by unfold valS; rw [hb, hn]; rfl
   rw [hv]
   have e1 : ¬ c.toNat = 43 := by omega
   have e2 : ¬ c.toNat = 45 := by omega
   simp only [e1, e2, or_self, if_false, hu, not_false_eq_true, true_and, false_and]
   unfold fitsI
   by_cases hd : decV (c :: r) ≤ 18446744073709551615
   ·rw [if_pos hd]
    simp only
    by_cases hd2 : 2 ^ (64 - 1) ≤ decV (c :: r)
    ·rw [if_pos hd2, if_neg (by simp; omega)]
    ·rw [if_neg hd2, if_pos (by simp; omega)]
   ·rw [if_neg hd, if_neg (by simp; omega)]
def ErrF (F : Heap) : Prop := ∃ ev, Cel F 6 0 ev ∧ (ev = .nilIface ∨ ∃ te pe, ev = .iface te pe)
theorem ErrF.mono {F F' : Heap} (hF : ∀ b o, F b = some o → F' b = some o) (h : ErrF F) : ErrF F' := by
 obtain ⟨ev, h1, h2⟩ := h; exact ⟨ev, h1.mono hF, h2⟩
theorem parseIntOk (s : List UInt8) (F : Heap) (hck : checkS s = 0) (hf : fitsI (valS s) = true) (hs : s.length ≤ 1000000) : Ct Tryz.prog 204 [.string (bs s), .int .i64 10, .int .i64 64] F [] (fun _ _ u => u = .tuple ⟨[.int .i64 (valS s), .nilIface]⟩) := by
 refine ct_of_below fun w hw => ?_
 refine (Tryz.strconv_ParseInt_10_at64_ok (bs s) (by rw [bs_size]; omega) (valS s) (by rw [show (bs s).data.toList = s from rfl, parse_int hck, if_pos hf]) w).mono fun e w' ⟨h1, h2⟩ => ⟨h1, ?_⟩
 rcases h2 with rfl | ⟨t, rfl⟩
 ·exact RowKit.Below.refl _ _
 ·exact Lib.bytesWorld_below w _ t
theorem parseIntRange (s : List UInt8) (F : Heap) (hE : ErrF F) (hck : checkS s = 0) (hf : ¬ fitsI (valS s) = true) (hs : s.length ≤ 1000000) : Ct Tryz.prog 204 [.string (bs s), .int .i64 10, .int .i64 64] F [] (fun _ _ u => ∃ n t v, u = .tuple ⟨[.int .i64 n, .iface t v]⟩) := by
 obtain ⟨ev, hc, hev⟩ := hE
 refine ct_of_below2 fun w hw => ?_
 exact (Tryz.strconv_ParseInt_10_at64_range (bs s) (by rw [bs_size]; omega) (by rw [show (bs s).data.toList = s from rfl, parse_int hck, if_neg hf]) ev w (hw.cel hc) hev).mono fun e w' ⟨N, h1, h2, h3, h4⟩ => ⟨_, h1, ⟨_, _, _, rfl⟩, h4⟩
def intA (s : List UInt8) : Int × Int := if checkS s = 0 then (if fitsI (valS s) = true then (valS s, 0) else (0, 80)) else (0, checkS s)
theorem bintCt (s : List UInt8) (F : Heap) (hE : ErrF F) (hs : s.length ≤ 1000000) : Ct Tryz.prog 168 [.string (bs s)] F [] (fun _ _ u => u = cmpV (intA s)) := by
 by_cases hck : checkS s = 0
 ·by_cases hf : fitsI (valS s) = true
  ·rw [show intA s = (valS s, 0) from (by unfold intA; rw [if_pos hck, if_pos hf])]
   refine Ct.enter Tryz.func168 rfl Tryz.ntmps168 rfl fun w0 a S => ?_
   (revert S a; refine go 8 ?_; intro Z hZ Z hZ a S)
   (refine wc0 S (checkCt s F (by omega)) ?_; clear S a; intro v a w hv S; subst hv)
   (revert S a; revert hZ Z; refine go 8 ?_; intro a S)
   refine wpc_split S rfl (fun h => ?_) (fun h => ?_)
   ·(skip; (try simp only [tq] at h); exact absurd hck h)
   (skip; (try simp only [tq] at h))
   (revert S a; revert hZ Z; refine go 4 ?_; intro Z hZ a S)
   (refine wc0 S (parseIntOk s F hck hf hs) ?_; clear S a; intro v a w hv S; subst hv)
   (revert S a; revert hZ Z; refine go 10 ?_; intro Z hZ Z hZ a S)
   (refine wv S (sv_neNil S rfl rfl) ?_; clear S a; intro a S)
   (revert S a; revert hZ Z; refine go 2 ?_; intro a S)
   refine wpc_false S rfl ?_
   (revert S a; revert hZ Z; refine go 8 ?_; intro a S)
   refine wp_ret (fr2 S Tryz.results168 ?_)
   rfl
  ·rw [show intA s = (0, 80) from (by unfold intA; rw [if_pos hck, if_neg hf])]
   refine Ct.enter Tryz.func168 rfl Tryz.ntmps168 rfl fun w0 a S => ?_
   (revert S a; refine go 8 ?_; intro Z hZ Z hZ a S)
   (refine wc0 S (checkCt s F (by omega)) ?_; clear S a; intro v a w hv S; subst hv)
   (revert S a; revert hZ Z; refine go 8 ?_; intro a S)
   refine wpc_split S rfl (fun h => ?_) (fun h => ?_)
   ·(skip; (try simp only [tq] at h); exact absurd hck h)
   (skip; (try simp only [tq] at h))
   (revert S a; revert hZ Z; refine go 4 ?_; intro Z hZ a S)
   (refine wc0 S (parseIntRange s F hE hck hf hs) ?_; clear S a; intro v a w hv S; obtain ⟨pn, pt, pv, rfl⟩ := hv)
   (revert S a; revert hZ Z; refine go 10 ?_; intro Z hZ Z hZ a S)
   (refine wv S (sv_neSome S rfl rfl) ?_; clear S a; intro a S)
   (revert S a; revert hZ Z; refine go 2 ?_; intro a S)
   refine wpc_true S rfl ?_
   (revert S a; refine go 5 ?_; intro a S)
   refine wp_ret (fr2 S Tryz.results168 ?_)
   rfl
 ·rw [show intA s = (0, checkS s) from (by unfold intA; rw [if_neg hck])]
  refine Ct.enter Tryz.func168 rfl Tryz.ntmps168 rfl fun w0 a S => ?_
  (revert S a; refine go 8 ?_; intro Z hZ Z hZ a S)
  (refine wc0 S (checkCt s F (by omega)) ?_; clear S a; intro v a w hv S; subst hv)
  (revert S a; revert hZ Z; refine go 8 ?_; intro a S)
  refine wpc_split S rfl (fun h => ?_) (fun h => ?_)
  ·(skip; (try simp only [tq] at h))
   (revert S a; refine go 6 ?_; intro a S)
   refine wp_ret (fr2 S Tryz.results168 ?_)
   rfl
  (skip; (try simp only [tq] at h); exact absurd h hck)
structure EnK (F : Heap) : Prop where
  T : TabF F
  E : ErrF F
  M : ErrT F
theorem EnK.mono {F F' : Heap} (h : EnK F) (hF : ∀ b o, F b = some o → F' b = some o) : EnK F' := ⟨h.T.mono hF, h.E.mono hF, h.M.mono hF⟩
end Go.Proofs.YtgefmjghdijbfaaGreatDoor
namespace Go.Wk
open Go Go.ChangeShapes Go.WideShapes
set_option linter.unusedSimpArgs false
set_option linter.unusedVariables false
def heapOf (w : World) : Heap := fun b => w.heap[b]?
theorem cel_of {W : World} {a : Addr} {v : Value} (h : W.cell? a = some v) : a.spot = none ∧ Cel (heapOf W) a.block a.off v := by
 refine ⟨World.cell?_spot h, ?_⟩
 unfold World.cell? at h
 split at h
 ·rename_i c e f hc
  split at h
  ·cases h
  ·exact ⟨c, e, f, hc, h⟩
 ·cases h
theorem add_none (b off n : Nat) : (⟨b, off, none⟩ : Addr).add n = ⟨b, off + n, none⟩ := by
 unfold Addr.add; split
 ·rename_i h; subst h; rfl
 ·rfl
theorem Cels.append {F : Heap} {b off : Nat} {xs ys : List Value} (h1 : Cels F b off xs) (h2 : Cels F b (off + xs.length) ys) : Cels F b off (xs ++ ys) := by
 intro j v hv
 by_cases hj : j < xs.length
 ·rw [List.getElem?_append_left hj] at hv; exact h1 j v hv
 ·rw [List.getElem?_append_right (by omega)] at hv
  have := h2 _ v hv
  rw [show off + xs.length + (j - xs.length) = off + j by omega] at this
  exact this
end Go.Wk
