/- The walks of the lexer's skip and between: its place and its rest move on. -/
import Derived.Test.YtpgnmnacfilnkaaDoorLxH
namespace Go.Proofs.YtpgnmnacfilnkaaDoor
open Go Go.Wk Go.Lx
set_option linter.unusedSimpArgs false
set_option linter.unusedVariables false
attribute [local irreducible] Go.wpList Go.Code.wp Go.wpStill Go.Wk.wpPre Go.bodyPost Go.Calls Go.Wk.Ct Go.Wk.OwnS
attribute [local irreducible] Go.Wk.wpG Go.Wk.wpM

/-- The lexer's own block. -/
def lexG (X mb : Nat) (r : List UInt8) (p : Int × Int) : Grp := [(X, .cells ⟨[.map (some mb), .string (bs r), .int .i64 p.1, .int .i64 p.2]⟩ 50 (0, 0))]

set_option maxHeartbeats 2000000 in
theorem skipCt (F : Heap) (X mb : Nat) (r : List UInt8) (p : Int × Int) (n : Nat) (hn : n ≤ r.length) (hs : r.length ≤ 1000000) (h1 : 0 ≤ p.1) (h2 : 0 ≤ p.2) (h3 : p.1 ≤ 1000000000) (h4 : p.2 ≤ 1000000000) :
    Ct Tryd.prog 19 [ptr X, .int .i64 n] F [lexG X mb r p] (fun _ G' _ => G' = [lexG X mb (r.drop n) (place p (r.take n))]) := by
  have hlen : (r.take n).length = n := by rw [List.length_take]; omega
  (refine Ct.enter Tryd.func19 rfl Tryd.ntmps19 rfl fun w0 a S => ?_); replace S : St _ _ _ _ _ _ [[(X, .cells ⟨[.map (some mb), .string (bs r), .int .i64 p.1, .int .i64 p.2]⟩ 50 (0, 0))]] _ _ := S
  (refine wp_seq_k ?_; intro Kq1 hKq1)
  (refine wp_seq_k ?_; intro Kq2 hKq2)
  refine wp_region_lit ?_
  (refine wpl_v S rfl rfl rfl (sv_pure S rfl) ?_; clear S a; intro a S)
  (refine wpl_v S rfl rfl rfl (sv_nilCheck S rfl rfl) ?_; clear S a; intro a S)
  (refine wpl_v S rfl rfl rfl (sv_fieldAddr S rfl rfl rfl inferInstance rfl) ?_; clear S a; intro a S)
  first | (refine wpl_v S rfl rfl rfl (sv_loadO S rfl rfl (by rfl)) ?_; clear S a; intro a S) | (refine wpl_v S rfl rfl rfl (sv_loadF S rfl rfl (by assumption)) ?_; clear S a; intro a S)
  (refine wpl_v S rfl rfl rfl (sv_pure S rfl) ?_; clear S a; intro a S)
  (refine wpl_v S rfl rfl rfl (sv_sliceS_hi S rfl rfl rfl (by first | omega | (simp only [List.length_append, List.length_cons, List.length_nil]; omega))) ?_; clear S a; intro a S)
  (refine wpl_toBytes S rfl rfl rfl rfl rfl ?_; clear S a; intro b12 cap12 F12 a w hcel12 hcap12 hF12 S)
  (refine wpl_v S rfl rfl rfl (sv_lenSl S rfl rfl) ?_; clear S a; intro a S)
  (refine wpl_v S rfl rfl rfl (sv_pure S rfl) ?_; clear S a; intro a S)
  refine wpList_nil ?_
  (refine hKq2 _ _ ?_; try (clear hKq2 Kq2))
  refine wp_block ?_
  refine wpc_loop (fun m a w' => ∃ (i : Nat), m = n - i ∧ i ≤ n ∧ St 49 [(0, ptr X), (1, .int .i64 n), (12, .slice (some ⟨b12, 0, none⟩) (r.take n).length cap12), (13, .int .i64 ((r.take n).length : Nat)), (14, .int .i64 i)] w0 F (keys [lexG X mb r p]) F12 [[(X, .cells ⟨[.map (some mb), .string (bs r), .int .i64 (place p (r.take i)).1, .int .i64 (place p (r.take i)).2]⟩ 50 (0, 0))]] a w') ?_ ?_
  · (refine ⟨n, 0, by simp, Nat.zero_le _, ?_⟩; refine S.keep ?_; repeat (first | exact trivial | refine ⟨rfl, ?_⟩))
  · (clear S; rintro m a w ⟨i, rfl, hi, S⟩; have hpb := place_bd h1 h2 (l := r.take i); rw [List.length_take] at hpb)
    (refine wp_seq_k ?_; intro Kq3 hKq3)
    refine wp_region_lit ?_
    (refine wpl_v S rfl rfl rfl (sv_pure S rfl) ?_; clear S a; intro a S)
    refine wpList_nil ?_
    (refine hKq3 _ _ ?_; try (clear hKq3 Kq3))
    (refine wp_seq_k ?_; intro Kq4 hKq4)
    refine wpc_split S rfl (fun h => ?_) (fun h => ?_)
    · (skip; (try simp only [decide_eq_true_eq, decide_eq_false_iff_not, beq_iff_eq, bne_iff_ne, bne_eq_false_iff_eq, beq_eq_false_iff_ne, ne_eq, Bool.not_eq_true', Bool.not_eq_false', Bool.not_eq_true, Bool.not_eq_false, Bool.not_true, Bool.not_false, Int.ofNat_lt, Int.ofNat_le, Nat.not_lt, Nat.not_le] at h))
      refine wp_skip ?_
      (refine hKq4 _ _ ?_; try (clear hKq4 Kq4))
      (refine wp_seq_k ?_; intro Kq5 hKq5)
      refine wp_block ?_
      (refine wp_seq_k ?_; intro Kq6 hKq6)
      (have hc : Cel F12 b12 (0 + i * 1) (.int .u8 ((r.getD i 0).toNat : Nat)) := (by refine hcel12 (i * 1) _ ?_; rw [Nat.mul_one, List.getElem?_map, List.getElem?_take, if_pos (by omega), List.getElem?_eq_getElem (show i < r.length by omega), List.getD_eq_getElem?_getD, List.getElem?_eq_getElem (show i < r.length by omega)]; rfl))
      refine wp_region_lit ?_
      (refine wpl_v S rfl rfl rfl (sv_indexAddrSl S rfl rfl rfl (by first | omega | (simp only [List.length_append, List.length_cons, List.length_nil]; omega))) ?_; clear S a; intro a S)
      first | (refine wpl_v S rfl rfl rfl (sv_loadO S rfl rfl (by rfl)) ?_; clear S a; intro a S) | (refine wpl_v S rfl rfl rfl (sv_loadF S rfl rfl (by assumption)) ?_; clear S a; intro a S)
      (refine wpl_v S rfl rfl rfl (sv_pure S rfl) ?_; clear S a; intro a S)
      refine wpList_nil ?_
      (refine hKq6 _ _ ?_; try (clear hKq6 Kq6))
      (refine wp_seq_k ?_; intro Kq7 hKq7)
      refine wp_region_lit ?_
      (refine wpl_v S rfl rfl rfl (sv_pure S rfl) ?_; clear S a; intro a S)
      (refine wpl_v S rfl rfl rfl (sv_pure S rfl) ?_; clear S a; intro a S)
      refine wpList_nil ?_
      (refine hKq7 _ _ ?_; try (clear hKq7 Kq7))
      refine wpc_split S rfl (fun h => ?_) (fun h => ?_)
      · (skip; (try simp only [decide_eq_true_eq, decide_eq_false_iff_not, beq_iff_eq, bne_iff_ne, bne_eq_false_iff_eq, beq_eq_false_iff_ne, ne_eq, Bool.not_eq_true', Bool.not_eq_false', Bool.not_eq_true, Bool.not_eq_false, Bool.not_true, Bool.not_false, Int.ofNat_lt, Int.ofNat_le, Nat.not_lt, Nat.not_le] at h))
        refine wp_region_lit ?_
        (refine wpl_v S rfl rfl rfl (sv_pure S rfl) ?_; clear S a; intro a S)
        (refine wpl_v S rfl rfl rfl (sv_pure S rfl) ?_; clear S a; intro a S)
        (refine wpl_v S rfl rfl rfl (sv_nilCheck S rfl rfl) ?_; clear S a; intro a S)
        (refine wpl_v S rfl rfl rfl (sv_fieldAddr S rfl rfl rfl inferInstance rfl) ?_; clear S a; intro a S)
        (refine wpl_v S rfl rfl rfl (sv_fieldAddr S rfl rfl rfl inferInstance rfl) ?_; clear S a; intro a S)
        first | (refine wpl_v S rfl rfl rfl (sv_loadO S rfl rfl (by rfl)) ?_; clear S a; intro a S) | (refine wpl_v S rfl rfl rfl (sv_loadF S rfl rfl (by assumption)) ?_; clear S a; intro a S)
        (refine wpl_v S rfl rfl rfl (sv_add S rfl rfl rfl (by first | omega | (simp only [List.length_append, List.length_cons, List.length_nil]; omega))) ?_; clear S a; intro a S)
        (refine wpl_v S rfl rfl rfl (sv_build S rfl rfl rfl) ?_; clear S a; intro a S)
        (refine wpl_v S rfl rfl rfl (sv_nilCheck S rfl rfl) ?_; clear S a; intro a S)
        (refine wpl_v S rfl rfl rfl (sv_fieldAddr S rfl rfl rfl inferInstance rfl) ?_; clear S a; intro a S)
        (refine wpl_storeO S rfl rfl rfl rfl rfl (by rfl) (by simp [Value.cells, Value.oneCell', splice]) (by rfl) ?_; clear S; intro w S)
        refine wpList_nil ?_
        (refine hKq5 _ _ ?_; try (clear hKq5 Kq5))
        refine wp_region_lit ?_
        (refine wpl_v S rfl rfl rfl (sv_add S rfl rfl rfl (by first | omega | (simp only [List.length_append, List.length_cons, List.length_nil]; omega))) ?_; clear S a; intro a S)
        (refine wpl_v S rfl rfl rfl (sv_pure S rfl) ?_; clear S a; intro a S)
        refine wpList_nil ?_
        change ∃ m', _ ∧ _
        (refine ⟨n - (i + 1), by omega, i + 1, rfl, by omega, ?_⟩; rw [place_succ p (show i < r.length by omega)]; (first | rw [if_pos (by omega)] | rw [if_neg (by omega)]); refine S.keep ?_; repeat (first | exact trivial | refine ⟨rfl, ?_⟩))
      · (skip; (try simp only [decide_eq_true_eq, decide_eq_false_iff_not, beq_iff_eq, bne_iff_ne, bne_eq_false_iff_eq, beq_eq_false_iff_ne, ne_eq, Bool.not_eq_true', Bool.not_eq_false', Bool.not_eq_true, Bool.not_eq_false, Bool.not_true, Bool.not_false, Int.ofNat_lt, Int.ofNat_le, Nat.not_lt, Nat.not_le] at h))
        refine wp_region_lit ?_
        (refine wpl_v S rfl rfl rfl (sv_pure S rfl) ?_; clear S a; intro a S)
        (refine wpl_v S rfl rfl rfl (sv_nilCheck S rfl rfl) ?_; clear S a; intro a S)
        (refine wpl_v S rfl rfl rfl (sv_fieldAddr S rfl rfl rfl inferInstance rfl) ?_; clear S a; intro a S)
        (refine wpl_v S rfl rfl rfl (sv_fieldAddr S rfl rfl rfl inferInstance rfl) ?_; clear S a; intro a S)
        first | (refine wpl_v S rfl rfl rfl (sv_loadO S rfl rfl (by rfl)) ?_; clear S a; intro a S) | (refine wpl_v S rfl rfl rfl (sv_loadF S rfl rfl (by assumption)) ?_; clear S a; intro a S)
        (refine wpl_v S rfl rfl rfl (sv_add S rfl rfl rfl (by first | omega | (simp only [List.length_append, List.length_cons, List.length_nil]; omega))) ?_; clear S a; intro a S)
        (refine wpl_v S rfl rfl rfl (sv_nilCheck S rfl rfl) ?_; clear S a; intro a S)
        (refine wpl_v S rfl rfl rfl (sv_fieldAddr S rfl rfl rfl inferInstance rfl) ?_; clear S a; intro a S)
        (refine wpl_v S rfl rfl rfl (sv_fieldAddr S rfl rfl rfl inferInstance rfl) ?_; clear S a; intro a S)
        (refine wpl_store1 S rfl rfl rfl rfl rfl rfl (by first | (simp; done) | (simp [Value.cells]; done) | exact Nat.le_of_ble_eq_true rfl) ?_; clear S; intro w S)
        refine wpList_nil ?_
        (refine hKq5 _ _ ?_; try (clear hKq5 Kq5))
        refine wp_region_lit ?_
        (refine wpl_v S rfl rfl rfl (sv_add S rfl rfl rfl (by first | omega | (simp only [List.length_append, List.length_cons, List.length_nil]; omega))) ?_; clear S a; intro a S)
        (refine wpl_v S rfl rfl rfl (sv_pure S rfl) ?_; clear S a; intro a S)
        refine wpList_nil ?_
        change ∃ m', _ ∧ _
        (refine ⟨n - (i + 1), by omega, i + 1, rfl, by omega, ?_⟩; rw [place_succ p (show i < r.length by omega)]; (first | rw [if_pos (by omega)] | rw [if_neg (by omega)]); refine S.keep ?_; repeat (first | exact trivial | refine ⟨rfl, ?_⟩))
    · (skip; (try simp only [decide_eq_true_eq, decide_eq_false_iff_not, beq_iff_eq, bne_iff_ne, bne_eq_false_iff_eq, beq_eq_false_iff_ne, ne_eq, Bool.not_eq_true', Bool.not_eq_false', Bool.not_eq_true, Bool.not_eq_false, Bool.not_true, Bool.not_false, Int.ofNat_lt, Int.ofNat_le, Nat.not_lt, Nat.not_le] at h))
      refine wp_exit ?_
      (refine hKq1 _ _ ?_; try (clear hKq1 Kq1))
      refine wp_region_lit ?_
      (refine wpl_v S rfl rfl rfl (sv_pure S rfl) ?_; clear S a; intro a S)
      (refine wpl_v S rfl rfl rfl (sv_pure S rfl) ?_; clear S a; intro a S)
      (refine wpl_v S rfl rfl rfl (sv_nilCheck S rfl rfl) ?_; clear S a; intro a S)
      (refine wpl_v S rfl rfl rfl (sv_fieldAddr S rfl rfl rfl inferInstance rfl) ?_; clear S a; intro a S)
      first | (refine wpl_v S rfl rfl rfl (sv_loadO S rfl rfl (by rfl)) ?_; clear S a; intro a S) | (refine wpl_v S rfl rfl rfl (sv_loadF S rfl rfl (by assumption)) ?_; clear S a; intro a S)
      (refine wpl_v S rfl rfl rfl (sv_pure S rfl) ?_; clear S a; intro a S)
      (refine wpl_v S rfl rfl rfl (sv_sliceS_lo S rfl rfl rfl (by first | omega | (simp only [List.length_append, List.length_cons, List.length_nil]; omega))) ?_; clear S a; intro a S)
      (refine wpl_v S rfl rfl rfl (sv_nilCheck S rfl rfl) ?_; clear S a; intro a S)
      (refine wpl_v S rfl rfl rfl (sv_fieldAddr S rfl rfl rfl inferInstance rfl) ?_; clear S a; intro a S)
      (refine wpl_store1 S rfl rfl rfl rfl rfl rfl (by first | (simp; done) | (simp [Value.cells]; done) | exact Nat.le_of_ble_eq_true rfl) ?_; clear S; intro w S)
      refine wpList_nil ?_
      refine fin_end S (results0 Tryd.results19) ?_
      (have hin : i = n := (by omega); subst hin; rfl)

theorem hash_of {r : List UInt8} (h : (r.getD 0 0).toNat = 35) : ∃ c t, r = c :: t ∧ c.toNat = 35 := by
  cases r with
  | nil => simp at h
  | cons c t => exact ⟨c, t, rfl, h⟩
theorem blank0 {r : List UInt8} (h : run blankB r = 0) : r = [] ∨ ∃ c t, r = c :: t ∧ blankB c = false := by
  cases r with
  | nil => exact .inl rfl
  | cons c t =>
    refine .inr ⟨c, t, rfl, ?_⟩
    unfold run at h
    by_cases hc : blankB c = true
    · rw [if_pos hc] at h; omega
    · simpa using hc
theorem skipB_zero {r : List UInt8} (h : run blankB r = 0) (h2 : (r.getD 0 0).toNat ≠ 35) : skipB r = 0 := by
  rcases blank0 h with rfl | ⟨c, t, rfl, hc⟩
  · rfl
  · exact skipB_stop hc h2
theorem skipB_remark {r : List UInt8} (h : run blankB r = 0) (h2 : (r.getD 0 0).toNat = 35) : skipB r = run notNl r + skipB (r.drop (run notNl r)) ∧ 1 ≤ run notNl r := by
  rcases blank0 h with rfl | ⟨c, t, rfl, hc⟩
  · simp at h2
  · exact ⟨skipB_hash hc h2, notNl_hash h2⟩
theorem place_more (p : Int × Int) (r : List UInt8) (k n : Nat) : place (place p (r.take k)) ((r.drop k).take n) = place p (r.take (k + n)) := by
  rw [← place_append, List.take_add]

set_option maxHeartbeats 2000000 in
theorem betweenCt (F : Heap) (X mb : Nat) (r : List UInt8) (p : Int × Int) (hs : r.length ≤ 1000000) (h1 : 0 ≤ p.1) (h2 : 0 ≤ p.2) (h3 : p.1 ≤ 900000000) (h4 : p.2 ≤ 900000000) :
    Ct Tryd.prog 17 [ptr X] F [lexG X mb r p] (fun _ G' _ => G' = [lexG X mb (r.drop (skipB r)) (place p (r.take (skipB r)))]) := by
  refine Ct.enter Tryd.func17 rfl Tryd.ntmps17 rfl fun w0 a S => ?_
  refine wp_block ?_
  refine wpc_loop (fun m a w' => ∃ (k : Nat), m = r.length - k ∧ k ≤ r.length ∧ skipB r = k + skipB (r.drop k) ∧ St 27 [(0, ptr X)] w0 F (keys [lexG X mb r p]) F [[(X, .cells ⟨[.map (some mb), .string (bs (r.drop k)), .int .i64 (place p (r.take k)).1, .int .i64 (place p (r.take k)).2]⟩ 50 (0, 0))]] a w') ?_ ?_
  · (refine ⟨r.length, 0, by simp, Nat.zero_le _, by simp, ?_⟩; replace S : St _ _ _ _ _ _ [[(X, .cells ⟨[.map (some mb), .string (bs r), .int .i64 p.1, .int .i64 p.2]⟩ 50 (0, 0))]] _ _ := S; refine S.keep ?_; repeat (first | exact trivial | refine ⟨rfl, ?_⟩))
  · (clear S; rintro m a w ⟨k, rfl, hk, hsk, S⟩; have hpb := place_bd h1 h2 (l := r.take k); have hdl : (r.drop k).length = r.length - k := List.length_drop; have hrb := run_le blankB (r.drop k); have hrn := run_le notNl (r.drop k); rw [List.length_take] at hpb)
    refine wp_block ?_
    (refine wp_seq_k ?_; intro Kq1 hKq1)
    refine wp_region_lit ?_
    (refine wpl_v S rfl rfl rfl (sv_pure S rfl) ?_; clear S a; intro a S)
    (refine wpl_v S rfl rfl rfl (sv_nilCheck S rfl rfl) ?_; clear S a; intro a S)
    (refine wpl_v S rfl rfl rfl (sv_fieldAddr S rfl rfl rfl inferInstance rfl) ?_; clear S a; intro a S)
    first | (refine wpl_v S rfl rfl rfl (sv_loadO S rfl rfl (by rfl)) ?_; clear S a; intro a S) | (refine wpl_v S rfl rfl rfl (sv_loadF S rfl rfl (by assumption)) ?_; clear S a; intro a S)
    ((first | (refine wpl_call0 S rfl rfl rfl rfl rfl rfl (runCt 25 blankB F (fun c => blankCt c F) (r.drop k) (by omega)) rfl ?_) | (refine wpl_call0 S rfl rfl rfl rfl rfl rfl (runCt 27 notNl F (fun c => notNlCt c F) (r.drop k) (by omega)) rfl ?_)); clear S a; intro v a w hv S; subst hv)
    (refine wpl_v S rfl rfl rfl (sv_pure S rfl) ?_; clear S a; intro a S)
    refine wpList_nil ?_
    (refine hKq1 _ _ ?_; try (clear hKq1 Kq1))
    (refine wp_seq_k ?_; intro Kq2 hKq2)
    (refine wp_seq_k ?_; intro Kq3 hKq3)
    refine wp_region_lit ?_
    (refine wpl_v S rfl rfl rfl (sv_pure S rfl) ?_; clear S a; intro a S)
    (refine wpl_v S rfl rfl rfl (sv_pure S rfl) ?_; clear S a; intro a S)
    (refine wpl_v S rfl rfl rfl (sv_pure S rfl) ?_; clear S a; intro a S)
    refine wpl_guard S rfl rfl rfl rfl rfl ?_ ?_
    · (intro h S'; clear S; have S := S'; clear S'; (try simp only [decide_eq_true_eq, decide_eq_false_iff_not, beq_iff_eq, bne_iff_ne, bne_eq_false_iff_eq, beq_eq_false_iff_ne, ne_eq, Bool.not_eq_true', Bool.not_eq_false', Bool.not_eq_true, Bool.not_eq_false, Bool.not_true, Bool.not_false, Int.ofNat_lt, Int.ofNat_le, Nat.not_lt, Nat.not_le] at h))
      (refine wpl_v S rfl rfl rfl (sv_pure S rfl) ?_; clear S a; intro a S)
      refine wpl_take S rfl rfl rfl ?_
      (refine wpl_v S rfl rfl rfl (sv_nilCheck S rfl rfl) ?_; clear S a; intro a S)
      refine wpl_take S rfl rfl rfl ?_
      (refine wpl_v S rfl rfl rfl (sv_fieldAddr S rfl rfl rfl inferInstance rfl) ?_; clear S a; intro a S)
      refine wpl_take S rfl rfl rfl ?_
      first | (refine wpl_v S rfl rfl rfl (sv_loadO S rfl rfl (by rfl)) ?_; clear S a; intro a S) | (refine wpl_v S rfl rfl rfl (sv_loadF S rfl rfl (by assumption)) ?_; clear S a; intro a S)
      refine wpl_take S rfl rfl rfl ?_
      (refine wpl_call0 S rfl rfl rfl rfl rfl rfl (prefixCt (r.drop k) [35] F) rfl ?_; clear S a; intro v a w hv S; rw [prefix1 (r.drop k) 35 35 rfl (by decide)] at hv; subst hv)
      first | (refine wpl_v S rfl rfl rfl (sv_pure S rfl) ?_; clear S a; intro a S) | (refine wpl_v S rfl rfl rfl (sv_pickB S rfl rfl rfl rfl) ?_; clear S a; intro a S)
      refine wpList_nil ?_
      (refine hKq3 _ _ ?_; try (clear hKq3 Kq3))
      refine wpc_split S rfl (fun h => ?_) (fun h => ?_)
      · (skip; (try simp only [decide_eq_true_eq, decide_eq_false_iff_not, beq_iff_eq, bne_iff_ne, bne_eq_false_iff_eq, beq_eq_false_iff_ne, ne_eq, Bool.not_eq_true', Bool.not_eq_false', Bool.not_eq_true, Bool.not_eq_false, Bool.not_true, Bool.not_false, Int.ofNat_lt, Int.ofNat_le, Nat.not_lt, Nat.not_le] at h))
        refine wp_region_lit ?_
        (refine wpl_v S rfl rfl rfl (sv_pure S rfl) ?_; clear S a; intro a S)
        (refine wpl_v S rfl rfl rfl (sv_nilCheck S rfl rfl) ?_; clear S a; intro a S)
        (refine wpl_v S rfl rfl rfl (sv_fieldAddr S rfl rfl rfl inferInstance rfl) ?_; clear S a; intro a S)
        first | (refine wpl_v S rfl rfl rfl (sv_loadO S rfl rfl (by rfl)) ?_; clear S a; intro a S) | (refine wpl_v S rfl rfl rfl (sv_loadF S rfl rfl (by assumption)) ?_; clear S a; intro a S)
        ((first | (refine wpl_call0 S rfl rfl rfl rfl rfl rfl (runCt 25 blankB F (fun c => blankCt c F) (r.drop k) (by omega)) rfl ?_) | (refine wpl_call0 S rfl rfl rfl rfl rfl rfl (runCt 27 notNl F (fun c => notNlCt c F) (r.drop k) (by omega)) rfl ?_)); clear S a; intro v a w hv S; subst hv)
        (refine wpl_v S rfl rfl rfl (sv_pure S rfl) ?_; clear S a; intro a S)
        refine wpList_nil ?_
        (refine hKq2 _ _ ?_; try (clear hKq2 Kq2))
        (refine wp_seq_k ?_; intro Kq4 hKq4)
        (refine wp_seq_k ?_; intro Kq5 hKq5)
        refine wp_region_lit ?_
        (refine wpl_v S rfl rfl rfl (sv_pure S rfl) ?_; clear S a; intro a S)
        (refine wpl_v S rfl rfl rfl (sv_pure S rfl) ?_; clear S a; intro a S)
        refine wpList_nil ?_
        (refine hKq5 _ _ ?_; try (clear hKq5 Kq5))
        refine wpc_split S rfl (fun h => ?_) (fun h => ?_)
        · (skip; (try simp only [decide_eq_true_eq, decide_eq_false_iff_not, beq_iff_eq, bne_iff_ne, bne_eq_false_iff_eq, beq_eq_false_iff_ne, ne_eq, Bool.not_eq_true', Bool.not_eq_false', Bool.not_eq_true, Bool.not_eq_false, Bool.not_true, Bool.not_false, Int.ofNat_lt, Int.ofNat_le, Nat.not_lt, Nat.not_le] at h))
          refine wp_ret ?_
          refine fin_ret S (results0 Tryd.results17) ?_
          (have h0 : skipB (r.drop k) = 0 := (by first | exact skipB_zero (by omega) (by omega) | (exfalso; have h8 := skipB_remark (r := r.drop k) (by omega) (by omega); omega)); rw [h0, Nat.add_zero] at hsk; rw [hsk]; rfl)
        · (skip; (try simp only [decide_eq_true_eq, decide_eq_false_iff_not, beq_iff_eq, bne_iff_ne, bne_eq_false_iff_eq, beq_eq_false_iff_ne, ne_eq, Bool.not_eq_true', Bool.not_eq_false', Bool.not_eq_true, Bool.not_eq_false, Bool.not_true, Bool.not_false, Int.ofNat_lt, Int.ofNat_le, Nat.not_lt, Nat.not_le] at h))
          refine wp_skip ?_
          (refine hKq4 _ _ ?_; try (clear hKq4 Kq4))
          refine wp_region_lit ?_
          (refine wpl_v S rfl rfl rfl (sv_pure S rfl) ?_; clear S a; intro a S)
          (refine wpl_v S rfl rfl rfl (sv_pure S rfl) ?_; clear S a; intro a S)
          ((first | (refine wpl_callOwn (Gs := [lexG X mb (r.drop k) (place p (r.take k))]) (Gr := []) S rfl rfl rfl rfl rfl rfl (skipCt F X mb (r.drop k) (place p (r.take k)) (run blankB (r.drop k)) (by omega) (by omega) (by omega) (by omega) (by omega) (by omega)) rfl (by simp [lexG]) ?_; clear S a; intro u G1 a w hv1 S; subst hv1; have hmv := skipB_run (r.drop k); have hpos : 1 ≤ run blankB (r.drop k) := (by omega)) | (refine wpl_callOwn (Gs := [lexG X mb (r.drop k) (place p (r.take k))]) (Gr := []) S rfl rfl rfl rfl rfl rfl (skipCt F X mb (r.drop k) (place p (r.take k)) (run notNl (r.drop k)) (by omega) (by omega) (by omega) (by omega) (by omega) (by omega)) rfl (by simp [lexG]) ?_; clear S a; intro u G1 a w hv1 S; subst hv1; obtain ⟨hmv, hpos⟩ := skipB_remark (r := r.drop k) (by omega) (by omega))); rw [List.drop_drop, place_more] at S; rw [List.drop_drop] at hmv; replace S : St _ _ _ _ _ _ [[(X, .cells ⟨[.map (some mb), .string (bs (r.drop (k + _))), .int .i64 (place p (r.take (k + _))).1, .int .i64 (place p (r.take (k + _))).2]⟩ 50 (0, 0))]] _ _ := S)
          refine wpList_nil ?_
          change ∃ m', _ ∧ _
          (first | (refine ⟨r.length - (k + run blankB (r.drop k)), by omega, k + run blankB (r.drop k), rfl, by omega, by omega, ?_⟩; (refine S.keep ?_; repeat (first | exact trivial | refine ⟨rfl, ?_⟩)); done) | (refine ⟨r.length - (k + run notNl (r.drop k)), by omega, k + run notNl (r.drop k), rfl, by omega, by omega, ?_⟩; (refine S.keep ?_; repeat (first | exact trivial | refine ⟨rfl, ?_⟩)); done))
      · (skip; (try simp only [decide_eq_true_eq, decide_eq_false_iff_not, beq_iff_eq, bne_iff_ne, bne_eq_false_iff_eq, beq_eq_false_iff_ne, ne_eq, Bool.not_eq_true', Bool.not_eq_false', Bool.not_eq_true, Bool.not_eq_false, Bool.not_true, Bool.not_false, Int.ofNat_lt, Int.ofNat_le, Nat.not_lt, Nat.not_le] at h))
        refine wp_skip ?_
        (refine hKq2 _ _ ?_; try (clear hKq2 Kq2))
        (refine wp_seq_k ?_; intro Kq4 hKq4)
        (refine wp_seq_k ?_; intro Kq5 hKq5)
        refine wp_region_lit ?_
        (refine wpl_v S rfl rfl rfl (sv_pure S rfl) ?_; clear S a; intro a S)
        (refine wpl_v S rfl rfl rfl (sv_pure S rfl) ?_; clear S a; intro a S)
        refine wpList_nil ?_
        (refine hKq5 _ _ ?_; try (clear hKq5 Kq5))
        refine wpc_split S rfl (fun h => ?_) (fun h => ?_)
        · (skip; (try simp only [decide_eq_true_eq, decide_eq_false_iff_not, beq_iff_eq, bne_iff_ne, bne_eq_false_iff_eq, beq_eq_false_iff_ne, ne_eq, Bool.not_eq_true', Bool.not_eq_false', Bool.not_eq_true, Bool.not_eq_false, Bool.not_true, Bool.not_false, Int.ofNat_lt, Int.ofNat_le, Nat.not_lt, Nat.not_le] at h))
          refine wp_ret ?_
          refine fin_ret S (results0 Tryd.results17) ?_
          (have h0 : skipB (r.drop k) = 0 := (by first | exact skipB_zero (by omega) (by omega) | (exfalso; have h8 := skipB_remark (r := r.drop k) (by omega) (by omega); omega)); rw [h0, Nat.add_zero] at hsk; rw [hsk]; rfl)
        · (skip; (try simp only [decide_eq_true_eq, decide_eq_false_iff_not, beq_iff_eq, bne_iff_ne, bne_eq_false_iff_eq, beq_eq_false_iff_ne, ne_eq, Bool.not_eq_true', Bool.not_eq_false', Bool.not_eq_true, Bool.not_eq_false, Bool.not_true, Bool.not_false, Int.ofNat_lt, Int.ofNat_le, Nat.not_lt, Nat.not_le] at h))
          refine wp_skip ?_
          (refine hKq4 _ _ ?_; try (clear hKq4 Kq4))
          refine wp_region_lit ?_
          (refine wpl_v S rfl rfl rfl (sv_pure S rfl) ?_; clear S a; intro a S)
          (refine wpl_v S rfl rfl rfl (sv_pure S rfl) ?_; clear S a; intro a S)
          ((first | (refine wpl_callOwn (Gs := [lexG X mb (r.drop k) (place p (r.take k))]) (Gr := []) S rfl rfl rfl rfl rfl rfl (skipCt F X mb (r.drop k) (place p (r.take k)) (run blankB (r.drop k)) (by omega) (by omega) (by omega) (by omega) (by omega) (by omega)) rfl (by simp [lexG]) ?_; clear S a; intro u G1 a w hv1 S; subst hv1; have hmv := skipB_run (r.drop k); have hpos : 1 ≤ run blankB (r.drop k) := (by omega)) | (refine wpl_callOwn (Gs := [lexG X mb (r.drop k) (place p (r.take k))]) (Gr := []) S rfl rfl rfl rfl rfl rfl (skipCt F X mb (r.drop k) (place p (r.take k)) (run notNl (r.drop k)) (by omega) (by omega) (by omega) (by omega) (by omega) (by omega)) rfl (by simp [lexG]) ?_; clear S a; intro u G1 a w hv1 S; subst hv1; obtain ⟨hmv, hpos⟩ := skipB_remark (r := r.drop k) (by omega) (by omega))); rw [List.drop_drop, place_more] at S; rw [List.drop_drop] at hmv; replace S : St _ _ _ _ _ _ [[(X, .cells ⟨[.map (some mb), .string (bs (r.drop (k + _))), .int .i64 (place p (r.take (k + _))).1, .int .i64 (place p (r.take (k + _))).2]⟩ 50 (0, 0))]] _ _ := S)
          refine wpList_nil ?_
          change ∃ m', _ ∧ _
          (first | (refine ⟨r.length - (k + run blankB (r.drop k)), by omega, k + run blankB (r.drop k), rfl, by omega, by omega, ?_⟩; (refine S.keep ?_; repeat (first | exact trivial | refine ⟨rfl, ?_⟩)); done) | (refine ⟨r.length - (k + run notNl (r.drop k)), by omega, k + run notNl (r.drop k), rfl, by omega, by omega, ?_⟩; (refine S.keep ?_; repeat (first | exact trivial | refine ⟨rfl, ?_⟩)); done))
    · (intro h; clear S a; intro a S; (try simp only [decide_eq_true_eq, decide_eq_false_iff_not, beq_iff_eq, bne_iff_ne, bne_eq_false_iff_eq, beq_eq_false_iff_ne, ne_eq, Bool.not_eq_true', Bool.not_eq_false', Bool.not_eq_true, Bool.not_eq_false, Bool.not_true, Bool.not_false, Int.ofNat_lt, Int.ofNat_le, Nat.not_lt, Nat.not_le] at h))
      (refine wpl_skip S rfl rfl rfl rfl rfl ?_; clear S a; intro a S)
      (refine wpl_skip S rfl rfl rfl rfl rfl ?_; clear S a; intro a S)
      (refine wpl_skip S rfl rfl rfl rfl rfl ?_; clear S a; intro a S)
      (refine wpl_skip S rfl rfl rfl rfl rfl ?_; clear S a; intro a S)
      first | (refine wpl_v S rfl rfl rfl (sv_pure S rfl) ?_; clear S a; intro a S) | (refine wpl_v S rfl rfl rfl (sv_pickB S rfl rfl rfl rfl) ?_; clear S a; intro a S)
      refine wpList_nil ?_
      (refine hKq3 _ _ ?_; try (clear hKq3 Kq3))
      refine wpc_false S rfl ?_
      refine wp_skip ?_
      (refine hKq2 _ _ ?_; try (clear hKq2 Kq2))
      (refine wp_seq_k ?_; intro Kq4 hKq4)
      (refine wp_seq_k ?_; intro Kq5 hKq5)
      refine wp_region_lit ?_
      (refine wpl_v S rfl rfl rfl (sv_pure S rfl) ?_; clear S a; intro a S)
      (refine wpl_v S rfl rfl rfl (sv_pure S rfl) ?_; clear S a; intro a S)
      refine wpList_nil ?_
      (refine hKq5 _ _ ?_; try (clear hKq5 Kq5))
      refine wpc_split S rfl (fun h => ?_) (fun h => ?_)
      · (skip; (try simp only [decide_eq_true_eq, decide_eq_false_iff_not, beq_iff_eq, bne_iff_ne, bne_eq_false_iff_eq, beq_eq_false_iff_ne, ne_eq, Bool.not_eq_true', Bool.not_eq_false', Bool.not_eq_true, Bool.not_eq_false, Bool.not_true, Bool.not_false, Int.ofNat_lt, Int.ofNat_le, Nat.not_lt, Nat.not_le] at h))
        refine wp_ret ?_
        refine fin_ret S (results0 Tryd.results17) ?_
        (have h0 : skipB (r.drop k) = 0 := (by first | exact skipB_zero (by omega) (by omega) | (exfalso; have h8 := skipB_remark (r := r.drop k) (by omega) (by omega); omega)); rw [h0, Nat.add_zero] at hsk; rw [hsk]; rfl)
      · (skip; (try simp only [decide_eq_true_eq, decide_eq_false_iff_not, beq_iff_eq, bne_iff_ne, bne_eq_false_iff_eq, beq_eq_false_iff_ne, ne_eq, Bool.not_eq_true', Bool.not_eq_false', Bool.not_eq_true, Bool.not_eq_false, Bool.not_true, Bool.not_false, Int.ofNat_lt, Int.ofNat_le, Nat.not_lt, Nat.not_le] at h))
        refine wp_skip ?_
        (refine hKq4 _ _ ?_; try (clear hKq4 Kq4))
        refine wp_region_lit ?_
        (refine wpl_v S rfl rfl rfl (sv_pure S rfl) ?_; clear S a; intro a S)
        (refine wpl_v S rfl rfl rfl (sv_pure S rfl) ?_; clear S a; intro a S)
        ((first | (refine wpl_callOwn (Gs := [lexG X mb (r.drop k) (place p (r.take k))]) (Gr := []) S rfl rfl rfl rfl rfl rfl (skipCt F X mb (r.drop k) (place p (r.take k)) (run blankB (r.drop k)) (by omega) (by omega) (by omega) (by omega) (by omega) (by omega)) rfl (by simp [lexG]) ?_; clear S a; intro u G1 a w hv1 S; subst hv1; have hmv := skipB_run (r.drop k); have hpos : 1 ≤ run blankB (r.drop k) := (by omega)) | (refine wpl_callOwn (Gs := [lexG X mb (r.drop k) (place p (r.take k))]) (Gr := []) S rfl rfl rfl rfl rfl rfl (skipCt F X mb (r.drop k) (place p (r.take k)) (run notNl (r.drop k)) (by omega) (by omega) (by omega) (by omega) (by omega) (by omega)) rfl (by simp [lexG]) ?_; clear S a; intro u G1 a w hv1 S; subst hv1; obtain ⟨hmv, hpos⟩ := skipB_remark (r := r.drop k) (by omega) (by omega))); rw [List.drop_drop, place_more] at S; rw [List.drop_drop] at hmv; replace S : St _ _ _ _ _ _ [[(X, .cells ⟨[.map (some mb), .string (bs (r.drop (k + _))), .int .i64 (place p (r.take (k + _))).1, .int .i64 (place p (r.take (k + _))).2]⟩ 50 (0, 0))]] _ _ := S)
        refine wpList_nil ?_
        change ∃ m', _ ∧ _
        (first | (refine ⟨r.length - (k + run blankB (r.drop k)), by omega, k + run blankB (r.drop k), rfl, by omega, by omega, ?_⟩; (refine S.keep ?_; repeat (first | exact trivial | refine ⟨rfl, ?_⟩)); done) | (refine ⟨r.length - (k + run notNl (r.drop k)), by omega, k + run notNl (r.drop k), rfl, by omega, by omega, ?_⟩; (refine S.keep ?_; repeat (first | exact trivial | refine ⟨rfl, ?_⟩)); done))
end Go.Proofs.YtpgnmnacfilnkaaDoor
