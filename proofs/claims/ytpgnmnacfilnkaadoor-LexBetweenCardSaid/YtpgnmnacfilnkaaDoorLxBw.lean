/- The walk of the law LexBetween: blanks and remarks that are put between two tokens change nothing but places. -/
import Derived.Test.YtpgnmnacfilnkaaDoorLxM
import Derived.Test.YtpgnmnacfilnkaaDoorLxW
namespace Go.Proofs.YtpgnmnacfilnkaaDoor
open Go Go.Wk Go.Lx
set_option linter.unusedSimpArgs false
set_option linter.unusedVariables false
attribute [local irreducible] Go.wpList Go.Code.wp Go.wpStill Go.Wk.wpPre Go.bodyPost Go.Calls Go.Wk.Ct Go.Wk.OwnS
attribute [local irreducible] Go.Wk.wpG Go.Wk.wpM

section
variable {P : Program} {n : Sz} {L : List (Nat × Value)} {w0 : World} {F0 : Heap} {K0 : List Nat} {F : Heap} {G : List Grp} {a : Act} {w : World} {o : Oper}
theorem sv_conv_u64 {x : Operand} {k' : IntKind} {p : Int} {s t : TypeId} {ks : IntKind} [hs : Und P s (.int ks)] [ht : Und P t (.int .u64)] (S : St n L w0 F0 K0 F G a w) (ho : o.op = .convert s t x) (hx : ev L x = some (.int k' p))
    (hb : 0 ≤ p ∧ p ≤ 18446744073709551615) : SV P o a w (.int .u64 p) := by
  have := sv_conv (P := P) (k := .u64) S ho hx
  rwa [IntWalk.u64_in _ hb] at this
theorem sv_remU {x y : Operand} {p q : Int} {t yt : TypeId} (S : St n L w0 F0 K0 F G a w) (ho : o.op = .binOp .rem t x y yt) (hx : ev L x = some (.int .u64 p)) (hy : ev L y = some (.int .u64 q))
    (hb : 0 ≤ p ∧ 1 ≤ q) : SV P o a w (.int .u64 (p % q)) :=
  run_intOp S ho hx hy (by simp [binOp, Op.intDiv, Int.tmod_eq_emod_of_nonneg hb.1, show q ≠ 0 by omega])
end
theorem wrap_nonneg (p : Int) : 0 ≤ IntKind.u64.wrap p := by rw [IntKind.wrap_u64]; omega

def insL (r : List UInt8) : List UInt8 := 32 :: 9 :: 13 :: 10 :: 35 :: (r ++ [10])
theorem insL_len (r : List UInt8) : (insL r).length = r.length + 6 := by simp [insL]
theorem skip_ins {r : List UInt8} (hr : ∀ c ∈ r, c.toNat ≠ 10) (t : List UInt8) : skipB (insL r ++ t) = (insL r).length + skipB t := by
  have e : insL r ++ t = 32 :: 9 :: 13 :: 10 :: ((35 :: r) ++ (10 :: t)) := by simp [insL]
  have h1 : run notNl ((35 :: r) ++ (10 :: t)) = (35 :: r).length := by
    refine run_all (fun c hc => ?_) (by rfl)
    rcases List.mem_cons.1 hc with rfl | hc
    · decide
    · simp only [notNl, decide_eq_true_eq]; exact hr c hc
  have h2 : skipB ((35 :: r) ++ (10 :: t)) = (35 :: r).length + skipB (10 :: t) := by
    have h3 : skipB ((35 :: r) ++ (10 :: t)) = run notNl ((35 :: r) ++ (10 :: t)) + skipB (((35 :: r) ++ (10 :: t)).drop (run notNl ((35 :: r) ++ (10 :: t)))) := skipB_hash (by decide) (by decide)
    rw [h3, h1, List.drop_left]
  rw [e, skipB_blank (by decide), skipB_blank (by decide), skipB_blank (by decide), skipB_blank (by decide), h2, skipB_blank (by decide), insL_len]
  simp only [List.length_cons]
  omega
theorem between_ok {s r : List UInt8} {k : Nat} (h : (tokens s).2.2 = 0) (hk : k < (tokens s).1.length) (hl : s.length + r.length + 6 ≤ 65536) :
    ∃ o, o < s.length ∧ place (1, 1) (s.take o) = (((tokens s).1[k]'hk).line, ((tokens s).1[k]'hk).col) ∧ ((∀ c ∈ r, c.toNat ≠ 10) → ∃ m, tokens (s.take o ++ (insL r ++ s.drop o)) = (m, (0, 0), 0) ∧ sameT false (tokens s).1 m = true) := by
  have e := tokens_short (s := s) (by omega)
  have key := fun hr => between_toks (insL r) ⟨_, rfl⟩ (skip_ins hr) (s.length + 1) (1, 1) s k (by omega) (by rw [← e]; exact h) (by rw [← e]; exact hk)
  have key0 := between_toks [32] ⟨[], rfl⟩ (fun t => by rw [List.singleton_append, skipB_blank (by decide)]; simp; omega) (s.length + 1) (1, 1) s k (by omega) (by rw [← e]; exact h) (by rw [← e]; exact hk)
  simp only [← e] at key key0
  obtain ⟨o, ho, hp, _⟩ := key0
  refine ⟨o, ho.lt, hp, fun hr => ?_⟩
  obtain ⟨o2, ho2, hp2, hall⟩ := key hr
  have h1 := ho.lt
  have h2 := ho2.lt
  have : o = o2 := place_inj (p := (1, 1)) (s := s) (by omega) (by omega) (hp.trans hp2.symm)
  subst this
  have hlen : (s.take o ++ (insL r ++ s.drop o)).length = s.length + r.length + 6 := by
    simp only [List.length_append, List.length_take, List.length_drop, insL_len]; omega
  obtain ⟨m, hm, hs⟩ := hall ((s.take o ++ (insL r ++ s.drop o)).length + 1) (1, 1) (by rw [hlen, insL_len]; omega)
  exact ⟨m, by rw [tokens_short (by omega)]; exact hm, hs⟩

set_option maxHeartbeats 4000000 in
theorem lawBetween (s r : List UInt8) (x : Int) (F : Heap) (hF : SpF F) (hs : s.length ≤ 140737488355328) (hr : r.length ≤ 140737488355328) (hx1 : -9223372036854775808 ≤ x) (hx2 : x ≤ 9223372036854775807) : Ct Tryd.prog 6 [.string (bs s), .string (bs r), .int .i64 x] F [] (fun _ _ u => u = .bool true) := by
  have htl := tokens_len s
  have hwr := wrap_nonneg x
  have hp0 : ∀ j, s.length ≤ 6000 → 0 ≤ (place (1, 1) (s.take j)).1 ∧ 0 ≤ (place (1, 1) (s.take j)).2 ∧ (place (1, 1) (s.take j)).1 ≤ 1000001 ∧ (place (1, 1) (s.take j)).2 ≤ 1000001 := fun j _ => by
    have := place_bd (p := (1, 1)) (by decide) (by decide) (l := s.take j)
    rw [List.length_take] at this
    simp only at this
    omega
  refine Ct.enter Tryd.func6 rfl Tryd.ntmps6 rfl fun w0 a S => ?_
  (refine wp_seq_k ?_; intro Kq1 hKq1)
  refine wp_region_lit ?_
  (refine wpl_v S rfl rfl rfl (sv_pure S rfl) ?_; clear S a; intro a S)
  refine wpList_nil ?_
  (refine hKq1 _ _ ?_; try (clear hKq1 Kq1))
  (refine wp_seq_k ?_; intro Kq2 hKq2)
  (refine wp_seq_k ?_; intro Kq3 hKq3)
  refine wp_region_lit ?_
  ((first | (refine wpl_callF S rfl rfl rfl rfl rfl rfl (worksCt F hF) rfl ?_; clear S a; intro vw F0 a w hv hF0 S; subst hv) | (refine wpl_callF S rfl rfl rfl rfl rfl rfl (worksCt F0 (hF.mono hF0)) rfl ?_; clear S a; intro vw F9 a w hv hF9 S; subst hv)))
  (refine wpl_v S rfl rfl rfl (sv_lit (c := false) (sv_pure S rfl) (by rfl)) ?_; clear S a; intro a S)
  (refine wpl_v S rfl rfl rfl (sv_pure S rfl) ?_; clear S a; intro a S)
  refine wpl_take S rfl rfl rfl ?_
  (refine wpl_v S rfl rfl rfl (sv_pure S rfl) ?_; clear S a; intro a S)
  refine wpl_take S rfl rfl rfl ?_
  (refine wpl_v S rfl rfl rfl (sv_lenS S rfl rfl) ?_; clear S a; intro a S)
  refine wpl_take S rfl rfl rfl ?_
  (refine wpl_v S rfl rfl rfl (sv_pure S rfl) ?_; clear S a; intro a S)
  first | (refine wpl_v S rfl rfl rfl (sv_pure S rfl) ?_; clear S a; intro a S) | (refine wpl_v S rfl rfl rfl (sv_pickB S rfl rfl rfl rfl) ?_; clear S a; intro a S)
  (refine wpl_v S rfl rfl rfl (sv_pure S rfl) ?_; clear S a; intro a S)
  refine wpl_guard S rfl rfl rfl rfl rfl ?_ ?_
  · (intro h S'; clear S; have S := S'; clear S'; (try simp only [decide_eq_true_eq, decide_eq_false_iff_not, beq_iff_eq, bne_iff_ne, bne_eq_false_iff_eq, beq_eq_false_iff_ne, ne_eq, Bool.not_eq_true', Bool.not_eq_false', Bool.not_eq_true, Bool.not_eq_false, Bool.not_true, Bool.not_false, Int.ofNat_lt, Int.ofNat_le, Nat.not_lt, Nat.not_le] at h))
    (refine wpl_v S rfl rfl rfl (sv_pure S rfl) ?_; clear S a; intro a S)
    refine wpl_take S rfl rfl rfl ?_
    (refine wpl_v S rfl rfl rfl (sv_lenS S rfl rfl) ?_; clear S a; intro a S)
    refine wpl_take S rfl rfl rfl ?_
    (refine wpl_v S rfl rfl rfl (sv_pure S rfl) ?_; clear S a; intro a S)
    first | (refine wpl_v S rfl rfl rfl (sv_pure S rfl) ?_; clear S a; intro a S) | (refine wpl_v S rfl rfl rfl (sv_pickB S rfl rfl rfl rfl) ?_; clear S a; intro a S)
    refine wpList_nil ?_
    (refine hKq3 _ _ ?_; try (clear hKq3 Kq3))
    refine wpc_split S rfl (fun h => ?_) (fun h => ?_)
    · (skip; (try simp only [decide_eq_true_eq, decide_eq_false_iff_not, beq_iff_eq, bne_iff_ne, bne_eq_false_iff_eq, beq_eq_false_iff_ne, ne_eq, Bool.not_eq_true', Bool.not_eq_false', Bool.not_eq_true, Bool.not_eq_false, Bool.not_true, Bool.not_false, Int.ofNat_lt, Int.ofNat_le, Nat.not_lt, Nat.not_le] at h))
      (refine wp_seq_k ?_; intro Kq4 hKq4)
      refine wp_region_lit ?_
      ((first | (refine wpl_callF S rfl rfl rfl rfl rfl rfl (worksCt F hF) rfl ?_; clear S a; intro vw F0 a w hv hF0 S; subst hv) | (refine wpl_callF S rfl rfl rfl rfl rfl rfl (worksCt F0 (hF.mono hF0)) rfl ?_; clear S a; intro vw F9 a w hv hF9 S; subst hv)))
      (refine wpl_v S rfl rfl rfl (sv_pure S rfl) ?_; clear S a; intro a S)
      refine wpList_nil ?_
      (refine hKq4 _ _ ?_; try (clear hKq4 Kq4))
      refine wp_ret ?_
      refine fin_ret S (results1 Tryd.results6 (RV.tmp S rfl)) ?_
      (first | rfl | (rw [hsm]; done) | (exfalso; have hq : ((place (1, 1) (s.take o)).1 == ((tokens s).1[k]'hkl2).line && (place (1, 1) (s.take o)).2 == ((tokens s).1[k]'hkl2).col) = false := (by assumption); rw [ho2] at hq; simp at hq))
    · (skip; (try simp only [decide_eq_true_eq, decide_eq_false_iff_not, beq_iff_eq, bne_iff_ne, bne_eq_false_iff_eq, beq_eq_false_iff_ne, ne_eq, Bool.not_eq_true', Bool.not_eq_false', Bool.not_eq_true, Bool.not_eq_false, Bool.not_true, Bool.not_false, Int.ofNat_lt, Int.ofNat_le, Nat.not_lt, Nat.not_le] at h))
      refine wp_skip ?_
      (refine hKq2 _ _ ?_; try (clear hKq2 Kq2))
      (refine wp_seq_k ?_; intro Kq4 hKq4)
      refine wp_region_lit ?_
      (refine wpl_v S rfl rfl rfl (sv_pure S rfl) ?_; clear S a; intro a S)
      (first | (refine wpl_callF S rfl rfl rfl rfl rfl rfl (tokensCt s F0 (hF.mono hF0) (by omega)) rfl ?_; clear S a; intro v F1 a w hv hF1 S; obtain ⟨vt, rfl, hvt⟩ := hv; have hvt2 := hvt; obtain ⟨ao, cap, rfl, hcap, hpos⟩ := hvt2) | (refine wpl_callF S rfl rfl rfl rfl rfl rfl (tokensCt (s.take o ++ (insL r ++ s.drop o)) F1 ((hF.mono hF0).mono hF1) (by simp only [List.length_append, List.length_take, List.length_drop, insL_len]; omega)) rfl ?_; clear S a; intro v F3 a w hv hF3 S; obtain ⟨vm, rfl, hvm⟩ := hv; rw [hm] at S hvm; replace hvt := hvt.mono hF3; replace hc0 := Cels.mono hF3 hc0))
      (refine wpl_v S rfl rfl rfl (sv_pure S rfl) ?_; clear S a; intro a S)
      (refine wpl_v S rfl rfl rfl (sv_pure S rfl) ?_; clear S a; intro a S)
      (refine wpl_v S rfl rfl rfl (sv_pure S rfl) ?_; clear S a; intro a S)
      (refine wpl_v S rfl rfl rfl (sv_pure S rfl) ?_; clear S a; intro a S)
      (refine wpl_alloc S rfl rfl rfl rfl ?_; clear S a; intro b8 a w S)
      (refine wpl_v S rfl rfl rfl (sv_pure S rfl) ?_; clear S a; intro a S)
      (refine wpl_storeO S rfl rfl rfl rfl rfl (by rfl) (by simp [Value.cells, Value.oneCell', splice, tkC]) (by rfl) ?_; clear S; intro w S)
      (refine wpl_v S rfl rfl rfl (sv_pure S rfl) ?_; clear S a; intro a S)
      refine wpList_nil ?_
      (refine hKq4 _ _ ?_; try (clear hKq4 Kq4))
      (refine wp_seq_k ?_; intro Kq5 hKq5)
      (refine wp_seq_k ?_; intro Kq6 hKq6)
      refine wp_region_lit ?_
      (refine wpl_v S rfl rfl rfl (sv_pure S rfl) ?_; clear S a; intro a S)
      (refine wpl_v S rfl rfl rfl (sv_pure S rfl) ?_; clear S a; intro a S)
      (refine wpl_v S rfl rfl rfl (sv_pure S rfl) ?_; clear S a; intro a S)
      refine wpl_guard S rfl rfl rfl rfl rfl ?_ ?_
      · (intro h S'; clear S; have S := S'; clear S'; (try simp only [decide_eq_true_eq, decide_eq_false_iff_not, beq_iff_eq, bne_iff_ne, bne_eq_false_iff_eq, beq_eq_false_iff_ne, ne_eq, Bool.not_eq_true', Bool.not_eq_false', Bool.not_eq_true, Bool.not_eq_false, Bool.not_true, Bool.not_false, Int.ofNat_lt, Int.ofNat_le, Nat.not_lt, Nat.not_le] at h))
        (refine wpl_v S rfl rfl rfl (sv_pure S rfl) ?_; clear S a; intro a S)
        refine wpl_take S rfl rfl rfl ?_
        (refine wpl_v S rfl rfl rfl (sv_lenSl S rfl rfl) ?_; clear S a; intro a S)
        refine wpl_take S rfl rfl rfl ?_
        (refine wpl_v S rfl rfl rfl (sv_pure S rfl) ?_; clear S a; intro a S)
        first | (refine wpl_v S rfl rfl rfl (sv_pure S rfl) ?_; clear S a; intro a S) | (refine wpl_v S rfl rfl rfl (sv_pickB S rfl rfl rfl rfl) ?_; clear S a; intro a S)
        refine wpList_nil ?_
        (refine hKq6 _ _ ?_; try (clear hKq6 Kq6))
        refine wpc_split S rfl (fun h => ?_) (fun h => ?_)
        · (skip; (try simp only [decide_eq_true_eq, decide_eq_false_iff_not, beq_iff_eq, bne_iff_ne, bne_eq_false_iff_eq, beq_eq_false_iff_ne, ne_eq, Bool.not_eq_true', Bool.not_eq_false', Bool.not_eq_true, Bool.not_eq_false, Bool.not_true, Bool.not_false, Int.ofNat_lt, Int.ofNat_le, Nat.not_lt, Nat.not_le] at h))
          (refine wp_seq_k ?_; intro Kq7 hKq7)
          refine wp_region_lit ?_
          (refine wpl_v S rfl rfl rfl (sv_pure S rfl) ?_; clear S a; intro a S)
          refine wpList_nil ?_
          (refine hKq7 _ _ ?_; try (clear hKq7 Kq7))
          refine wp_ret ?_
          refine fin_ret S (results1 Tryd.results6 (RV.tmp S rfl)) ?_
          (first | rfl | (rw [hsm]; done) | (exfalso; have hq : ((place (1, 1) (s.take o)).1 == ((tokens s).1[k]'hkl2).line && (place (1, 1) (s.take o)).2 == ((tokens s).1[k]'hkl2).col) = false := (by assumption); rw [ho2] at hq; simp at hq))
        · (skip; (try simp only [decide_eq_true_eq, decide_eq_false_iff_not, beq_iff_eq, bne_iff_ne, bne_eq_false_iff_eq, beq_eq_false_iff_ne, ne_eq, Bool.not_eq_true', Bool.not_eq_false', Bool.not_eq_true, Bool.not_eq_false, Bool.not_true, Bool.not_false, Int.ofNat_lt, Int.ofNat_le, Nat.not_lt, Nat.not_le] at h))
          refine wp_skip ?_
          (refine hKq5 _ _ ?_; try (clear hKq5 Kq5))
          (refine wp_seq_k ?_; intro Kq7 hKq7)
          (have hl1 : 0 < (tokens s).1.length := (by omega); have hm0 : 0 ≤ IntKind.u64.wrap x % ((tokens s).1.length : Int) := Int.emod_nonneg _ (by omega); have hm9 : IntKind.u64.wrap x % ((tokens s).1.length : Int) < ((tokens s).1.length : Int) := Int.emod_lt_of_pos _ (by omega); obtain ⟨k, hk⟩ : ∃ k : Nat, IntKind.u64.wrap x % ((tokens s).1.length : Int) = (k : Int) := ⟨_, (Int.toNat_of_nonneg hm0).symm⟩; rw [hk] at hm9; have hkl2 : k < (tokens s).1.length := (by omega); obtain ⟨o, ho1, ho2, ho3⟩ := between_ok (s := s) (r := r) (by assumption) hkl2 (by omega))
          refine wp_region_lit ?_
          (refine wpl_v S rfl rfl rfl (sv_pure S rfl) ?_; clear S a; intro a S)
          (refine wpl_v S rfl rfl rfl (sv_conv (k := .u64) S rfl rfl) ?_; clear S a; intro a S)
          (refine wpl_v S rfl rfl rfl (sv_pure S rfl) ?_; clear S a; intro a S)
          (refine wpl_v S rfl rfl rfl (sv_lenSl S rfl rfl) ?_; clear S a; intro a S)
          (refine wpl_v S rfl rfl rfl (sv_conv_u64 S rfl rfl (by omega)) ?_; clear S a; intro a S)
          (refine wpl_v S rfl rfl rfl (sv_remU S rfl rfl rfl ⟨hwr, by omega⟩) ?_; clear S a; intro a S)
          (rw [hk] at S)
          (refine wpl_v S rfl rfl rfl (sv_conv_i64 S rfl rfl (by first | omega | (simp only [List.length_append, List.length_cons, List.length_nil, List.length_take, List.length_drop]; omega))) ?_; clear S a; intro a S)
          (refine wpl_v S rfl rfl rfl (sv_pure S rfl) ?_; clear S a; intro a S)
          refine wpList_nil ?_
          (refine hKq7 _ _ ?_; try (clear hKq7 Kq7))
          (refine wp_seq_k ?_; intro Kq8 hKq8)
          (obtain ⟨bt, off, rfl, hcs⟩ := hpos (by omega); obtain ⟨hc0, -, -, -⟩ := tk_at hcs hkl2; clear hpos)
          refine wp_region_lit ?_
          (refine wpl_v S rfl rfl rfl (sv_pure S rfl) ?_; clear S a; intro a S)
          refine wpList_nil ?_
          (refine hKq8 _ _ ?_; try (clear hKq8 Kq8))
          (refine wp_seq_k ?_; intro Kq9 hKq9)
          refine wp_region_lit ?_
          (refine wpl_v S rfl rfl rfl (sv_build S rfl rfl rfl) ?_; clear S a; intro a S)
          (refine wpl_alloc S rfl rfl rfl rfl ?_; clear S a; intro b12 a w S)
          (refine wpl_storeO S rfl rfl rfl rfl rfl (by rfl) (by simp [Value.cells, Value.oneCell', splice, tkC]) (by rfl) ?_; clear S; intro w S)
          refine wpList_nil ?_
          (refine hKq9 _ _ ?_; try (clear hKq9 Kq9))
          (refine wp_seq_k ?_; intro Kq10 hKq10)
          refine wp_block ?_
          refine wpc_loop (fun m a w' => ∃ (i : Nat), m = s.length - i ∧ i ≤ o ∧ St 122 [(0, .string (bs s)), (1, .string (bs r)), (7, .slice (some ⟨bt, off, none⟩) (tokens s).1.length cap), (10, .int .i64 k), (11, .int .i64 i), (12, ptr b12)] w0 F [] F1 [[(b12, .cells ⟨[.int .i64 (place (1, 1) (s.take i)).1, .int .i64 (place (1, 1) (s.take i)).2]⟩ 24 (0, 0))], [(b8, .cells ⟨[.int .i64 (tokens s).2.1.1, .int .i64 (tokens s).2.1.2]⟩ 24 (0, 0))]] a w') ?_ ?_
          · (refine ⟨s.length, 0, by omega, Nat.zero_le _, ?_⟩; refine S.keep ?_; repeat (first | exact trivial | refine ⟨rfl, ?_⟩))
          · (clear S; rintro m a w ⟨i, rfl, hil, S⟩; have hpi := hp0 i (by omega))
            (refine wp_seq_k ?_; intro Kq11 hKq11)
            (refine wp_seq_k ?_; intro Kq12 hKq12)
            (refine wpc_mixM [0, 1, 2, 3, 4, 5, 6, 7, 8, 9, 10, 11, 12] [0, 5] [] (.one 0 (.one 1 (.one 2 (.one 3 (.one 4 (.one 5 (.one 6 (.one 7 (.one 8 (.one 9 (.one 10 (.one 11 (.one 12 .nil))))))))))))) [b12] S mixed (by kernel_rfl) ?_; clear S; intro w S)
            first | (refine wpm_lateO b12 S rfl rfl rfl (want_none _ rfl) rfl rfl (fun w' S => sv_loadO S rfl rfl (by rfl)) ?_; clear S a; intro a S) | (refine wpm_lateO b12 S rfl rfl rfl (want_none _ rfl) rfl rfl (fun w' S => sv_loadAO S rfl rfl (by rfl)) ?_; clear S a; intro a S)
            (refine wpm_v S rfl rfl rfl (want_none _ rfl) rfl rfl (fun w' S => sv_pure S rfl) ?_; clear S a; intro a S)
            (refine wpm_v S rfl rfl rfl (want_none _ rfl) rfl rfl (fun w' S => sv_pure S rfl) ?_; clear S a; intro a S)
            (refine wpm_v S rfl rfl rfl (want_none _ rfl) rfl rfl (fun w' S => sv_indexAddrSl S rfl rfl rfl (by first | omega | (simp only [List.length_append, List.length_cons, List.length_nil, List.length_take, List.length_drop]; omega))) ?_; clear S a; intro a S)
            (refine wpm_v S rfl rfl rfl (want_none _ rfl) rfl rfl (fun w' S => sv_fieldAddr S rfl rfl rfl inferInstance rfl) ?_; clear S a; intro a S)
            first | (refine wpm_lateF S rfl rfl rfl (want_none _ rfl) rfl rfl (fun w' S => sv_loadF S rfl rfl (by assumption)) ?_; clear S a; intro a S) | (refine wpm_lateF S rfl rfl rfl (want_none _ rfl) rfl rfl (fun w' S => sv_loadAF S rfl rfl (by assumption) (by rfl)) ?_; clear S a; intro a S)
            (refine wpm_v S rfl rfl rfl (want_none _ rfl) rfl rfl (fun w' S => sv_neAgg S rfl rfl rfl guardPos (fun w => eqPos _ _ _ _ w)) ?_; clear S a; intro a S)
            (refine wpm_v S rfl rfl rfl (want_none _ rfl) rfl rfl (fun w' S => sv_pure S rfl) ?_; clear S a; intro a S)
            refine St.part (dj := 58) (want := true) S rfl ?_ ?_
            · (intro h S'; clear S; have S := S'; clear S'; (try simp only [decide_eq_true_eq, decide_eq_false_iff_not, beq_iff_eq, bne_iff_ne, bne_eq_false_iff_eq, beq_eq_false_iff_ne, ne_eq, Bool.not_eq_true', Bool.not_eq_false', Bool.not_eq_true, Bool.not_eq_false, Bool.not_true, Bool.not_false, Int.ofNat_lt, Int.ofNat_le, Nat.not_lt, Nat.not_le] at h))
              (refine wpm_v S rfl rfl rfl (want_yes S rfl rfl rfl) rfl rfl (fun w' S => sv_pure S rfl) ?_; clear S a; intro a S)
              (refine wpm_v S rfl rfl rfl (want_yes S rfl rfl rfl) rfl rfl (fun w' S => sv_pure S rfl) ?_; clear S a; intro a S)
              (refine wpm_v S rfl rfl rfl (want_yes S rfl rfl rfl) rfl rfl (fun w' S => sv_lenS S rfl rfl) ?_; clear S a; intro a S)
              (refine wpm_v S rfl rfl rfl (want_yes S rfl rfl rfl) rfl rfl (fun w' S => sv_pure S rfl) ?_; clear S a; intro a S)
              first | (refine wpm_v S rfl rfl rfl (want_none _ rfl) rfl rfl (fun w' S => sv_pure S rfl) ?_; clear S a; intro a S) | (refine wpm_v S rfl rfl rfl (want_none _ rfl) rfl rfl (fun w' S => sv_pickB S rfl rfl rfl rfl) ?_; clear S a; intro a S)
              refine wpm_nil (fun _ => ⟨fun b o h => S.tr.frz b o (by first | exact h | solve_by_elim), S.has inferInstance, trivial⟩) ?_
              (refine hKq12 _ _ ?_; try (clear hKq12 Kq12))
              refine wpc_split S rfl (fun h => ?_) (fun h => ?_)
              · (skip; (try simp only [decide_eq_true_eq, decide_eq_false_iff_not, beq_iff_eq, bne_iff_ne, bne_eq_false_iff_eq, beq_eq_false_iff_ne, ne_eq, Bool.not_eq_true', Bool.not_eq_false', Bool.not_eq_true, Bool.not_eq_false, Bool.not_true, Bool.not_false, Int.ofNat_lt, Int.ofNat_le, Nat.not_lt, Nat.not_le] at h))
                refine wp_skip ?_
                (refine hKq11 _ _ ?_; try (clear hKq11 Kq11))
                refine wp_block ?_
                (refine wp_seq_k ?_; intro Kq13 hKq13)
                (refine wp_seq_k ?_; intro Kq14 hKq14)
                (have hne : i ≠ o := fun h9 => (by have hq : ((place (1, 1) (s.take i)).1 == ((tokens s).1[k]'hkl2).line && (place (1, 1) (s.take i)).2 == ((tokens s).1[k]'hkl2).col) = false := (by assumption); rw [h9, ho2] at hq; simp at hq))
                refine wp_region_lit ?_
                (refine wpl_v S rfl rfl rfl (sv_pure S rfl) ?_; clear S a; intro a S)
                (refine wpl_v S rfl rfl rfl (sv_pure S rfl) ?_; clear S a; intro a S)
                first | (refine wpl_v S rfl rfl rfl (sv_indexSN S rfl rfl rfl (by first | omega | (simp only [List.length_append, List.length_cons, List.length_nil, List.length_take, List.length_drop]; omega))) ?_; clear S a; intro a S) | (refine wpl_v S rfl rfl rfl (sv_indexS S rfl rfl rfl (by first | omega | (simp only [List.length_append, List.length_cons, List.length_nil, List.length_take, List.length_drop]; omega))) ?_; clear S a; intro a S)
                (refine wpl_v S rfl rfl rfl (sv_pure S rfl) ?_; clear S a; intro a S)
                refine wpList_nil ?_
                (refine hKq14 _ _ ?_; try (clear hKq14 Kq14))
                refine wpc_split S rfl (fun h => ?_) (fun h => ?_)
                · (skip; (try simp only [decide_eq_true_eq, decide_eq_false_iff_not, beq_iff_eq, bne_iff_ne, bne_eq_false_iff_eq, beq_eq_false_iff_ne, ne_eq, Bool.not_eq_true', Bool.not_eq_false', Bool.not_eq_true, Bool.not_eq_false, Bool.not_true, Bool.not_false, Int.ofNat_lt, Int.ofNat_le, Nat.not_lt, Nat.not_le] at h))
                  refine wp_region_lit ?_
                  (refine wpl_v S rfl rfl rfl (sv_fieldAddr S rfl rfl rfl inferInstance rfl) ?_; clear S a; intro a S)
                  first | (refine wpl_v S rfl rfl rfl (sv_loadO S rfl rfl (by rfl)) ?_; clear S a; intro a S) | (refine wpl_v S rfl rfl rfl (sv_loadF S rfl rfl (by assumption)) ?_; clear S a; intro a S)
                  (refine wpl_v S rfl rfl rfl (sv_add S rfl rfl rfl (by first | omega | (simp only [List.length_append, List.length_cons, List.length_nil, List.length_take, List.length_drop]; omega))) ?_; clear S a; intro a S)
                  (refine wpl_v S rfl rfl rfl (sv_build S rfl rfl rfl) ?_; clear S a; intro a S)
                  (refine wpl_storeO S rfl rfl rfl rfl rfl (by rfl) (by simp [Value.cells, Value.oneCell', splice, tkC]) (by rfl) ?_; clear S; intro w S)
                  refine wpList_nil ?_
                  (refine hKq13 _ _ ?_; try (clear hKq13 Kq13))
                  refine wp_region_lit ?_
                  (refine wpl_v S rfl rfl rfl (sv_pure S rfl) ?_; clear S a; intro a S)
                  (refine wpl_v S rfl rfl rfl (sv_add S rfl rfl rfl (by first | omega | (simp only [List.length_append, List.length_cons, List.length_nil, List.length_take, List.length_drop]; omega))) ?_; clear S a; intro a S)
                  (refine wpl_v S rfl rfl rfl (sv_pure S rfl) ?_; clear S a; intro a S)
                  refine wpList_nil ?_
                  change ∃ m', _ ∧ _
                  (refine ⟨s.length - (i + 1), by omega, i + 1, rfl, by omega, ?_⟩; rw [place_succ (p := (1, 1)) (by omega)]; (first | rw [if_pos (by omega)] | rw [if_neg (by omega)]); refine S.keep ?_; repeat (first | exact trivial | refine ⟨rfl, ?_⟩))
                · (skip; (try simp only [decide_eq_true_eq, decide_eq_false_iff_not, beq_iff_eq, bne_iff_ne, bne_eq_false_iff_eq, beq_eq_false_iff_ne, ne_eq, Bool.not_eq_true', Bool.not_eq_false', Bool.not_eq_true, Bool.not_eq_false, Bool.not_true, Bool.not_false, Int.ofNat_lt, Int.ofNat_le, Nat.not_lt, Nat.not_le] at h))
                  refine wp_region_lit ?_
                  (refine wpl_v S rfl rfl rfl (sv_fieldAddr S rfl rfl rfl inferInstance rfl) ?_; clear S a; intro a S)
                  first | (refine wpl_v S rfl rfl rfl (sv_loadO S rfl rfl (by rfl)) ?_; clear S a; intro a S) | (refine wpl_v S rfl rfl rfl (sv_loadF S rfl rfl (by assumption)) ?_; clear S a; intro a S)
                  (refine wpl_v S rfl rfl rfl (sv_add S rfl rfl rfl (by first | omega | (simp only [List.length_append, List.length_cons, List.length_nil, List.length_take, List.length_drop]; omega))) ?_; clear S a; intro a S)
                  (refine wpl_v S rfl rfl rfl (sv_fieldAddr S rfl rfl rfl inferInstance rfl) ?_; clear S a; intro a S)
                  (refine wpl_store1 S rfl rfl rfl rfl rfl rfl (by first | (simp; done) | (simp [Value.cells]; done) | exact Nat.le_of_ble_eq_true rfl) ?_; clear S; intro w S)
                  refine wpList_nil ?_
                  (refine hKq13 _ _ ?_; try (clear hKq13 Kq13))
                  refine wp_region_lit ?_
                  (refine wpl_v S rfl rfl rfl (sv_pure S rfl) ?_; clear S a; intro a S)
                  (refine wpl_v S rfl rfl rfl (sv_add S rfl rfl rfl (by first | omega | (simp only [List.length_append, List.length_cons, List.length_nil, List.length_take, List.length_drop]; omega))) ?_; clear S a; intro a S)
                  (refine wpl_v S rfl rfl rfl (sv_pure S rfl) ?_; clear S a; intro a S)
                  refine wpList_nil ?_
                  change ∃ m', _ ∧ _
                  (refine ⟨s.length - (i + 1), by omega, i + 1, rfl, by omega, ?_⟩; rw [place_succ (p := (1, 1)) (by omega)]; (first | rw [if_pos (by omega)] | rw [if_neg (by omega)]); refine S.keep ?_; repeat (first | exact trivial | refine ⟨rfl, ?_⟩))
              · (skip; (try simp only [decide_eq_true_eq, decide_eq_false_iff_not, beq_iff_eq, bne_iff_ne, bne_eq_false_iff_eq, beq_eq_false_iff_ne, ne_eq, Bool.not_eq_true', Bool.not_eq_false', Bool.not_eq_true, Bool.not_eq_false, Bool.not_true, Bool.not_false, Int.ofNat_lt, Int.ofNat_le, Nat.not_lt, Nat.not_le] at h))
                refine wp_exit ?_
                (refine hKq10 _ _ ?_; try (clear hKq10 Kq10))
                (refine wp_seq_k ?_; intro Kq13 hKq13)
                (refine wp_seq_k ?_; intro Kq14 hKq14)
                (have hio : i = o := (by first | (have hq : ((place (1, 1) (s.take i)).1 == ((tokens s).1[k]'hkl2).line && (place (1, 1) (s.take i)).2 == ((tokens s).1[k]'hkl2).col) = true := (by assumption); simp only [Bool.and_eq_true, beq_iff_eq] at hq; exact place_inj (p := (1, 1)) (s := s) (by omega) (by omega) ((Prod.ext hq.1 hq.2).trans ho2.symm)) | omega); rw [hio] at S)
                refine wp_region_lit ?_
                (refine wpl_v S rfl rfl rfl (sv_pure S rfl) ?_; clear S a; intro a S)
                refine wpList_nil ?_
                (refine hKq14 _ _ ?_; try (clear hKq14 Kq14))
                refine wp_block ?_
                refine wpc_loop (fun m a w' => ∃ (j : Nat), m = r.length - j ∧ j ≤ r.length ∧ (∀ q, q < j → (r.getD q 0).toNat ≠ 10) ∧ St 122 [(0, .string (bs s)), (1, .string (bs r)), (7, .slice (some ⟨bt, off, none⟩) (tokens s).1.length cap), (10, .int .i64 k), (11, .int .i64 o), (12, ptr b12), (13, .int .i64 j)] w0 F [] F1 [[(b12, .cells ⟨[.int .i64 (place (1, 1) (s.take o)).1, .int .i64 (place (1, 1) (s.take o)).2]⟩ 24 (0, 0))], [(b8, .cells ⟨[.int .i64 (tokens s).2.1.1, .int .i64 (tokens s).2.1.2]⟩ 24 (0, 0))]] a w') ?_ ?_
                · (refine ⟨r.length, 0, by omega, Nat.zero_le _, fun q h => absurd h (Nat.not_lt_zero _), ?_⟩; refine S.keep ?_; repeat (first | exact trivial | refine ⟨rfl, ?_⟩))
                · (clear S; rintro m a w ⟨j, rfl, hjl, hnl, S⟩)
                  (refine wp_seq_k ?_; intro Kq15 hKq15)
                  (refine wp_seq_k ?_; intro Kq16 hKq16)
                  refine wp_region_lit ?_
                  (refine wpl_v S rfl rfl rfl (sv_pure S rfl) ?_; clear S a; intro a S)
                  (refine wpl_v S rfl rfl rfl (sv_pure S rfl) ?_; clear S a; intro a S)
                  (refine wpl_v S rfl rfl rfl (sv_lenS S rfl rfl) ?_; clear S a; intro a S)
                  (refine wpl_v S rfl rfl rfl (sv_pure S rfl) ?_; clear S a; intro a S)
                  refine wpList_nil ?_
                  (refine hKq16 _ _ ?_; try (clear hKq16 Kq16))
                  refine wpc_split S rfl (fun h => ?_) (fun h => ?_)
                  · (skip; (try simp only [decide_eq_true_eq, decide_eq_false_iff_not, beq_iff_eq, bne_iff_ne, bne_eq_false_iff_eq, beq_eq_false_iff_ne, ne_eq, Bool.not_eq_true', Bool.not_eq_false', Bool.not_eq_true, Bool.not_eq_false, Bool.not_true, Bool.not_false, Int.ofNat_lt, Int.ofNat_le, Nat.not_lt, Nat.not_le] at h))
                    refine wp_skip ?_
                    (refine hKq15 _ _ ?_; try (clear hKq15 Kq15))
                    (refine wp_seq_k ?_; intro Kq17 hKq17)
                    refine wp_block ?_
                    (refine wp_seq_k ?_; intro Kq18 hKq18)
                    refine wp_region_lit ?_
                    (refine wpl_v S rfl rfl rfl (sv_pure S rfl) ?_; clear S a; intro a S)
                    (refine wpl_v S rfl rfl rfl (sv_pure S rfl) ?_; clear S a; intro a S)
                    first | (refine wpl_v S rfl rfl rfl (sv_indexSN S rfl rfl rfl (by first | omega | (simp only [List.length_append, List.length_cons, List.length_nil, List.length_take, List.length_drop]; omega))) ?_; clear S a; intro a S) | (refine wpl_v S rfl rfl rfl (sv_indexS S rfl rfl rfl (by first | omega | (simp only [List.length_append, List.length_cons, List.length_nil, List.length_take, List.length_drop]; omega))) ?_; clear S a; intro a S)
                    (refine wpl_v S rfl rfl rfl (sv_pure S rfl) ?_; clear S a; intro a S)
                    refine wpList_nil ?_
                    (refine hKq18 _ _ ?_; try (clear hKq18 Kq18))
                    refine wpc_split S rfl (fun h => ?_) (fun h => ?_)
                    · (skip; (try simp only [decide_eq_true_eq, decide_eq_false_iff_not, beq_iff_eq, bne_iff_ne, bne_eq_false_iff_eq, beq_eq_false_iff_ne, ne_eq, Bool.not_eq_true', Bool.not_eq_false', Bool.not_eq_true, Bool.not_eq_false, Bool.not_true, Bool.not_false, Int.ofNat_lt, Int.ofNat_le, Nat.not_lt, Nat.not_le] at h))
                      (refine wp_seq_k ?_; intro Kq19 hKq19)
                      refine wp_region_lit ?_
                      (refine wpl_v S rfl rfl rfl (sv_pure S rfl) ?_; clear S a; intro a S)
                      refine wpList_nil ?_
                      (refine hKq19 _ _ ?_; try (clear hKq19 Kq19))
                      refine wp_ret ?_
                      refine fin_ret S (results1 Tryd.results6 (RV.tmp S rfl)) ?_
                      (first | rfl | (rw [hsm]; done) | (exfalso; have hq : ((place (1, 1) (s.take o)).1 == ((tokens s).1[k]'hkl2).line && (place (1, 1) (s.take o)).2 == ((tokens s).1[k]'hkl2).col) = false := (by assumption); rw [ho2] at hq; simp at hq))
                    · (skip; (try simp only [decide_eq_true_eq, decide_eq_false_iff_not, beq_iff_eq, bne_iff_ne, bne_eq_false_iff_eq, beq_eq_false_iff_ne, ne_eq, Bool.not_eq_true', Bool.not_eq_false', Bool.not_eq_true, Bool.not_eq_false, Bool.not_true, Bool.not_false, Int.ofNat_lt, Int.ofNat_le, Nat.not_lt, Nat.not_le] at h))
                      refine wp_skip ?_
                      (refine hKq17 _ _ ?_; try (clear hKq17 Kq17))
                      refine wp_region_lit ?_
                      (refine wpl_v S rfl rfl rfl (sv_pure S rfl) ?_; clear S a; intro a S)
                      (refine wpl_v S rfl rfl rfl (sv_add S rfl rfl rfl (by first | omega | (simp only [List.length_append, List.length_cons, List.length_nil, List.length_take, List.length_drop]; omega))) ?_; clear S a; intro a S)
                      (refine wpl_v S rfl rfl rfl (sv_pure S rfl) ?_; clear S a; intro a S)
                      refine wpList_nil ?_
                      change ∃ m', _ ∧ _
                      (refine ⟨r.length - (j + 1), by omega, j + 1, rfl, by omega, fun q h => (by rcases Nat.lt_or_eq_of_le (Nat.le_of_lt_succ h) with h9 | h9; exact hnl q h9; subst h9; omega), ?_⟩; refine S.keep ?_; repeat (first | exact trivial | refine ⟨rfl, ?_⟩))
                  · (skip; (try simp only [decide_eq_true_eq, decide_eq_false_iff_not, beq_iff_eq, bne_iff_ne, bne_eq_false_iff_eq, beq_eq_false_iff_ne, ne_eq, Bool.not_eq_true', Bool.not_eq_false', Bool.not_eq_true, Bool.not_eq_false, Bool.not_true, Bool.not_false, Int.ofNat_lt, Int.ofNat_le, Nat.not_lt, Nat.not_le] at h))
                    refine wp_exit ?_
                    (refine hKq13 _ _ ?_; try (clear hKq13 Kq13))
                    (refine wp_seq_k ?_; intro Kq17 hKq17)
                    (have hnl2 : ∀ c ∈ r, c.toNat ≠ 10 := (fun c hc => (by obtain ⟨q, hq, rfl⟩ := List.getElem_of_mem hc; have h9 := hnl q (by omega); rwa [List.getD_eq_getElem?_getD, List.getElem?_eq_getElem hq] at h9)); obtain ⟨m, hm, hsm⟩ := ho3 hnl2; have hml := tokens_len (s.take o ++ (insL r ++ s.drop o)); rw [hm] at hml; simp only [List.length_append, List.length_take, List.length_drop, insL_len] at hml)
                    (refine wpc_mixM [0, 1, 2, 3, 4, 5, 6, 7, 8, 9, 10, 12, 13, 14, 15] [] [] (.one 0 (.one 1 (.one 2 (.one 3 (.one 4 (.one 5 (.one 6 (.one 7 (.one 8 (.one 9 (.one 10 (.two 11 16 (.one 12 (.one 13 (.one 14 (.one 15 (.one 16 (.one 17 (.one 18 (.one 19 .nil)))))))) (.one 11 (.one 12 (.one 13 (.one 14 (.one 15 (.one 17 (.one 18 (.one 19 .nil)))))))))))))))))))) [] S mixed (by kernel_rfl) ?_; clear S; intro w S)
                    (refine wpm_v S rfl rfl rfl (want_none _ rfl) rfl rfl (fun w' S => sv_pure S rfl) ?_; clear S a; intro a S)
                    (refine wpm_v S rfl rfl rfl (want_none _ rfl) rfl rfl (fun w' S => sv_pure S rfl) ?_; clear S a; intro a S)
                    (refine wpm_v S rfl rfl rfl (want_none _ rfl) rfl rfl (fun w' S => sv_sliceS_hi S rfl rfl rfl (by first | omega | (simp only [List.length_append, List.length_cons, List.length_nil, List.length_take, List.length_drop]; omega))) ?_; clear S a; intro a S)
                    (refine wpm_v S rfl rfl rfl (want_none _ rfl) rfl rfl (fun w' S => sv_cat S rfl rfl rfl (by first | omega | (simp only [List.length_append, List.length_cons, List.length_nil, List.length_take, List.length_drop]; omega))) ?_; clear S a; intro a S)
                    (refine wpm_v S rfl rfl rfl (want_none _ rfl) rfl rfl (fun w' S => sv_pure S rfl) ?_; clear S a; intro a S)
                    (refine wpm_v S rfl rfl rfl (want_none _ rfl) rfl rfl (fun w' S => sv_cat S rfl rfl rfl (by first | omega | (simp only [List.length_append, List.length_cons, List.length_nil, List.length_take, List.length_drop]; omega))) ?_; clear S a; intro a S)
                    (refine wpm_v S rfl rfl rfl (want_none _ rfl) rfl rfl (fun w' S => sv_cat S rfl rfl rfl (by first | omega | (simp only [List.length_append, List.length_cons, List.length_nil, List.length_take, List.length_drop]; omega))) ?_; clear S a; intro a S)
                    (refine wpm_v S rfl rfl rfl (want_none _ rfl) rfl rfl (fun w' S => sv_pure S rfl) ?_; clear S a; intro a S)
                    (refine wpm_v S rfl rfl rfl (want_none _ rfl) rfl rfl (fun w' S => sv_pure S rfl) ?_; clear S a; intro a S)
                    (refine wpm_v S rfl rfl rfl (want_none _ rfl) rfl rfl (fun w' S => sv_sliceS_lo S rfl rfl rfl (by first | omega | (simp only [List.length_append, List.length_cons, List.length_nil, List.length_take, List.length_drop]; omega))) ?_; clear S a; intro a S)
                    (refine wpm_v S rfl rfl rfl (want_none _ rfl) rfl rfl (fun w' S => sv_cat S rfl rfl rfl (by first | omega | (simp only [List.length_append, List.length_cons, List.length_nil, List.length_take, List.length_drop]; omega))) ?_; clear S a; intro a S)
                    (rw [show s.take (o : Int).toNat ++ [32, 9, 13, 10, 35] ++ r ++ [10] ++ s.drop (o : Int).toNat = s.take o ++ (insL r ++ s.drop o) by simp [insL]] at S)
                    refine wpm_two rfl rfl (fun _ => ⟨fun b o h => S.tr.frz b o (by first | exact h | solve_by_elim), trivial⟩) ?_ ?_
                    · skip
                      (first | (refine wpl_callF S rfl rfl rfl rfl rfl rfl (tokensCt s F0 (hF.mono hF0) (by omega)) rfl ?_; clear S a; intro v F1 a w hv hF1 S; obtain ⟨vt, rfl, hvt⟩ := hv; have hvt2 := hvt; obtain ⟨ao, cap, rfl, hcap, hpos⟩ := hvt2) | (refine wpl_callF S rfl rfl rfl rfl rfl rfl (tokensCt (s.take o ++ (insL r ++ s.drop o)) F1 ((hF.mono hF0).mono hF1) (by simp only [List.length_append, List.length_take, List.length_drop, insL_len]; omega)) rfl ?_; clear S a; intro v F3 a w hv hF3 S; obtain ⟨vm, rfl, hvm⟩ := hv; rw [hm] at S hvm; replace hvt := hvt.mono hF3; replace hc0 := Cels.mono hF3 hc0))
                      refine wpList_nil ?_
                      (refine wpm_v S rfl rfl rfl (want_none _ rfl) rfl rfl (fun w' S => sv_pure S rfl) ?_; clear S a; intro a S)
                      (refine wpm_v S rfl rfl rfl (want_none _ rfl) rfl rfl (fun w' S => sv_pure S rfl) ?_; clear S a; intro a S)
                      (refine wpm_v S rfl rfl rfl (want_none _ rfl) rfl rfl (fun w' S => sv_pure S rfl) ?_; clear S a; intro a S)
                      (refine wpm_v S rfl rfl rfl (want_none _ rfl) rfl rfl (fun w' S => sv_pure S rfl) ?_; clear S a; intro a S)
                      refine wpm_eff rfl rfl (fun _ => ⟨fun b o h => S.tr.frz b o (by first | exact h | solve_by_elim), trivial⟩) ?_
                      (refine wpl_alloc S rfl rfl rfl rfl ?_; clear S a; intro b15 a w S)
                      refine wpList_nil ?_
                      refine wpm_eff rfl rfl (fun _ => ⟨fun b o h => S.tr.frz b o (by first | exact h | solve_by_elim), trivial⟩) ?_
                      (refine wpl_v S rfl rfl rfl (sv_pure S rfl) ?_; clear S a; intro a S)
                      refine wpList_nil ?_
                      refine wpm_eff rfl rfl (fun _ => ⟨fun b o h => S.tr.frz b o (by first | exact h | solve_by_elim), trivial⟩) ?_
                      (refine wpl_storeO S rfl rfl rfl rfl rfl (by rfl) (by simp [Value.cells, Value.oneCell', splice, tkC]) (by rfl) ?_; clear S; intro w S)
                      refine wpList_nil ?_
                      refine wpm_eff rfl rfl (fun _ => ⟨fun b o h => S.tr.frz b o (by first | exact h | solve_by_elim), trivial⟩) ?_
                      (refine wpl_v S rfl rfl rfl (sv_pure S rfl) ?_; clear S a; intro a S)
                      refine wpList_nil ?_
                      refine wpm_nil (fun _ => ⟨fun b o h => S.tr.frz b o (by first | exact h | solve_by_elim), trivial⟩) ?_
                      (refine hKq17 _ _ ?_; try (clear hKq17 Kq17))
                      (refine wp_seq_k ?_; intro Kq18 hKq18)
                      (refine wpc_mixM [0, 1, 2, 3, 4, 5, 6, 7, 8, 9, 10, 11, 12, 14, 17] [0, 5] [] (.one 0 (.one 1 (.one 2 (.one 3 (.one 4 (.one 5 (.one 6 (.one 7 (.one 8 (.one 9 (.one 10 (.one 11 (.one 12 (.one 14 (.one 13 (.one 15 (.one 16 (.one 17 (.one 18 .nil))))))))))))))))))) [b12] S mixed (by kernel_rfl) ?_; clear S; intro w S)
                      first | (refine wpm_lateO b12 S rfl rfl rfl (want_none _ rfl) rfl rfl (fun w' S => sv_loadO S rfl rfl (by rfl)) ?_; clear S a; intro a S) | (refine wpm_lateO b12 S rfl rfl rfl (want_none _ rfl) rfl rfl (fun w' S => sv_loadAO S rfl rfl (by rfl)) ?_; clear S a; intro a S)
                      (refine wpm_v S rfl rfl rfl (want_none _ rfl) rfl rfl (fun w' S => sv_pure S rfl) ?_; clear S a; intro a S)
                      (refine wpm_v S rfl rfl rfl (want_none _ rfl) rfl rfl (fun w' S => sv_pure S rfl) ?_; clear S a; intro a S)
                      (refine wpm_v S rfl rfl rfl (want_none _ rfl) rfl rfl (fun w' S => sv_indexAddrSl S rfl rfl rfl (by first | omega | (simp only [List.length_append, List.length_cons, List.length_nil, List.length_take, List.length_drop]; omega))) ?_; clear S a; intro a S)
                      (refine wpm_v S rfl rfl rfl (want_none _ rfl) rfl rfl (fun w' S => sv_fieldAddr S rfl rfl rfl inferInstance rfl) ?_; clear S a; intro a S)
                      first | (refine wpm_lateF S rfl rfl rfl (want_none _ rfl) rfl rfl (fun w' S => sv_loadF S rfl rfl (by assumption)) ?_; clear S a; intro a S) | (refine wpm_lateF S rfl rfl rfl (want_none _ rfl) rfl rfl (fun w' S => sv_loadAF S rfl rfl (by assumption) (by rfl)) ?_; clear S a; intro a S)
                      (refine wpm_v S rfl rfl rfl (want_none _ rfl) rfl rfl (fun w' S => sv_eqAgg S rfl rfl rfl guardPos (fun w => eqPos _ _ _ _ w)) ?_; clear S a; intro a S)
                      (refine wpm_v S rfl rfl rfl (want_none _ rfl) rfl rfl (fun w' S => sv_pure S rfl) ?_; clear S a; intro a S)
                      refine St.part (dj := 111) (want := true) S rfl ?_ ?_
                      · (intro h S'; clear S; have S := S'; clear S'; (try simp only [decide_eq_true_eq, decide_eq_false_iff_not, beq_iff_eq, bne_iff_ne, bne_eq_false_iff_eq, beq_eq_false_iff_ne, ne_eq, Bool.not_eq_true', Bool.not_eq_false', Bool.not_eq_true, Bool.not_eq_false, Bool.not_true, Bool.not_false, Int.ofNat_lt, Int.ofNat_le, Nat.not_lt, Nat.not_le] at h))
                        (refine wpm_v S rfl rfl rfl (want_yes S rfl rfl rfl) rfl rfl (fun w' S => sv_pure S rfl) ?_; clear S a; intro a S)
                        (refine wpm_v S rfl rfl rfl (want_yes S rfl rfl rfl) rfl rfl (fun w' S => sv_lit (c := true) (sv_pure S rfl) (by simp)) ?_; clear S a; intro a S)
                        first | (refine wpm_v S rfl rfl rfl (want_none _ rfl) rfl rfl (fun w' S => sv_pure S rfl) ?_; clear S a; intro a S) | (refine wpm_v S rfl rfl rfl (want_none _ rfl) rfl rfl (fun w' S => sv_pickB S rfl rfl rfl rfl) ?_; clear S a; intro a S)
                        (refine wpm_v S rfl rfl rfl (want_none _ rfl) rfl rfl (fun w' S => sv_pure S rfl) ?_; clear S a; intro a S)
                        (refine wpm_v S rfl rfl rfl (want_yes S rfl rfl rfl) rfl rfl (fun w' S => sv_pure S rfl) ?_; clear S a; intro a S)
                        (refine wpm_v S rfl rfl rfl (want_yes S rfl rfl rfl) rfl rfl (fun w' S => sv_pure S rfl) ?_; clear S a; intro a S)
                        refine wpm_eff rfl rfl (fun _ => ⟨fun b o h => S.tr.frz b o (by first | exact h | solve_by_elim), S.has inferInstance, trivial⟩) ?_
                        refine wpl_take S rfl rfl rfl ?_
                        (first | (refine wpl_callF S rfl rfl rfl rfl rfl rfl (ofCt (tokens s).1 _ F3 (by omega) hvt) rfl ?_; clear S a; intro vo F4 a w hvo hF4 S; replace hvm := hvm.mono hF4) | (refine wpl_callF S rfl rfl rfl rfl rfl rfl (ofCt m vm F4 (by omega) hvm) rfl ?_; clear S a; intro vp F5 a w hvp hF5 S; replace hvo := hvo.mono hF5))
                        refine wpList_nil ?_
                        refine wpm_eff rfl rfl (fun _ => ⟨fun b o h => S.tr.frz b o (by first | exact h | solve_by_elim), S.has inferInstance, trivial⟩) ?_
                        refine wpl_take S rfl rfl rfl ?_
                        (first | (refine wpl_callF S rfl rfl rfl rfl rfl rfl (ofCt (tokens s).1 _ F3 (by omega) hvt) rfl ?_; clear S a; intro vo F4 a w hvo hF4 S; replace hvm := hvm.mono hF4) | (refine wpl_callF S rfl rfl rfl rfl rfl rfl (ofCt m vm F4 (by omega) hvm) rfl ?_; clear S a; intro vp F5 a w hvp hF5 S; replace hvo := hvo.mono hF5))
                        refine wpList_nil ?_
                        refine wpm_eff rfl rfl (fun _ => ⟨fun b o h => S.tr.frz b o (by first | exact h | solve_by_elim), S.has inferInstance, trivial⟩) ?_
                        refine wpl_take S rfl rfl rfl ?_
                        (refine wpl_call0 S rfl rfl rfl rfl rfl rfl (sameCt (tokens s).1 m vo vp false F5 (by omega) hvo hvp) rfl ?_; clear S a; intro v a w hv S; subst hv)
                        refine wpList_nil ?_
                        first | (refine wpm_v S rfl rfl rfl (want_none _ rfl) rfl rfl (fun w' S => sv_pure S rfl) ?_; clear S a; intro a S) | (refine wpm_v S rfl rfl rfl (want_none _ rfl) rfl rfl (fun w' S => sv_pickB S rfl rfl rfl rfl) ?_; clear S a; intro a S)
                        refine wpm_eff rfl rfl (fun _ => ⟨fun b o h => S.tr.frz b o (by first | exact h | solve_by_elim), S.has inferInstance, trivial⟩) ?_
                        (refine wpl_v S rfl rfl rfl (sv_pure S rfl) ?_; clear S a; intro a S)
                        refine wpList_nil ?_
                        refine wpm_nil (fun _ => ⟨fun b o h => S.tr.frz b o (by first | exact h | solve_by_elim), S.has inferInstance, trivial⟩) ?_
                        (refine hKq18 _ _ ?_; try (clear hKq18 Kq18))
                        refine wp_ret ?_
                        refine fin_ret S (results1 Tryd.results6 (RV.tmp S rfl)) ?_
                        (first | rfl | (rw [hsm]; done) | (exfalso; have hq : ((place (1, 1) (s.take o)).1 == ((tokens s).1[k]'hkl2).line && (place (1, 1) (s.take o)).2 == ((tokens s).1[k]'hkl2).col) = false := (by assumption); rw [ho2] at hq; simp at hq))
                      · (intro h S'; clear S; have S := S'; clear S'; (try simp only [decide_eq_true_eq, decide_eq_false_iff_not, beq_iff_eq, bne_iff_ne, bne_eq_false_iff_eq, beq_eq_false_iff_ne, ne_eq, Bool.not_eq_true', Bool.not_eq_false', Bool.not_eq_true, Bool.not_eq_false, Bool.not_true, Bool.not_false, Int.ofNat_lt, Int.ofNat_le, Nat.not_lt, Nat.not_le] at h))
                        (refine wpm_skip S rfl rfl (want_no S rfl rfl rfl) rfl rfl ?_; clear S a; intro a S)
                        (refine wpm_skip S rfl rfl (want_no S rfl rfl rfl) rfl rfl ?_; clear S a; intro a S)
                        first | (refine wpm_v S rfl rfl rfl (want_none _ rfl) rfl rfl (fun w' S => sv_pure S rfl) ?_; clear S a; intro a S) | (refine wpm_v S rfl rfl rfl (want_none _ rfl) rfl rfl (fun w' S => sv_pickB S rfl rfl rfl rfl) ?_; clear S a; intro a S)
                        (refine wpm_v S rfl rfl rfl (want_none _ rfl) rfl rfl (fun w' S => sv_pure S rfl) ?_; clear S a; intro a S)
                        (refine wpm_skip S rfl rfl (want_no S rfl rfl rfl) rfl rfl ?_; clear S a; intro a S)
                        (refine wpm_skip S rfl rfl (want_no S rfl rfl rfl) rfl rfl ?_; clear S a; intro a S)
                        (refine wpm_skipE S rfl rfl (want_no S rfl rfl rfl) (fun _ => ⟨fun b o h => S.tr.frz b o (by first | exact h | solve_by_elim), S.has inferInstance, trivial⟩) rfl rfl ?_; clear S a; intro a S)
                        (refine wpm_skipE S rfl rfl (want_no S rfl rfl rfl) (fun _ => ⟨fun b o h => S.tr.frz b o (by first | exact h | solve_by_elim), S.has inferInstance, trivial⟩) rfl rfl ?_; clear S a; intro a S)
                        (refine wpm_skipE S rfl rfl (want_no S rfl rfl rfl) (fun _ => ⟨fun b o h => S.tr.frz b o (by first | exact h | solve_by_elim), S.has inferInstance, trivial⟩) rfl rfl ?_; clear S a; intro a S)
                        first | (refine wpm_v S rfl rfl rfl (want_none _ rfl) rfl rfl (fun w' S => sv_pure S rfl) ?_; clear S a; intro a S) | (refine wpm_v S rfl rfl rfl (want_none _ rfl) rfl rfl (fun w' S => sv_pickB S rfl rfl rfl rfl) ?_; clear S a; intro a S)
                        refine wpm_eff rfl rfl (fun _ => ⟨fun b o h => S.tr.frz b o (by first | exact h | solve_by_elim), S.has inferInstance, trivial⟩) ?_
                        (refine wpl_v S rfl rfl rfl (sv_pure S rfl) ?_; clear S a; intro a S)
                        refine wpList_nil ?_
                        refine wpm_nil (fun _ => ⟨fun b o h => S.tr.frz b o (by first | exact h | solve_by_elim), S.has inferInstance, trivial⟩) ?_
                        (refine hKq18 _ _ ?_; try (clear hKq18 Kq18))
                        refine wp_ret ?_
                        refine fin_ret S (results1 Tryd.results6 (RV.tmp S rfl)) ?_
                        (first | rfl | (rw [hsm]; done) | (exfalso; have hq : ((place (1, 1) (s.take o)).1 == ((tokens s).1[k]'hkl2).line && (place (1, 1) (s.take o)).2 == ((tokens s).1[k]'hkl2).col) = false := (by assumption); rw [ho2] at hq; simp at hq))
                    · skip
                      (refine wpl_alloc S rfl rfl rfl rfl ?_; clear S a; intro b15 a w S)
                      refine wpList_nil ?_
                      refine wpm_eff rfl rfl (fun _ => ⟨fun b o h => S.tr.frz b o (by first | exact h | solve_by_elim), trivial⟩) ?_
                      (first | (refine wpl_callF S rfl rfl rfl rfl rfl rfl (tokensCt s F0 (hF.mono hF0) (by omega)) rfl ?_; clear S a; intro v F1 a w hv hF1 S; obtain ⟨vt, rfl, hvt⟩ := hv; have hvt2 := hvt; obtain ⟨ao, cap, rfl, hcap, hpos⟩ := hvt2) | (refine wpl_callF S rfl rfl rfl rfl rfl rfl (tokensCt (s.take o ++ (insL r ++ s.drop o)) F1 ((hF.mono hF0).mono hF1) (by simp only [List.length_append, List.length_take, List.length_drop, insL_len]; omega)) rfl ?_; clear S a; intro v F3 a w hv hF3 S; obtain ⟨vm, rfl, hvm⟩ := hv; rw [hm] at S hvm; replace hvt := hvt.mono hF3; replace hc0 := Cels.mono hF3 hc0))
                      refine wpList_nil ?_
                      (refine wpm_v S rfl rfl rfl (want_none _ rfl) rfl rfl (fun w' S => sv_pure S rfl) ?_; clear S a; intro a S)
                      (refine wpm_v S rfl rfl rfl (want_none _ rfl) rfl rfl (fun w' S => sv_pure S rfl) ?_; clear S a; intro a S)
                      (refine wpm_v S rfl rfl rfl (want_none _ rfl) rfl rfl (fun w' S => sv_pure S rfl) ?_; clear S a; intro a S)
                      (refine wpm_v S rfl rfl rfl (want_none _ rfl) rfl rfl (fun w' S => sv_pure S rfl) ?_; clear S a; intro a S)
                      refine wpm_eff rfl rfl (fun _ => ⟨fun b o h => S.tr.frz b o (by first | exact h | solve_by_elim), trivial⟩) ?_
                      (refine wpl_v S rfl rfl rfl (sv_pure S rfl) ?_; clear S a; intro a S)
                      refine wpList_nil ?_
                      refine wpm_eff rfl rfl (fun _ => ⟨fun b o h => S.tr.frz b o (by first | exact h | solve_by_elim), trivial⟩) ?_
                      (refine wpl_storeO S rfl rfl rfl rfl rfl (by rfl) (by simp [Value.cells, Value.oneCell', splice, tkC]) (by rfl) ?_; clear S; intro w S)
                      refine wpList_nil ?_
                      refine wpm_eff rfl rfl (fun _ => ⟨fun b o h => S.tr.frz b o (by first | exact h | solve_by_elim), trivial⟩) ?_
                      (refine wpl_v S rfl rfl rfl (sv_pure S rfl) ?_; clear S a; intro a S)
                      refine wpList_nil ?_
                      refine wpm_nil (fun _ => ⟨fun b o h => S.tr.frz b o (by first | exact h | solve_by_elim), trivial⟩) ?_
                      (refine hKq17 _ _ ?_; try (clear hKq17 Kq17))
                      (refine wp_seq_k ?_; intro Kq18 hKq18)
                      (refine wpc_mixM [0, 1, 2, 3, 4, 5, 6, 7, 8, 9, 10, 11, 12, 14, 17] [0, 5] [] (.one 0 (.one 1 (.one 2 (.one 3 (.one 4 (.one 5 (.one 6 (.one 7 (.one 8 (.one 9 (.one 10 (.one 11 (.one 12 (.one 14 (.one 13 (.one 15 (.one 16 (.one 17 (.one 18 .nil))))))))))))))))))) [b12] S mixed (by kernel_rfl) ?_; clear S; intro w S)
                      first | (refine wpm_lateO b12 S rfl rfl rfl (want_none _ rfl) rfl rfl (fun w' S => sv_loadO S rfl rfl (by rfl)) ?_; clear S a; intro a S) | (refine wpm_lateO b12 S rfl rfl rfl (want_none _ rfl) rfl rfl (fun w' S => sv_loadAO S rfl rfl (by rfl)) ?_; clear S a; intro a S)
                      (refine wpm_v S rfl rfl rfl (want_none _ rfl) rfl rfl (fun w' S => sv_pure S rfl) ?_; clear S a; intro a S)
                      (refine wpm_v S rfl rfl rfl (want_none _ rfl) rfl rfl (fun w' S => sv_pure S rfl) ?_; clear S a; intro a S)
                      (refine wpm_v S rfl rfl rfl (want_none _ rfl) rfl rfl (fun w' S => sv_indexAddrSl S rfl rfl rfl (by first | omega | (simp only [List.length_append, List.length_cons, List.length_nil, List.length_take, List.length_drop]; omega))) ?_; clear S a; intro a S)
                      (refine wpm_v S rfl rfl rfl (want_none _ rfl) rfl rfl (fun w' S => sv_fieldAddr S rfl rfl rfl inferInstance rfl) ?_; clear S a; intro a S)
                      first | (refine wpm_lateF S rfl rfl rfl (want_none _ rfl) rfl rfl (fun w' S => sv_loadF S rfl rfl (by assumption)) ?_; clear S a; intro a S) | (refine wpm_lateF S rfl rfl rfl (want_none _ rfl) rfl rfl (fun w' S => sv_loadAF S rfl rfl (by assumption) (by rfl)) ?_; clear S a; intro a S)
                      (refine wpm_v S rfl rfl rfl (want_none _ rfl) rfl rfl (fun w' S => sv_eqAgg S rfl rfl rfl guardPos (fun w => eqPos _ _ _ _ w)) ?_; clear S a; intro a S)
                      (refine wpm_v S rfl rfl rfl (want_none _ rfl) rfl rfl (fun w' S => sv_pure S rfl) ?_; clear S a; intro a S)
                      refine St.part (dj := 111) (want := true) S rfl ?_ ?_
                      · (intro h S'; clear S; have S := S'; clear S'; (try simp only [decide_eq_true_eq, decide_eq_false_iff_not, beq_iff_eq, bne_iff_ne, bne_eq_false_iff_eq, beq_eq_false_iff_ne, ne_eq, Bool.not_eq_true', Bool.not_eq_false', Bool.not_eq_true, Bool.not_eq_false, Bool.not_true, Bool.not_false, Int.ofNat_lt, Int.ofNat_le, Nat.not_lt, Nat.not_le] at h))
                        (refine wpm_v S rfl rfl rfl (want_yes S rfl rfl rfl) rfl rfl (fun w' S => sv_pure S rfl) ?_; clear S a; intro a S)
                        (refine wpm_v S rfl rfl rfl (want_yes S rfl rfl rfl) rfl rfl (fun w' S => sv_lit (c := true) (sv_pure S rfl) (by simp)) ?_; clear S a; intro a S)
                        first | (refine wpm_v S rfl rfl rfl (want_none _ rfl) rfl rfl (fun w' S => sv_pure S rfl) ?_; clear S a; intro a S) | (refine wpm_v S rfl rfl rfl (want_none _ rfl) rfl rfl (fun w' S => sv_pickB S rfl rfl rfl rfl) ?_; clear S a; intro a S)
                        (refine wpm_v S rfl rfl rfl (want_none _ rfl) rfl rfl (fun w' S => sv_pure S rfl) ?_; clear S a; intro a S)
                        (refine wpm_v S rfl rfl rfl (want_yes S rfl rfl rfl) rfl rfl (fun w' S => sv_pure S rfl) ?_; clear S a; intro a S)
                        (refine wpm_v S rfl rfl rfl (want_yes S rfl rfl rfl) rfl rfl (fun w' S => sv_pure S rfl) ?_; clear S a; intro a S)
                        refine wpm_eff rfl rfl (fun _ => ⟨fun b o h => S.tr.frz b o (by first | exact h | solve_by_elim), S.has inferInstance, trivial⟩) ?_
                        refine wpl_take S rfl rfl rfl ?_
                        (first | (refine wpl_callF S rfl rfl rfl rfl rfl rfl (ofCt (tokens s).1 _ F3 (by omega) hvt) rfl ?_; clear S a; intro vo F4 a w hvo hF4 S; replace hvm := hvm.mono hF4) | (refine wpl_callF S rfl rfl rfl rfl rfl rfl (ofCt m vm F4 (by omega) hvm) rfl ?_; clear S a; intro vp F5 a w hvp hF5 S; replace hvo := hvo.mono hF5))
                        refine wpList_nil ?_
                        refine wpm_eff rfl rfl (fun _ => ⟨fun b o h => S.tr.frz b o (by first | exact h | solve_by_elim), S.has inferInstance, trivial⟩) ?_
                        refine wpl_take S rfl rfl rfl ?_
                        (first | (refine wpl_callF S rfl rfl rfl rfl rfl rfl (ofCt (tokens s).1 _ F3 (by omega) hvt) rfl ?_; clear S a; intro vo F4 a w hvo hF4 S; replace hvm := hvm.mono hF4) | (refine wpl_callF S rfl rfl rfl rfl rfl rfl (ofCt m vm F4 (by omega) hvm) rfl ?_; clear S a; intro vp F5 a w hvp hF5 S; replace hvo := hvo.mono hF5))
                        refine wpList_nil ?_
                        refine wpm_eff rfl rfl (fun _ => ⟨fun b o h => S.tr.frz b o (by first | exact h | solve_by_elim), S.has inferInstance, trivial⟩) ?_
                        refine wpl_take S rfl rfl rfl ?_
                        (refine wpl_call0 S rfl rfl rfl rfl rfl rfl (sameCt (tokens s).1 m vo vp false F5 (by omega) hvo hvp) rfl ?_; clear S a; intro v a w hv S; subst hv)
                        refine wpList_nil ?_
                        first | (refine wpm_v S rfl rfl rfl (want_none _ rfl) rfl rfl (fun w' S => sv_pure S rfl) ?_; clear S a; intro a S) | (refine wpm_v S rfl rfl rfl (want_none _ rfl) rfl rfl (fun w' S => sv_pickB S rfl rfl rfl rfl) ?_; clear S a; intro a S)
                        refine wpm_eff rfl rfl (fun _ => ⟨fun b o h => S.tr.frz b o (by first | exact h | solve_by_elim), S.has inferInstance, trivial⟩) ?_
                        (refine wpl_v S rfl rfl rfl (sv_pure S rfl) ?_; clear S a; intro a S)
                        refine wpList_nil ?_
                        refine wpm_nil (fun _ => ⟨fun b o h => S.tr.frz b o (by first | exact h | solve_by_elim), S.has inferInstance, trivial⟩) ?_
                        (refine hKq18 _ _ ?_; try (clear hKq18 Kq18))
                        refine wp_ret ?_
                        refine fin_ret S (results1 Tryd.results6 (RV.tmp S rfl)) ?_
                        (first | rfl | (rw [hsm]; done) | (exfalso; have hq : ((place (1, 1) (s.take o)).1 == ((tokens s).1[k]'hkl2).line && (place (1, 1) (s.take o)).2 == ((tokens s).1[k]'hkl2).col) = false := (by assumption); rw [ho2] at hq; simp at hq))
                      · (intro h S'; clear S; have S := S'; clear S'; (try simp only [decide_eq_true_eq, decide_eq_false_iff_not, beq_iff_eq, bne_iff_ne, bne_eq_false_iff_eq, beq_eq_false_iff_ne, ne_eq, Bool.not_eq_true', Bool.not_eq_false', Bool.not_eq_true, Bool.not_eq_false, Bool.not_true, Bool.not_false, Int.ofNat_lt, Int.ofNat_le, Nat.not_lt, Nat.not_le] at h))
                        (refine wpm_skip S rfl rfl (want_no S rfl rfl rfl) rfl rfl ?_; clear S a; intro a S)
                        (refine wpm_skip S rfl rfl (want_no S rfl rfl rfl) rfl rfl ?_; clear S a; intro a S)
                        first | (refine wpm_v S rfl rfl rfl (want_none _ rfl) rfl rfl (fun w' S => sv_pure S rfl) ?_; clear S a; intro a S) | (refine wpm_v S rfl rfl rfl (want_none _ rfl) rfl rfl (fun w' S => sv_pickB S rfl rfl rfl rfl) ?_; clear S a; intro a S)
                        (refine wpm_v S rfl rfl rfl (want_none _ rfl) rfl rfl (fun w' S => sv_pure S rfl) ?_; clear S a; intro a S)
                        (refine wpm_skip S rfl rfl (want_no S rfl rfl rfl) rfl rfl ?_; clear S a; intro a S)
                        (refine wpm_skip S rfl rfl (want_no S rfl rfl rfl) rfl rfl ?_; clear S a; intro a S)
                        (refine wpm_skipE S rfl rfl (want_no S rfl rfl rfl) (fun _ => ⟨fun b o h => S.tr.frz b o (by first | exact h | solve_by_elim), S.has inferInstance, trivial⟩) rfl rfl ?_; clear S a; intro a S)
                        (refine wpm_skipE S rfl rfl (want_no S rfl rfl rfl) (fun _ => ⟨fun b o h => S.tr.frz b o (by first | exact h | solve_by_elim), S.has inferInstance, trivial⟩) rfl rfl ?_; clear S a; intro a S)
                        (refine wpm_skipE S rfl rfl (want_no S rfl rfl rfl) (fun _ => ⟨fun b o h => S.tr.frz b o (by first | exact h | solve_by_elim), S.has inferInstance, trivial⟩) rfl rfl ?_; clear S a; intro a S)
                        first | (refine wpm_v S rfl rfl rfl (want_none _ rfl) rfl rfl (fun w' S => sv_pure S rfl) ?_; clear S a; intro a S) | (refine wpm_v S rfl rfl rfl (want_none _ rfl) rfl rfl (fun w' S => sv_pickB S rfl rfl rfl rfl) ?_; clear S a; intro a S)
                        refine wpm_eff rfl rfl (fun _ => ⟨fun b o h => S.tr.frz b o (by first | exact h | solve_by_elim), S.has inferInstance, trivial⟩) ?_
                        (refine wpl_v S rfl rfl rfl (sv_pure S rfl) ?_; clear S a; intro a S)
                        refine wpList_nil ?_
                        refine wpm_nil (fun _ => ⟨fun b o h => S.tr.frz b o (by first | exact h | solve_by_elim), S.has inferInstance, trivial⟩) ?_
                        (refine hKq18 _ _ ?_; try (clear hKq18 Kq18))
                        refine wp_ret ?_
                        refine fin_ret S (results1 Tryd.results6 (RV.tmp S rfl)) ?_
                        (first | rfl | (rw [hsm]; done) | (exfalso; have hq : ((place (1, 1) (s.take o)).1 == ((tokens s).1[k]'hkl2).line && (place (1, 1) (s.take o)).2 == ((tokens s).1[k]'hkl2).col) = false := (by assumption); rw [ho2] at hq; simp at hq))
            · (intro h S'; clear S; have S := S'; clear S'; (try simp only [decide_eq_true_eq, decide_eq_false_iff_not, beq_iff_eq, bne_iff_ne, bne_eq_false_iff_eq, beq_eq_false_iff_ne, ne_eq, Bool.not_eq_true', Bool.not_eq_false', Bool.not_eq_true, Bool.not_eq_false, Bool.not_true, Bool.not_false, Int.ofNat_lt, Int.ofNat_le, Nat.not_lt, Nat.not_le] at h))
              (refine wpm_skip S rfl rfl (want_no S rfl rfl rfl) rfl rfl ?_; clear S a; intro a S)
              (refine wpm_skip S rfl rfl (want_no S rfl rfl rfl) rfl rfl ?_; clear S a; intro a S)
              (refine wpm_skip S rfl rfl (want_no S rfl rfl rfl) rfl rfl ?_; clear S a; intro a S)
              (refine wpm_skip S rfl rfl (want_no S rfl rfl rfl) rfl rfl ?_; clear S a; intro a S)
              first | (refine wpm_v S rfl rfl rfl (want_none _ rfl) rfl rfl (fun w' S => sv_pure S rfl) ?_; clear S a; intro a S) | (refine wpm_v S rfl rfl rfl (want_none _ rfl) rfl rfl (fun w' S => sv_pickB S rfl rfl rfl rfl) ?_; clear S a; intro a S)
              refine wpm_nil (fun _ => ⟨fun b o h => S.tr.frz b o (by first | exact h | solve_by_elim), S.has inferInstance, trivial⟩) ?_
              (refine hKq12 _ _ ?_; try (clear hKq12 Kq12))
              refine wpc_false S rfl ?_
              refine wp_exit ?_
              (refine hKq10 _ _ ?_; try (clear hKq10 Kq10))
              (refine wp_seq_k ?_; intro Kq13 hKq13)
              (refine wp_seq_k ?_; intro Kq14 hKq14)
              (have hio : i = o := (by first | (have hq : ((place (1, 1) (s.take i)).1 == ((tokens s).1[k]'hkl2).line && (place (1, 1) (s.take i)).2 == ((tokens s).1[k]'hkl2).col) = true := (by assumption); simp only [Bool.and_eq_true, beq_iff_eq] at hq; exact place_inj (p := (1, 1)) (s := s) (by omega) (by omega) ((Prod.ext hq.1 hq.2).trans ho2.symm)) | omega); rw [hio] at S)
              refine wp_region_lit ?_
              (refine wpl_v S rfl rfl rfl (sv_pure S rfl) ?_; clear S a; intro a S)
              refine wpList_nil ?_
              (refine hKq14 _ _ ?_; try (clear hKq14 Kq14))
              refine wp_block ?_
              refine wpc_loop (fun m a w' => ∃ (j : Nat), m = r.length - j ∧ j ≤ r.length ∧ (∀ q, q < j → (r.getD q 0).toNat ≠ 10) ∧ St 122 [(0, .string (bs s)), (1, .string (bs r)), (7, .slice (some ⟨bt, off, none⟩) (tokens s).1.length cap), (10, .int .i64 k), (11, .int .i64 o), (12, ptr b12), (13, .int .i64 j)] w0 F [] F1 [[(b12, .cells ⟨[.int .i64 (place (1, 1) (s.take o)).1, .int .i64 (place (1, 1) (s.take o)).2]⟩ 24 (0, 0))], [(b8, .cells ⟨[.int .i64 (tokens s).2.1.1, .int .i64 (tokens s).2.1.2]⟩ 24 (0, 0))]] a w') ?_ ?_
              · (refine ⟨r.length, 0, by omega, Nat.zero_le _, fun q h => absurd h (Nat.not_lt_zero _), ?_⟩; refine S.keep ?_; repeat (first | exact trivial | refine ⟨rfl, ?_⟩))
              · (clear S; rintro m a w ⟨j, rfl, hjl, hnl, S⟩)
                (refine wp_seq_k ?_; intro Kq15 hKq15)
                (refine wp_seq_k ?_; intro Kq16 hKq16)
                refine wp_region_lit ?_
                (refine wpl_v S rfl rfl rfl (sv_pure S rfl) ?_; clear S a; intro a S)
                (refine wpl_v S rfl rfl rfl (sv_pure S rfl) ?_; clear S a; intro a S)
                (refine wpl_v S rfl rfl rfl (sv_lenS S rfl rfl) ?_; clear S a; intro a S)
                (refine wpl_v S rfl rfl rfl (sv_pure S rfl) ?_; clear S a; intro a S)
                refine wpList_nil ?_
                (refine hKq16 _ _ ?_; try (clear hKq16 Kq16))
                refine wpc_split S rfl (fun h => ?_) (fun h => ?_)
                · (skip; (try simp only [decide_eq_true_eq, decide_eq_false_iff_not, beq_iff_eq, bne_iff_ne, bne_eq_false_iff_eq, beq_eq_false_iff_ne, ne_eq, Bool.not_eq_true', Bool.not_eq_false', Bool.not_eq_true, Bool.not_eq_false, Bool.not_true, Bool.not_false, Int.ofNat_lt, Int.ofNat_le, Nat.not_lt, Nat.not_le] at h))
                  refine wp_skip ?_
                  (refine hKq15 _ _ ?_; try (clear hKq15 Kq15))
                  (refine wp_seq_k ?_; intro Kq17 hKq17)
                  refine wp_block ?_
                  (refine wp_seq_k ?_; intro Kq18 hKq18)
                  refine wp_region_lit ?_
                  (refine wpl_v S rfl rfl rfl (sv_pure S rfl) ?_; clear S a; intro a S)
                  (refine wpl_v S rfl rfl rfl (sv_pure S rfl) ?_; clear S a; intro a S)
                  first | (refine wpl_v S rfl rfl rfl (sv_indexSN S rfl rfl rfl (by first | omega | (simp only [List.length_append, List.length_cons, List.length_nil, List.length_take, List.length_drop]; omega))) ?_; clear S a; intro a S) | (refine wpl_v S rfl rfl rfl (sv_indexS S rfl rfl rfl (by first | omega | (simp only [List.length_append, List.length_cons, List.length_nil, List.length_take, List.length_drop]; omega))) ?_; clear S a; intro a S)
                  (refine wpl_v S rfl rfl rfl (sv_pure S rfl) ?_; clear S a; intro a S)
                  refine wpList_nil ?_
                  (refine hKq18 _ _ ?_; try (clear hKq18 Kq18))
                  refine wpc_split S rfl (fun h => ?_) (fun h => ?_)
                  · (skip; (try simp only [decide_eq_true_eq, decide_eq_false_iff_not, beq_iff_eq, bne_iff_ne, bne_eq_false_iff_eq, beq_eq_false_iff_ne, ne_eq, Bool.not_eq_true', Bool.not_eq_false', Bool.not_eq_true, Bool.not_eq_false, Bool.not_true, Bool.not_false, Int.ofNat_lt, Int.ofNat_le, Nat.not_lt, Nat.not_le] at h))
                    (refine wp_seq_k ?_; intro Kq19 hKq19)
                    refine wp_region_lit ?_
                    (refine wpl_v S rfl rfl rfl (sv_pure S rfl) ?_; clear S a; intro a S)
                    refine wpList_nil ?_
                    (refine hKq19 _ _ ?_; try (clear hKq19 Kq19))
                    refine wp_ret ?_
                    refine fin_ret S (results1 Tryd.results6 (RV.tmp S rfl)) ?_
                    (first | rfl | (rw [hsm]; done) | (exfalso; have hq : ((place (1, 1) (s.take o)).1 == ((tokens s).1[k]'hkl2).line && (place (1, 1) (s.take o)).2 == ((tokens s).1[k]'hkl2).col) = false := (by assumption); rw [ho2] at hq; simp at hq))
                  · (skip; (try simp only [decide_eq_true_eq, decide_eq_false_iff_not, beq_iff_eq, bne_iff_ne, bne_eq_false_iff_eq, beq_eq_false_iff_ne, ne_eq, Bool.not_eq_true', Bool.not_eq_false', Bool.not_eq_true, Bool.not_eq_false, Bool.not_true, Bool.not_false, Int.ofNat_lt, Int.ofNat_le, Nat.not_lt, Nat.not_le] at h))
                    refine wp_skip ?_
                    (refine hKq17 _ _ ?_; try (clear hKq17 Kq17))
                    refine wp_region_lit ?_
                    (refine wpl_v S rfl rfl rfl (sv_pure S rfl) ?_; clear S a; intro a S)
                    (refine wpl_v S rfl rfl rfl (sv_add S rfl rfl rfl (by first | omega | (simp only [List.length_append, List.length_cons, List.length_nil, List.length_take, List.length_drop]; omega))) ?_; clear S a; intro a S)
                    (refine wpl_v S rfl rfl rfl (sv_pure S rfl) ?_; clear S a; intro a S)
                    refine wpList_nil ?_
                    change ∃ m', _ ∧ _
                    (refine ⟨r.length - (j + 1), by omega, j + 1, rfl, by omega, fun q h => (by rcases Nat.lt_or_eq_of_le (Nat.le_of_lt_succ h) with h9 | h9; exact hnl q h9; subst h9; omega), ?_⟩; refine S.keep ?_; repeat (first | exact trivial | refine ⟨rfl, ?_⟩))
                · (skip; (try simp only [decide_eq_true_eq, decide_eq_false_iff_not, beq_iff_eq, bne_iff_ne, bne_eq_false_iff_eq, beq_eq_false_iff_ne, ne_eq, Bool.not_eq_true', Bool.not_eq_false', Bool.not_eq_true, Bool.not_eq_false, Bool.not_true, Bool.not_false, Int.ofNat_lt, Int.ofNat_le, Nat.not_lt, Nat.not_le] at h))
                  refine wp_exit ?_
                  (refine hKq13 _ _ ?_; try (clear hKq13 Kq13))
                  (refine wp_seq_k ?_; intro Kq17 hKq17)
                  (have hnl2 : ∀ c ∈ r, c.toNat ≠ 10 := (fun c hc => (by obtain ⟨q, hq, rfl⟩ := List.getElem_of_mem hc; have h9 := hnl q (by omega); rwa [List.getD_eq_getElem?_getD, List.getElem?_eq_getElem hq] at h9)); obtain ⟨m, hm, hsm⟩ := ho3 hnl2; have hml := tokens_len (s.take o ++ (insL r ++ s.drop o)); rw [hm] at hml; simp only [List.length_append, List.length_take, List.length_drop, insL_len] at hml)
                  (refine wpc_mixM [0, 1, 2, 3, 4, 5, 6, 7, 8, 9, 10, 12, 13, 14, 15] [] [] (.one 0 (.one 1 (.one 2 (.one 3 (.one 4 (.one 5 (.one 6 (.one 7 (.one 8 (.one 9 (.one 10 (.two 11 16 (.one 12 (.one 13 (.one 14 (.one 15 (.one 16 (.one 17 (.one 18 (.one 19 .nil)))))))) (.one 11 (.one 12 (.one 13 (.one 14 (.one 15 (.one 17 (.one 18 (.one 19 .nil)))))))))))))))))))) [] S mixed (by kernel_rfl) ?_; clear S; intro w S)
                  (refine wpm_v S rfl rfl rfl (want_none _ rfl) rfl rfl (fun w' S => sv_pure S rfl) ?_; clear S a; intro a S)
                  (refine wpm_v S rfl rfl rfl (want_none _ rfl) rfl rfl (fun w' S => sv_pure S rfl) ?_; clear S a; intro a S)
                  (refine wpm_v S rfl rfl rfl (want_none _ rfl) rfl rfl (fun w' S => sv_sliceS_hi S rfl rfl rfl (by first | omega | (simp only [List.length_append, List.length_cons, List.length_nil, List.length_take, List.length_drop]; omega))) ?_; clear S a; intro a S)
                  (refine wpm_v S rfl rfl rfl (want_none _ rfl) rfl rfl (fun w' S => sv_cat S rfl rfl rfl (by first | omega | (simp only [List.length_append, List.length_cons, List.length_nil, List.length_take, List.length_drop]; omega))) ?_; clear S a; intro a S)
                  (refine wpm_v S rfl rfl rfl (want_none _ rfl) rfl rfl (fun w' S => sv_pure S rfl) ?_; clear S a; intro a S)
                  (refine wpm_v S rfl rfl rfl (want_none _ rfl) rfl rfl (fun w' S => sv_cat S rfl rfl rfl (by first | omega | (simp only [List.length_append, List.length_cons, List.length_nil, List.length_take, List.length_drop]; omega))) ?_; clear S a; intro a S)
                  (refine wpm_v S rfl rfl rfl (want_none _ rfl) rfl rfl (fun w' S => sv_cat S rfl rfl rfl (by first | omega | (simp only [List.length_append, List.length_cons, List.length_nil, List.length_take, List.length_drop]; omega))) ?_; clear S a; intro a S)
                  (refine wpm_v S rfl rfl rfl (want_none _ rfl) rfl rfl (fun w' S => sv_pure S rfl) ?_; clear S a; intro a S)
                  (refine wpm_v S rfl rfl rfl (want_none _ rfl) rfl rfl (fun w' S => sv_pure S rfl) ?_; clear S a; intro a S)
                  (refine wpm_v S rfl rfl rfl (want_none _ rfl) rfl rfl (fun w' S => sv_sliceS_lo S rfl rfl rfl (by first | omega | (simp only [List.length_append, List.length_cons, List.length_nil, List.length_take, List.length_drop]; omega))) ?_; clear S a; intro a S)
                  (refine wpm_v S rfl rfl rfl (want_none _ rfl) rfl rfl (fun w' S => sv_cat S rfl rfl rfl (by first | omega | (simp only [List.length_append, List.length_cons, List.length_nil, List.length_take, List.length_drop]; omega))) ?_; clear S a; intro a S)
                  (rw [show s.take (o : Int).toNat ++ [32, 9, 13, 10, 35] ++ r ++ [10] ++ s.drop (o : Int).toNat = s.take o ++ (insL r ++ s.drop o) by simp [insL]] at S)
                  refine wpm_two rfl rfl (fun _ => ⟨fun b o h => S.tr.frz b o (by first | exact h | solve_by_elim), trivial⟩) ?_ ?_
                  · skip
                    (first | (refine wpl_callF S rfl rfl rfl rfl rfl rfl (tokensCt s F0 (hF.mono hF0) (by omega)) rfl ?_; clear S a; intro v F1 a w hv hF1 S; obtain ⟨vt, rfl, hvt⟩ := hv; have hvt2 := hvt; obtain ⟨ao, cap, rfl, hcap, hpos⟩ := hvt2) | (refine wpl_callF S rfl rfl rfl rfl rfl rfl (tokensCt (s.take o ++ (insL r ++ s.drop o)) F1 ((hF.mono hF0).mono hF1) (by simp only [List.length_append, List.length_take, List.length_drop, insL_len]; omega)) rfl ?_; clear S a; intro v F3 a w hv hF3 S; obtain ⟨vm, rfl, hvm⟩ := hv; rw [hm] at S hvm; replace hvt := hvt.mono hF3; replace hc0 := Cels.mono hF3 hc0))
                    refine wpList_nil ?_
                    (refine wpm_v S rfl rfl rfl (want_none _ rfl) rfl rfl (fun w' S => sv_pure S rfl) ?_; clear S a; intro a S)
                    (refine wpm_v S rfl rfl rfl (want_none _ rfl) rfl rfl (fun w' S => sv_pure S rfl) ?_; clear S a; intro a S)
                    (refine wpm_v S rfl rfl rfl (want_none _ rfl) rfl rfl (fun w' S => sv_pure S rfl) ?_; clear S a; intro a S)
                    (refine wpm_v S rfl rfl rfl (want_none _ rfl) rfl rfl (fun w' S => sv_pure S rfl) ?_; clear S a; intro a S)
                    refine wpm_eff rfl rfl (fun _ => ⟨fun b o h => S.tr.frz b o (by first | exact h | solve_by_elim), trivial⟩) ?_
                    (refine wpl_alloc S rfl rfl rfl rfl ?_; clear S a; intro b15 a w S)
                    refine wpList_nil ?_
                    refine wpm_eff rfl rfl (fun _ => ⟨fun b o h => S.tr.frz b o (by first | exact h | solve_by_elim), trivial⟩) ?_
                    (refine wpl_v S rfl rfl rfl (sv_pure S rfl) ?_; clear S a; intro a S)
                    refine wpList_nil ?_
                    refine wpm_eff rfl rfl (fun _ => ⟨fun b o h => S.tr.frz b o (by first | exact h | solve_by_elim), trivial⟩) ?_
                    (refine wpl_storeO S rfl rfl rfl rfl rfl (by rfl) (by simp [Value.cells, Value.oneCell', splice, tkC]) (by rfl) ?_; clear S; intro w S)
                    refine wpList_nil ?_
                    refine wpm_eff rfl rfl (fun _ => ⟨fun b o h => S.tr.frz b o (by first | exact h | solve_by_elim), trivial⟩) ?_
                    (refine wpl_v S rfl rfl rfl (sv_pure S rfl) ?_; clear S a; intro a S)
                    refine wpList_nil ?_
                    refine wpm_nil (fun _ => ⟨fun b o h => S.tr.frz b o (by first | exact h | solve_by_elim), trivial⟩) ?_
                    (refine hKq17 _ _ ?_; try (clear hKq17 Kq17))
                    (refine wp_seq_k ?_; intro Kq18 hKq18)
                    (refine wpc_mixM [0, 1, 2, 3, 4, 5, 6, 7, 8, 9, 10, 11, 12, 14, 17] [0, 5] [] (.one 0 (.one 1 (.one 2 (.one 3 (.one 4 (.one 5 (.one 6 (.one 7 (.one 8 (.one 9 (.one 10 (.one 11 (.one 12 (.one 14 (.one 13 (.one 15 (.one 16 (.one 17 (.one 18 .nil))))))))))))))))))) [b12] S mixed (by kernel_rfl) ?_; clear S; intro w S)
                    first | (refine wpm_lateO b12 S rfl rfl rfl (want_none _ rfl) rfl rfl (fun w' S => sv_loadO S rfl rfl (by rfl)) ?_; clear S a; intro a S) | (refine wpm_lateO b12 S rfl rfl rfl (want_none _ rfl) rfl rfl (fun w' S => sv_loadAO S rfl rfl (by rfl)) ?_; clear S a; intro a S)
                    (refine wpm_v S rfl rfl rfl (want_none _ rfl) rfl rfl (fun w' S => sv_pure S rfl) ?_; clear S a; intro a S)
                    (refine wpm_v S rfl rfl rfl (want_none _ rfl) rfl rfl (fun w' S => sv_pure S rfl) ?_; clear S a; intro a S)
                    (refine wpm_v S rfl rfl rfl (want_none _ rfl) rfl rfl (fun w' S => sv_indexAddrSl S rfl rfl rfl (by first | omega | (simp only [List.length_append, List.length_cons, List.length_nil, List.length_take, List.length_drop]; omega))) ?_; clear S a; intro a S)
                    (refine wpm_v S rfl rfl rfl (want_none _ rfl) rfl rfl (fun w' S => sv_fieldAddr S rfl rfl rfl inferInstance rfl) ?_; clear S a; intro a S)
                    first | (refine wpm_lateF S rfl rfl rfl (want_none _ rfl) rfl rfl (fun w' S => sv_loadF S rfl rfl (by assumption)) ?_; clear S a; intro a S) | (refine wpm_lateF S rfl rfl rfl (want_none _ rfl) rfl rfl (fun w' S => sv_loadAF S rfl rfl (by assumption) (by rfl)) ?_; clear S a; intro a S)
                    (refine wpm_v S rfl rfl rfl (want_none _ rfl) rfl rfl (fun w' S => sv_eqAgg S rfl rfl rfl guardPos (fun w => eqPos _ _ _ _ w)) ?_; clear S a; intro a S)
                    (refine wpm_v S rfl rfl rfl (want_none _ rfl) rfl rfl (fun w' S => sv_pure S rfl) ?_; clear S a; intro a S)
                    refine St.part (dj := 111) (want := true) S rfl ?_ ?_
                    · (intro h S'; clear S; have S := S'; clear S'; (try simp only [decide_eq_true_eq, decide_eq_false_iff_not, beq_iff_eq, bne_iff_ne, bne_eq_false_iff_eq, beq_eq_false_iff_ne, ne_eq, Bool.not_eq_true', Bool.not_eq_false', Bool.not_eq_true, Bool.not_eq_false, Bool.not_true, Bool.not_false, Int.ofNat_lt, Int.ofNat_le, Nat.not_lt, Nat.not_le] at h))
                      (refine wpm_v S rfl rfl rfl (want_yes S rfl rfl rfl) rfl rfl (fun w' S => sv_pure S rfl) ?_; clear S a; intro a S)
                      (refine wpm_v S rfl rfl rfl (want_yes S rfl rfl rfl) rfl rfl (fun w' S => sv_lit (c := true) (sv_pure S rfl) (by simp)) ?_; clear S a; intro a S)
                      first | (refine wpm_v S rfl rfl rfl (want_none _ rfl) rfl rfl (fun w' S => sv_pure S rfl) ?_; clear S a; intro a S) | (refine wpm_v S rfl rfl rfl (want_none _ rfl) rfl rfl (fun w' S => sv_pickB S rfl rfl rfl rfl) ?_; clear S a; intro a S)
                      (refine wpm_v S rfl rfl rfl (want_none _ rfl) rfl rfl (fun w' S => sv_pure S rfl) ?_; clear S a; intro a S)
                      (refine wpm_v S rfl rfl rfl (want_yes S rfl rfl rfl) rfl rfl (fun w' S => sv_pure S rfl) ?_; clear S a; intro a S)
                      (refine wpm_v S rfl rfl rfl (want_yes S rfl rfl rfl) rfl rfl (fun w' S => sv_pure S rfl) ?_; clear S a; intro a S)
                      refine wpm_eff rfl rfl (fun _ => ⟨fun b o h => S.tr.frz b o (by first | exact h | solve_by_elim), S.has inferInstance, trivial⟩) ?_
                      refine wpl_take S rfl rfl rfl ?_
                      (first | (refine wpl_callF S rfl rfl rfl rfl rfl rfl (ofCt (tokens s).1 _ F3 (by omega) hvt) rfl ?_; clear S a; intro vo F4 a w hvo hF4 S; replace hvm := hvm.mono hF4) | (refine wpl_callF S rfl rfl rfl rfl rfl rfl (ofCt m vm F4 (by omega) hvm) rfl ?_; clear S a; intro vp F5 a w hvp hF5 S; replace hvo := hvo.mono hF5))
                      refine wpList_nil ?_
                      refine wpm_eff rfl rfl (fun _ => ⟨fun b o h => S.tr.frz b o (by first | exact h | solve_by_elim), S.has inferInstance, trivial⟩) ?_
                      refine wpl_take S rfl rfl rfl ?_
                      (first | (refine wpl_callF S rfl rfl rfl rfl rfl rfl (ofCt (tokens s).1 _ F3 (by omega) hvt) rfl ?_; clear S a; intro vo F4 a w hvo hF4 S; replace hvm := hvm.mono hF4) | (refine wpl_callF S rfl rfl rfl rfl rfl rfl (ofCt m vm F4 (by omega) hvm) rfl ?_; clear S a; intro vp F5 a w hvp hF5 S; replace hvo := hvo.mono hF5))
                      refine wpList_nil ?_
                      refine wpm_eff rfl rfl (fun _ => ⟨fun b o h => S.tr.frz b o (by first | exact h | solve_by_elim), S.has inferInstance, trivial⟩) ?_
                      refine wpl_take S rfl rfl rfl ?_
                      (refine wpl_call0 S rfl rfl rfl rfl rfl rfl (sameCt (tokens s).1 m vo vp false F5 (by omega) hvo hvp) rfl ?_; clear S a; intro v a w hv S; subst hv)
                      refine wpList_nil ?_
                      first | (refine wpm_v S rfl rfl rfl (want_none _ rfl) rfl rfl (fun w' S => sv_pure S rfl) ?_; clear S a; intro a S) | (refine wpm_v S rfl rfl rfl (want_none _ rfl) rfl rfl (fun w' S => sv_pickB S rfl rfl rfl rfl) ?_; clear S a; intro a S)
                      refine wpm_eff rfl rfl (fun _ => ⟨fun b o h => S.tr.frz b o (by first | exact h | solve_by_elim), S.has inferInstance, trivial⟩) ?_
                      (refine wpl_v S rfl rfl rfl (sv_pure S rfl) ?_; clear S a; intro a S)
                      refine wpList_nil ?_
                      refine wpm_nil (fun _ => ⟨fun b o h => S.tr.frz b o (by first | exact h | solve_by_elim), S.has inferInstance, trivial⟩) ?_
                      (refine hKq18 _ _ ?_; try (clear hKq18 Kq18))
                      refine wp_ret ?_
                      refine fin_ret S (results1 Tryd.results6 (RV.tmp S rfl)) ?_
                      (first | rfl | (rw [hsm]; done) | (exfalso; have hq : ((place (1, 1) (s.take o)).1 == ((tokens s).1[k]'hkl2).line && (place (1, 1) (s.take o)).2 == ((tokens s).1[k]'hkl2).col) = false := (by assumption); rw [ho2] at hq; simp at hq))
                    · (intro h S'; clear S; have S := S'; clear S'; (try simp only [decide_eq_true_eq, decide_eq_false_iff_not, beq_iff_eq, bne_iff_ne, bne_eq_false_iff_eq, beq_eq_false_iff_ne, ne_eq, Bool.not_eq_true', Bool.not_eq_false', Bool.not_eq_true, Bool.not_eq_false, Bool.not_true, Bool.not_false, Int.ofNat_lt, Int.ofNat_le, Nat.not_lt, Nat.not_le] at h))
                      (refine wpm_skip S rfl rfl (want_no S rfl rfl rfl) rfl rfl ?_; clear S a; intro a S)
                      (refine wpm_skip S rfl rfl (want_no S rfl rfl rfl) rfl rfl ?_; clear S a; intro a S)
                      first | (refine wpm_v S rfl rfl rfl (want_none _ rfl) rfl rfl (fun w' S => sv_pure S rfl) ?_; clear S a; intro a S) | (refine wpm_v S rfl rfl rfl (want_none _ rfl) rfl rfl (fun w' S => sv_pickB S rfl rfl rfl rfl) ?_; clear S a; intro a S)
                      (refine wpm_v S rfl rfl rfl (want_none _ rfl) rfl rfl (fun w' S => sv_pure S rfl) ?_; clear S a; intro a S)
                      (refine wpm_skip S rfl rfl (want_no S rfl rfl rfl) rfl rfl ?_; clear S a; intro a S)
                      (refine wpm_skip S rfl rfl (want_no S rfl rfl rfl) rfl rfl ?_; clear S a; intro a S)
                      (refine wpm_skipE S rfl rfl (want_no S rfl rfl rfl) (fun _ => ⟨fun b o h => S.tr.frz b o (by first | exact h | solve_by_elim), S.has inferInstance, trivial⟩) rfl rfl ?_; clear S a; intro a S)
                      (refine wpm_skipE S rfl rfl (want_no S rfl rfl rfl) (fun _ => ⟨fun b o h => S.tr.frz b o (by first | exact h | solve_by_elim), S.has inferInstance, trivial⟩) rfl rfl ?_; clear S a; intro a S)
                      (refine wpm_skipE S rfl rfl (want_no S rfl rfl rfl) (fun _ => ⟨fun b o h => S.tr.frz b o (by first | exact h | solve_by_elim), S.has inferInstance, trivial⟩) rfl rfl ?_; clear S a; intro a S)
                      first | (refine wpm_v S rfl rfl rfl (want_none _ rfl) rfl rfl (fun w' S => sv_pure S rfl) ?_; clear S a; intro a S) | (refine wpm_v S rfl rfl rfl (want_none _ rfl) rfl rfl (fun w' S => sv_pickB S rfl rfl rfl rfl) ?_; clear S a; intro a S)
                      refine wpm_eff rfl rfl (fun _ => ⟨fun b o h => S.tr.frz b o (by first | exact h | solve_by_elim), S.has inferInstance, trivial⟩) ?_
                      (refine wpl_v S rfl rfl rfl (sv_pure S rfl) ?_; clear S a; intro a S)
                      refine wpList_nil ?_
                      refine wpm_nil (fun _ => ⟨fun b o h => S.tr.frz b o (by first | exact h | solve_by_elim), S.has inferInstance, trivial⟩) ?_
                      (refine hKq18 _ _ ?_; try (clear hKq18 Kq18))
                      refine wp_ret ?_
                      refine fin_ret S (results1 Tryd.results6 (RV.tmp S rfl)) ?_
                      (first | rfl | (rw [hsm]; done) | (exfalso; have hq : ((place (1, 1) (s.take o)).1 == ((tokens s).1[k]'hkl2).line && (place (1, 1) (s.take o)).2 == ((tokens s).1[k]'hkl2).col) = false := (by assumption); rw [ho2] at hq; simp at hq))
                  · skip
                    (refine wpl_alloc S rfl rfl rfl rfl ?_; clear S a; intro b15 a w S)
                    refine wpList_nil ?_
                    refine wpm_eff rfl rfl (fun _ => ⟨fun b o h => S.tr.frz b o (by first | exact h | solve_by_elim), trivial⟩) ?_
                    (first | (refine wpl_callF S rfl rfl rfl rfl rfl rfl (tokensCt s F0 (hF.mono hF0) (by omega)) rfl ?_; clear S a; intro v F1 a w hv hF1 S; obtain ⟨vt, rfl, hvt⟩ := hv; have hvt2 := hvt; obtain ⟨ao, cap, rfl, hcap, hpos⟩ := hvt2) | (refine wpl_callF S rfl rfl rfl rfl rfl rfl (tokensCt (s.take o ++ (insL r ++ s.drop o)) F1 ((hF.mono hF0).mono hF1) (by simp only [List.length_append, List.length_take, List.length_drop, insL_len]; omega)) rfl ?_; clear S a; intro v F3 a w hv hF3 S; obtain ⟨vm, rfl, hvm⟩ := hv; rw [hm] at S hvm; replace hvt := hvt.mono hF3; replace hc0 := Cels.mono hF3 hc0))
                    refine wpList_nil ?_
                    (refine wpm_v S rfl rfl rfl (want_none _ rfl) rfl rfl (fun w' S => sv_pure S rfl) ?_; clear S a; intro a S)
                    (refine wpm_v S rfl rfl rfl (want_none _ rfl) rfl rfl (fun w' S => sv_pure S rfl) ?_; clear S a; intro a S)
                    (refine wpm_v S rfl rfl rfl (want_none _ rfl) rfl rfl (fun w' S => sv_pure S rfl) ?_; clear S a; intro a S)
                    (refine wpm_v S rfl rfl rfl (want_none _ rfl) rfl rfl (fun w' S => sv_pure S rfl) ?_; clear S a; intro a S)
                    refine wpm_eff rfl rfl (fun _ => ⟨fun b o h => S.tr.frz b o (by first | exact h | solve_by_elim), trivial⟩) ?_
                    (refine wpl_v S rfl rfl rfl (sv_pure S rfl) ?_; clear S a; intro a S)
                    refine wpList_nil ?_
                    refine wpm_eff rfl rfl (fun _ => ⟨fun b o h => S.tr.frz b o (by first | exact h | solve_by_elim), trivial⟩) ?_
                    (refine wpl_storeO S rfl rfl rfl rfl rfl (by rfl) (by simp [Value.cells, Value.oneCell', splice, tkC]) (by rfl) ?_; clear S; intro w S)
                    refine wpList_nil ?_
                    refine wpm_eff rfl rfl (fun _ => ⟨fun b o h => S.tr.frz b o (by first | exact h | solve_by_elim), trivial⟩) ?_
                    (refine wpl_v S rfl rfl rfl (sv_pure S rfl) ?_; clear S a; intro a S)
                    refine wpList_nil ?_
                    refine wpm_nil (fun _ => ⟨fun b o h => S.tr.frz b o (by first | exact h | solve_by_elim), trivial⟩) ?_
                    (refine hKq17 _ _ ?_; try (clear hKq17 Kq17))
                    (refine wp_seq_k ?_; intro Kq18 hKq18)
                    (refine wpc_mixM [0, 1, 2, 3, 4, 5, 6, 7, 8, 9, 10, 11, 12, 14, 17] [0, 5] [] (.one 0 (.one 1 (.one 2 (.one 3 (.one 4 (.one 5 (.one 6 (.one 7 (.one 8 (.one 9 (.one 10 (.one 11 (.one 12 (.one 14 (.one 13 (.one 15 (.one 16 (.one 17 (.one 18 .nil))))))))))))))))))) [b12] S mixed (by kernel_rfl) ?_; clear S; intro w S)
                    first | (refine wpm_lateO b12 S rfl rfl rfl (want_none _ rfl) rfl rfl (fun w' S => sv_loadO S rfl rfl (by rfl)) ?_; clear S a; intro a S) | (refine wpm_lateO b12 S rfl rfl rfl (want_none _ rfl) rfl rfl (fun w' S => sv_loadAO S rfl rfl (by rfl)) ?_; clear S a; intro a S)
                    (refine wpm_v S rfl rfl rfl (want_none _ rfl) rfl rfl (fun w' S => sv_pure S rfl) ?_; clear S a; intro a S)
                    (refine wpm_v S rfl rfl rfl (want_none _ rfl) rfl rfl (fun w' S => sv_pure S rfl) ?_; clear S a; intro a S)
                    (refine wpm_v S rfl rfl rfl (want_none _ rfl) rfl rfl (fun w' S => sv_indexAddrSl S rfl rfl rfl (by first | omega | (simp only [List.length_append, List.length_cons, List.length_nil, List.length_take, List.length_drop]; omega))) ?_; clear S a; intro a S)
                    (refine wpm_v S rfl rfl rfl (want_none _ rfl) rfl rfl (fun w' S => sv_fieldAddr S rfl rfl rfl inferInstance rfl) ?_; clear S a; intro a S)
                    first | (refine wpm_lateF S rfl rfl rfl (want_none _ rfl) rfl rfl (fun w' S => sv_loadF S rfl rfl (by assumption)) ?_; clear S a; intro a S) | (refine wpm_lateF S rfl rfl rfl (want_none _ rfl) rfl rfl (fun w' S => sv_loadAF S rfl rfl (by assumption) (by rfl)) ?_; clear S a; intro a S)
                    (refine wpm_v S rfl rfl rfl (want_none _ rfl) rfl rfl (fun w' S => sv_eqAgg S rfl rfl rfl guardPos (fun w => eqPos _ _ _ _ w)) ?_; clear S a; intro a S)
                    (refine wpm_v S rfl rfl rfl (want_none _ rfl) rfl rfl (fun w' S => sv_pure S rfl) ?_; clear S a; intro a S)
                    refine St.part (dj := 111) (want := true) S rfl ?_ ?_
                    · (intro h S'; clear S; have S := S'; clear S'; (try simp only [decide_eq_true_eq, decide_eq_false_iff_not, beq_iff_eq, bne_iff_ne, bne_eq_false_iff_eq, beq_eq_false_iff_ne, ne_eq, Bool.not_eq_true', Bool.not_eq_false', Bool.not_eq_true, Bool.not_eq_false, Bool.not_true, Bool.not_false, Int.ofNat_lt, Int.ofNat_le, Nat.not_lt, Nat.not_le] at h))
                      (refine wpm_v S rfl rfl rfl (want_yes S rfl rfl rfl) rfl rfl (fun w' S => sv_pure S rfl) ?_; clear S a; intro a S)
                      (refine wpm_v S rfl rfl rfl (want_yes S rfl rfl rfl) rfl rfl (fun w' S => sv_lit (c := true) (sv_pure S rfl) (by simp)) ?_; clear S a; intro a S)
                      first | (refine wpm_v S rfl rfl rfl (want_none _ rfl) rfl rfl (fun w' S => sv_pure S rfl) ?_; clear S a; intro a S) | (refine wpm_v S rfl rfl rfl (want_none _ rfl) rfl rfl (fun w' S => sv_pickB S rfl rfl rfl rfl) ?_; clear S a; intro a S)
                      (refine wpm_v S rfl rfl rfl (want_none _ rfl) rfl rfl (fun w' S => sv_pure S rfl) ?_; clear S a; intro a S)
                      (refine wpm_v S rfl rfl rfl (want_yes S rfl rfl rfl) rfl rfl (fun w' S => sv_pure S rfl) ?_; clear S a; intro a S)
                      (refine wpm_v S rfl rfl rfl (want_yes S rfl rfl rfl) rfl rfl (fun w' S => sv_pure S rfl) ?_; clear S a; intro a S)
                      refine wpm_eff rfl rfl (fun _ => ⟨fun b o h => S.tr.frz b o (by first | exact h | solve_by_elim), S.has inferInstance, trivial⟩) ?_
                      refine wpl_take S rfl rfl rfl ?_
                      (first | (refine wpl_callF S rfl rfl rfl rfl rfl rfl (ofCt (tokens s).1 _ F3 (by omega) hvt) rfl ?_; clear S a; intro vo F4 a w hvo hF4 S; replace hvm := hvm.mono hF4) | (refine wpl_callF S rfl rfl rfl rfl rfl rfl (ofCt m vm F4 (by omega) hvm) rfl ?_; clear S a; intro vp F5 a w hvp hF5 S; replace hvo := hvo.mono hF5))
                      refine wpList_nil ?_
                      refine wpm_eff rfl rfl (fun _ => ⟨fun b o h => S.tr.frz b o (by first | exact h | solve_by_elim), S.has inferInstance, trivial⟩) ?_
                      refine wpl_take S rfl rfl rfl ?_
                      (first | (refine wpl_callF S rfl rfl rfl rfl rfl rfl (ofCt (tokens s).1 _ F3 (by omega) hvt) rfl ?_; clear S a; intro vo F4 a w hvo hF4 S; replace hvm := hvm.mono hF4) | (refine wpl_callF S rfl rfl rfl rfl rfl rfl (ofCt m vm F4 (by omega) hvm) rfl ?_; clear S a; intro vp F5 a w hvp hF5 S; replace hvo := hvo.mono hF5))
                      refine wpList_nil ?_
                      refine wpm_eff rfl rfl (fun _ => ⟨fun b o h => S.tr.frz b o (by first | exact h | solve_by_elim), S.has inferInstance, trivial⟩) ?_
                      refine wpl_take S rfl rfl rfl ?_
                      (refine wpl_call0 S rfl rfl rfl rfl rfl rfl (sameCt (tokens s).1 m vo vp false F5 (by omega) hvo hvp) rfl ?_; clear S a; intro v a w hv S; subst hv)
                      refine wpList_nil ?_
                      first | (refine wpm_v S rfl rfl rfl (want_none _ rfl) rfl rfl (fun w' S => sv_pure S rfl) ?_; clear S a; intro a S) | (refine wpm_v S rfl rfl rfl (want_none _ rfl) rfl rfl (fun w' S => sv_pickB S rfl rfl rfl rfl) ?_; clear S a; intro a S)
                      refine wpm_eff rfl rfl (fun _ => ⟨fun b o h => S.tr.frz b o (by first | exact h | solve_by_elim), S.has inferInstance, trivial⟩) ?_
                      (refine wpl_v S rfl rfl rfl (sv_pure S rfl) ?_; clear S a; intro a S)
                      refine wpList_nil ?_
                      refine wpm_nil (fun _ => ⟨fun b o h => S.tr.frz b o (by first | exact h | solve_by_elim), S.has inferInstance, trivial⟩) ?_
                      (refine hKq18 _ _ ?_; try (clear hKq18 Kq18))
                      refine wp_ret ?_
                      refine fin_ret S (results1 Tryd.results6 (RV.tmp S rfl)) ?_
                      (first | rfl | (rw [hsm]; done) | (exfalso; have hq : ((place (1, 1) (s.take o)).1 == ((tokens s).1[k]'hkl2).line && (place (1, 1) (s.take o)).2 == ((tokens s).1[k]'hkl2).col) = false := (by assumption); rw [ho2] at hq; simp at hq))
                    · (intro h S'; clear S; have S := S'; clear S'; (try simp only [decide_eq_true_eq, decide_eq_false_iff_not, beq_iff_eq, bne_iff_ne, bne_eq_false_iff_eq, beq_eq_false_iff_ne, ne_eq, Bool.not_eq_true', Bool.not_eq_false', Bool.not_eq_true, Bool.not_eq_false, Bool.not_true, Bool.not_false, Int.ofNat_lt, Int.ofNat_le, Nat.not_lt, Nat.not_le] at h))
                      (refine wpm_skip S rfl rfl (want_no S rfl rfl rfl) rfl rfl ?_; clear S a; intro a S)
                      (refine wpm_skip S rfl rfl (want_no S rfl rfl rfl) rfl rfl ?_; clear S a; intro a S)
                      first | (refine wpm_v S rfl rfl rfl (want_none _ rfl) rfl rfl (fun w' S => sv_pure S rfl) ?_; clear S a; intro a S) | (refine wpm_v S rfl rfl rfl (want_none _ rfl) rfl rfl (fun w' S => sv_pickB S rfl rfl rfl rfl) ?_; clear S a; intro a S)
                      (refine wpm_v S rfl rfl rfl (want_none _ rfl) rfl rfl (fun w' S => sv_pure S rfl) ?_; clear S a; intro a S)
                      (refine wpm_skip S rfl rfl (want_no S rfl rfl rfl) rfl rfl ?_; clear S a; intro a S)
                      (refine wpm_skip S rfl rfl (want_no S rfl rfl rfl) rfl rfl ?_; clear S a; intro a S)
                      (refine wpm_skipE S rfl rfl (want_no S rfl rfl rfl) (fun _ => ⟨fun b o h => S.tr.frz b o (by first | exact h | solve_by_elim), S.has inferInstance, trivial⟩) rfl rfl ?_; clear S a; intro a S)
                      (refine wpm_skipE S rfl rfl (want_no S rfl rfl rfl) (fun _ => ⟨fun b o h => S.tr.frz b o (by first | exact h | solve_by_elim), S.has inferInstance, trivial⟩) rfl rfl ?_; clear S a; intro a S)
                      (refine wpm_skipE S rfl rfl (want_no S rfl rfl rfl) (fun _ => ⟨fun b o h => S.tr.frz b o (by first | exact h | solve_by_elim), S.has inferInstance, trivial⟩) rfl rfl ?_; clear S a; intro a S)
                      first | (refine wpm_v S rfl rfl rfl (want_none _ rfl) rfl rfl (fun w' S => sv_pure S rfl) ?_; clear S a; intro a S) | (refine wpm_v S rfl rfl rfl (want_none _ rfl) rfl rfl (fun w' S => sv_pickB S rfl rfl rfl rfl) ?_; clear S a; intro a S)
                      refine wpm_eff rfl rfl (fun _ => ⟨fun b o h => S.tr.frz b o (by first | exact h | solve_by_elim), S.has inferInstance, trivial⟩) ?_
                      (refine wpl_v S rfl rfl rfl (sv_pure S rfl) ?_; clear S a; intro a S)
                      refine wpList_nil ?_
                      refine wpm_nil (fun _ => ⟨fun b o h => S.tr.frz b o (by first | exact h | solve_by_elim), S.has inferInstance, trivial⟩) ?_
                      (refine hKq18 _ _ ?_; try (clear hKq18 Kq18))
                      refine wp_ret ?_
                      refine fin_ret S (results1 Tryd.results6 (RV.tmp S rfl)) ?_
                      (first | rfl | (rw [hsm]; done) | (exfalso; have hq : ((place (1, 1) (s.take o)).1 == ((tokens s).1[k]'hkl2).line && (place (1, 1) (s.take o)).2 == ((tokens s).1[k]'hkl2).col) = false := (by assumption); rw [ho2] at hq; simp at hq))
      · (intro h; clear S a; intro a S; (try simp only [decide_eq_true_eq, decide_eq_false_iff_not, beq_iff_eq, bne_iff_ne, bne_eq_false_iff_eq, beq_eq_false_iff_ne, ne_eq, Bool.not_eq_true', Bool.not_eq_false', Bool.not_eq_true, Bool.not_eq_false, Bool.not_true, Bool.not_false, Int.ofNat_lt, Int.ofNat_le, Nat.not_lt, Nat.not_le] at h))
        (refine wpl_skip S rfl rfl rfl rfl rfl ?_; clear S a; intro a S)
        (refine wpl_skip S rfl rfl rfl rfl rfl ?_; clear S a; intro a S)
        first | (refine wpl_v S rfl rfl rfl (sv_pure S rfl) ?_; clear S a; intro a S) | (refine wpl_v S rfl rfl rfl (sv_pickB S rfl rfl rfl rfl) ?_; clear S a; intro a S)
        refine wpList_nil ?_
        (refine hKq6 _ _ ?_; try (clear hKq6 Kq6))
        refine wpc_true S rfl ?_
        (refine wp_seq_k ?_; intro Kq7 hKq7)
        refine wp_region_lit ?_
        (refine wpl_v S rfl rfl rfl (sv_pure S rfl) ?_; clear S a; intro a S)
        refine wpList_nil ?_
        (refine hKq7 _ _ ?_; try (clear hKq7 Kq7))
        refine wp_ret ?_
        refine fin_ret S (results1 Tryd.results6 (RV.tmp S rfl)) ?_
        (first | rfl | (rw [hsm]; done) | (exfalso; have hq : ((place (1, 1) (s.take o)).1 == ((tokens s).1[k]'hkl2).line && (place (1, 1) (s.take o)).2 == ((tokens s).1[k]'hkl2).col) = false := (by assumption); rw [ho2] at hq; simp at hq))
  · (intro h; clear S a; intro a S; (try simp only [decide_eq_true_eq, decide_eq_false_iff_not, beq_iff_eq, bne_iff_ne, bne_eq_false_iff_eq, beq_eq_false_iff_ne, ne_eq, Bool.not_eq_true', Bool.not_eq_false', Bool.not_eq_true, Bool.not_eq_false, Bool.not_true, Bool.not_false, Int.ofNat_lt, Int.ofNat_le, Nat.not_lt, Nat.not_le] at h))
    (refine wpl_skip S rfl rfl rfl rfl rfl ?_; clear S a; intro a S)
    (refine wpl_skip S rfl rfl rfl rfl rfl ?_; clear S a; intro a S)
    first | (refine wpl_v S rfl rfl rfl (sv_pure S rfl) ?_; clear S a; intro a S) | (refine wpl_v S rfl rfl rfl (sv_pickB S rfl rfl rfl rfl) ?_; clear S a; intro a S)
    refine wpList_nil ?_
    (refine hKq3 _ _ ?_; try (clear hKq3 Kq3))
    refine wpc_true S rfl ?_
    (refine wp_seq_k ?_; intro Kq4 hKq4)
    refine wp_region_lit ?_
    ((first | (refine wpl_callF S rfl rfl rfl rfl rfl rfl (worksCt F hF) rfl ?_; clear S a; intro vw F0 a w hv hF0 S; subst hv) | (refine wpl_callF S rfl rfl rfl rfl rfl rfl (worksCt F0 (hF.mono hF0)) rfl ?_; clear S a; intro vw F9 a w hv hF9 S; subst hv)))
    (refine wpl_v S rfl rfl rfl (sv_pure S rfl) ?_; clear S a; intro a S)
    refine wpList_nil ?_
    (refine hKq4 _ _ ?_; try (clear hKq4 Kq4))
    refine wp_ret ?_
    refine fin_ret S (results1 Tryd.results6 (RV.tmp S rfl)) ?_
    (first | rfl | (rw [hsm]; done) | (exfalso; have hq : ((place (1, 1) (s.take o)).1 == ((tokens s).1[k]'hkl2).line && (place (1, 1) (s.take o)).2 == ((tokens s).1[k]'hkl2).col) = false := (by assumption); rw [ho2] at hq; simp at hq))
end Go.Proofs.YtpgnmnacfilnkaaDoor
