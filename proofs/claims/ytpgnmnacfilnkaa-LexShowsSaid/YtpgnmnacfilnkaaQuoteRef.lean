/- The walks of the two Quote functions: both answer the same quoted bytes, for a string of at most a thousand million bytes. -/
import Derived.Test.YtpgnmnacfilnkaaWk6
import Derived.Test.YtpgnmnacfilnkaaTy
namespace Go.Proofs.Ytpgnmnacfilnkaa
open Go Go.Wk
set_option linter.unusedSimpArgs false
set_option linter.unusedVariables false
attribute [local irreducible] Go.wpList Go.Code.wp Go.wpStill Go.Wk.wpPre Go.bodyPost Go.Calls Go.Wk.Ct Go.Wk.OwnS

theorem mixed : Try.prog.follows .mixedOrders = true := by kernel_rfl
def u8s (l : List UInt8) : List Value := l.map fun b => Value.int .u8 b.toNat
def hexL : List UInt8 := [48, 49, 50, 51, 52, 53, 54, 55, 56, 57, 97, 98, 99, 100, 101, 102]
def hexd (n : Nat) : UInt8 := hexL.getD n 0
def esc (c : UInt8) : List UInt8 :=
  if c.toNat = 34 ∨ c.toNat = 92 then [92, c] else if c.toNat = 10 then [92, 110] else if c.toNat = 9 then [92, 116]
  else if c.toNat < 32 ∨ c.toNat = 127 then [92, 120, hexd (c.toNat / 16), hexd (c.toNat % 16)] else [c]
def quote (l : List UInt8) : List UInt8 := 34 :: l.flatMap esc ++ [34]
theorem esc_len (c : UInt8) : (esc c).length ≤ 4 := by
  unfold esc; (repeat' split) <;> simp
theorem escs_len (l : List UInt8) : (l.flatMap esc).length ≤ 4 * l.length := by
  induction l with
  | nil => simp
  | cons c r ih => have := esc_len c; simp only [List.flatMap_cons, List.length_append, List.length_cons]; omega

theorem flat_succ (l : List UInt8) (k : Nat) (h : k < l.length) : (l.take (k + 1)).flatMap esc = (l.take k).flatMap esc ++ esc (l.getD k 0) := by
  rw [List.take_succ_eq_append_getElem h, List.flatMap_append, List.getD_eq_getElem?_getD, List.getElem?_eq_getElem h]; simp
theorem ownQ {l : List UInt8} {k n : Nat} {v : Value} {g : Grp} {news : List Value} (hk : k < l.length) (e : List UInt8) (he : esc (l.getD k 0) = e) (hnews : news = u8s e) (hn : n = 1 + ((l.take k).flatMap esc).length + e.length)
    (hown : OwnS 5 1 v n (u8s (34 :: (l.take k).flatMap esc) ++ news) g) : OwnS 5 1 v (1 + ((l.take (k + 1)).flatMap esc).length) (u8s (34 :: (l.take (k + 1)).flatMap esc)) g := by
  rw [flat_succ l k hk, he]
  rw [hnews, hn] at hown
  simpa [u8s, Nat.add_assoc] using hown
set_option maxHeartbeats 1000000 in
theorem refQuote (l : List UInt8) (F : Heap) (hl : l.length ≤ 1000000000) : Ct Try.prog 8 [.string (bs l)] F [] (fun _ _ v => v = .string (bs (quote l))) := by
  refine Ct.enter Try.func8 rfl Try.ntmps8 rfl fun w0 a S => ?_
  (refine wp_seq_k ?_; intro K1 hK1)
  refine wp_region_lit ?_
  (refine wpl_v S rfl rfl rfl (sv_pure S rfl) ?_; clear S a; intro a S)
  refine wpList_nil ?_
  (refine hK1 _ _ ?_; try (clear hK1 K1))
  (refine wp_seq_k ?_; intro K2 hK2)
  refine wp_region_lit ?_
  (refine wpl_buildSlice S rfl rfl rfl rfl rfl rfl (by rfl) (by simp [Value.cells, splice]) rfl (by rfl) (by rfl) ?_; clear S a; intro b a w hown S)
  (refine wpl_v S rfl rfl rfl (sv_pure S rfl) ?_; clear S a; intro a S)
  refine wpList_nil ?_
  (refine hK2 _ _ ?_; try (clear hK2 K2))
  (refine wp_seq_k ?_; intro K3 hK3)
  refine wp_region_lit ?_
  (refine wpl_v S rfl rfl rfl (sv_pure S rfl) ?_; clear S a; intro a S)
  refine wpList_nil ?_
  (refine hK3 _ _ ?_; try (clear hK3 K3))
  (refine wp_seq_k ?_; intro K4 hK4)
  (refine wp_seq_k ?_; intro K5 hK5)
  refine wp_region_lit ?_
  (refine wpl_v S rfl rfl rfl (sv_pure S rfl) ?_; clear S a; intro a S)
  refine wpList_nil ?_
  (refine hK5 _ _ ?_; try (clear hK5 K5))
  refine wp_block ?_
  refine wpc_loop (fun m a w' => ∃ (k : Nat) (v : Value) (g : Grp), m = l.length - k ∧ k ≤ l.length ∧ OwnS 5 1 v (1 + ((l.take k).flatMap esc).length) (u8s (34 :: (l.take k).flatMap esc)) g ∧ St 64 [(0, .string (bs l)), (3, v), (4, .string (bs hexL)), (5, .int .i64 k)] w0 F [] F [g] a w') ?_ ?_
  · (refine ⟨l.length, 0, _, _, by simp, Nat.zero_le _, hown, ?_⟩; refine S.keep ?_; repeat (first | exact trivial | refine ⟨rfl, ?_⟩))
  · (clear hown S; rintro m a w ⟨k, v, g, rfl, hk, hown, S⟩; have hc := UInt8.toNat_lt (l.getD k 0); have hx : hexL.length = 16 := rfl; have hle := escs_len (l.take k); have htl : (l.take k).length ≤ 1000000000 := by rw [List.length_take]; omega)
    (refine wp_seq_k ?_; intro K6 hK6)
    (refine wp_seq_k ?_; intro K7 hK7)
    refine wp_region_lit ?_
    (refine wpl_v S rfl rfl rfl (sv_pure S rfl) ?_; clear S a; intro a S)
    (refine wpl_v S rfl rfl rfl (sv_pure S rfl) ?_; clear S a; intro a S)
    (refine wpl_v S rfl rfl rfl (sv_lenS S rfl rfl) ?_; clear S a; intro a S)
    (refine wpl_v S rfl rfl rfl (sv_pure S rfl) ?_; clear S a; intro a S)
    refine wpList_nil ?_
    (refine hK7 _ _ ?_; try (clear hK7 K7))
    refine wpc_split S rfl (fun h => ?_) (fun h => ?_)
    · (skip; (try simp only [decide_eq_true_eq, decide_eq_false_iff_not, beq_iff_eq, bne_iff_ne, beq_eq_false_iff_ne, ne_eq, Bool.not_eq_true, Bool.not_eq_false, Bool.not_true, Bool.not_false, Int.ofNat_lt, Int.ofNat_le, Nat.not_lt, Nat.not_le] at h))
      refine wp_skip ?_
      (refine hK6 _ _ ?_; try (clear hK6 K6))
      (refine wp_seq_k ?_; intro K8 hK8)
      refine wp_block ?_
      (refine wp_seq_k ?_; intro K9 hK9)
      refine wp_region_lit ?_
      (refine wpl_v S rfl rfl rfl (sv_pure S rfl) ?_; clear S a; intro a S)
      (refine wpl_v S rfl rfl rfl (sv_pure S rfl) ?_; clear S a; intro a S)
      first | (refine wpl_v S rfl rfl rfl (sv_indexSN S rfl rfl rfl (by first | omega | (simp only [List.length_append, List.length_cons, List.length_nil]; omega))) ?_; clear S a; intro a S) | (refine wpl_v S rfl rfl rfl (sv_indexS S rfl rfl rfl (by first | omega | (simp only [List.length_append, List.length_cons, List.length_nil]; omega))) ?_; clear S a; intro a S)
      (refine wpl_v S rfl rfl rfl (sv_pure S rfl) ?_; clear S a; intro a S)
      refine wpList_nil ?_
      (refine hK9 _ _ ?_; try (clear hK9 K9))
      (refine wp_seq_k ?_; intro K10 hK10)
      refine wp_region_lit ?_
      (refine wpl_v S rfl rfl rfl (sv_pure S rfl) ?_; clear S a; intro a S)
      (refine wpl_v S rfl rfl rfl (sv_pure S rfl) ?_; clear S a; intro a S)
      (refine wpl_v S rfl rfl rfl (sv_pure S rfl) ?_; clear S a; intro a S)
      refine wpl_guard S rfl rfl rfl rfl rfl ?_ ?_
      · (intro h S'; clear S; have S := S'; clear S'; (try simp only [decide_eq_true_eq, decide_eq_false_iff_not, beq_iff_eq, bne_iff_ne, beq_eq_false_iff_ne, ne_eq, Bool.not_eq_true, Bool.not_eq_false, Bool.not_true, Bool.not_false, Int.ofNat_lt, Int.ofNat_le, Nat.not_lt, Nat.not_le] at h))
        (refine wpl_v S rfl rfl rfl (sv_pure S rfl) ?_; clear S a; intro a S)
        refine wpl_take S rfl rfl rfl ?_
        (refine wpl_v S rfl rfl rfl (sv_pure S rfl) ?_; clear S a; intro a S)
        first | (refine wpl_v S rfl rfl rfl (sv_pure S rfl) ?_; clear S a; intro a S) | (refine wpl_v S rfl rfl rfl (sv_pickB S rfl rfl rfl rfl) ?_; clear S a; intro a S)
        refine wpList_nil ?_
        (refine hK10 _ _ ?_; try (clear hK10 K10))
        refine wpc_split S rfl (fun h => ?_) (fun h => ?_)
        · (skip; (try simp only [decide_eq_true_eq, decide_eq_false_iff_not, beq_iff_eq, bne_iff_ne, beq_eq_false_iff_ne, ne_eq, Bool.not_eq_true, Bool.not_eq_false, Bool.not_true, Bool.not_false, Int.ofNat_lt, Int.ofNat_le, Nat.not_lt, Nat.not_le] at h))
          refine wp_region_lit ?_
          (refine wpl_v S rfl rfl rfl (sv_pure S rfl) ?_; clear S a; intro a S)
          (refine wpl_v S rfl rfl rfl (sv_pure S rfl) ?_; clear S a; intro a S)
          (refine wpl_append S rfl rfl rfl rfl rfl rfl rfl rfl rfl rfl rfl (fun _ => rfl) hown (by rfl) (by simp [Value.cells, splice]) (by simp [Value.cells, Value.oneCell', splice]) rfl (by rfl) (by rfl) rfl (by omega) (by omega) ?_; clear hown S a; intro v u g a w hown S)
          (refine wpl_v S rfl rfl rfl (sv_pure S rfl) ?_; clear S a; intro a S)
          refine wpList_nil ?_
          (refine hK8 _ _ ?_; try (clear hK8 K8))
          refine wp_region_lit ?_
          (refine wpl_v S rfl rfl rfl (sv_pure S rfl) ?_; clear S a; intro a S)
          (refine wpl_v S rfl rfl rfl (sv_add S rfl rfl rfl (by first | omega | (simp only [List.length_append, List.length_cons, List.length_nil]; omega))) ?_; clear S a; intro a S)
          (refine wpl_v S rfl rfl rfl (sv_pure S rfl) ?_; clear S a; intro a S)
          refine wpList_nil ?_
          change ∃ m', _ ∧ _
          (refine ⟨l.length - (k + 1), by omega, k + 1, v, g, rfl, by omega, ?_, ?_⟩; rotate_left 1; (refine S.keep ?_; repeat (first | exact trivial | refine ⟨rfl, ?_⟩)); first | (refine ownQ (by omega) [92, l.getD k 0] ?_ ?_ rfl hown; (focus (first | rfl | (unfold esc; (repeat (first | rw [if_pos (by omega)] | rw [if_neg (by omega)])); done))); (focus (first | rfl | (simp [u8s, Value.cells, hexd]; done)))) | (refine ownQ (by omega) [92, 110] ?_ ?_ rfl hown; (focus (first | rfl | (unfold esc; (repeat (first | rw [if_pos (by omega)] | rw [if_neg (by omega)])); done))); (focus (first | rfl | (simp [u8s, Value.cells, hexd]; done)))) | (refine ownQ (by omega) [92, 116] ?_ ?_ rfl hown; (focus (first | rfl | (unfold esc; (repeat (first | rw [if_pos (by omega)] | rw [if_neg (by omega)])); done))); (focus (first | rfl | (simp [u8s, Value.cells, hexd]; done)))) | (refine ownQ (by omega) [92, 120, hexd ((l.getD k 0).toNat / 16), hexd ((l.getD k 0).toNat % 16)] ?_ ?_ rfl hown; (focus (first | rfl | (unfold esc; (repeat (first | rw [if_pos (by omega)] | rw [if_neg (by omega)])); done))); (focus (first | rfl | (simp [u8s, Value.cells, hexd]; done)))) | (refine ownQ (by omega) [l.getD k 0] ?_ ?_ rfl hown; (focus (first | rfl | (unfold esc; (repeat (first | rw [if_pos (by omega)] | rw [if_neg (by omega)])); done))); (focus (first | rfl | (simp [u8s, Value.cells, hexd]; done)))))
        · (skip; (try simp only [decide_eq_true_eq, decide_eq_false_iff_not, beq_iff_eq, bne_iff_ne, beq_eq_false_iff_ne, ne_eq, Bool.not_eq_true, Bool.not_eq_false, Bool.not_true, Bool.not_false, Int.ofNat_lt, Int.ofNat_le, Nat.not_lt, Nat.not_le] at h))
          (refine wp_seq_k ?_; intro K11 hK11)
          refine wp_region_lit ?_
          (refine wpl_v S rfl rfl rfl (sv_pure S rfl) ?_; clear S a; intro a S)
          (refine wpl_v S rfl rfl rfl (sv_pure S rfl) ?_; clear S a; intro a S)
          refine wpList_nil ?_
          (refine hK11 _ _ ?_; try (clear hK11 K11))
          refine wpc_split S rfl (fun h => ?_) (fun h => ?_)
          · (skip; (try simp only [decide_eq_true_eq, decide_eq_false_iff_not, beq_iff_eq, bne_iff_ne, beq_eq_false_iff_ne, ne_eq, Bool.not_eq_true, Bool.not_eq_false, Bool.not_true, Bool.not_false, Int.ofNat_lt, Int.ofNat_le, Nat.not_lt, Nat.not_le] at h))
            refine wp_region_lit ?_
            (refine wpl_v S rfl rfl rfl (sv_pure S rfl) ?_; clear S a; intro a S)
            (refine wpl_append S rfl rfl rfl rfl rfl rfl rfl rfl rfl rfl rfl (fun _ => rfl) hown (by rfl) (by simp [Value.cells, splice]) (by simp [Value.cells, Value.oneCell', splice]) rfl (by rfl) (by rfl) rfl (by omega) (by omega) ?_; clear hown S a; intro v u g a w hown S)
            (refine wpl_v S rfl rfl rfl (sv_pure S rfl) ?_; clear S a; intro a S)
            refine wpList_nil ?_
            (refine hK8 _ _ ?_; try (clear hK8 K8))
            refine wp_region_lit ?_
            (refine wpl_v S rfl rfl rfl (sv_pure S rfl) ?_; clear S a; intro a S)
            (refine wpl_v S rfl rfl rfl (sv_add S rfl rfl rfl (by first | omega | (simp only [List.length_append, List.length_cons, List.length_nil]; omega))) ?_; clear S a; intro a S)
            (refine wpl_v S rfl rfl rfl (sv_pure S rfl) ?_; clear S a; intro a S)
            refine wpList_nil ?_
            change ∃ m', _ ∧ _
            (refine ⟨l.length - (k + 1), by omega, k + 1, v, g, rfl, by omega, ?_, ?_⟩; rotate_left 1; (refine S.keep ?_; repeat (first | exact trivial | refine ⟨rfl, ?_⟩)); first | (refine ownQ (by omega) [92, l.getD k 0] ?_ ?_ rfl hown; (focus (first | rfl | (unfold esc; (repeat (first | rw [if_pos (by omega)] | rw [if_neg (by omega)])); done))); (focus (first | rfl | (simp [u8s, Value.cells, hexd]; done)))) | (refine ownQ (by omega) [92, 110] ?_ ?_ rfl hown; (focus (first | rfl | (unfold esc; (repeat (first | rw [if_pos (by omega)] | rw [if_neg (by omega)])); done))); (focus (first | rfl | (simp [u8s, Value.cells, hexd]; done)))) | (refine ownQ (by omega) [92, 116] ?_ ?_ rfl hown; (focus (first | rfl | (unfold esc; (repeat (first | rw [if_pos (by omega)] | rw [if_neg (by omega)])); done))); (focus (first | rfl | (simp [u8s, Value.cells, hexd]; done)))) | (refine ownQ (by omega) [92, 120, hexd ((l.getD k 0).toNat / 16), hexd ((l.getD k 0).toNat % 16)] ?_ ?_ rfl hown; (focus (first | rfl | (unfold esc; (repeat (first | rw [if_pos (by omega)] | rw [if_neg (by omega)])); done))); (focus (first | rfl | (simp [u8s, Value.cells, hexd]; done)))) | (refine ownQ (by omega) [l.getD k 0] ?_ ?_ rfl hown; (focus (first | rfl | (unfold esc; (repeat (first | rw [if_pos (by omega)] | rw [if_neg (by omega)])); done))); (focus (first | rfl | (simp [u8s, Value.cells, hexd]; done)))))
          · (skip; (try simp only [decide_eq_true_eq, decide_eq_false_iff_not, beq_iff_eq, bne_iff_ne, beq_eq_false_iff_ne, ne_eq, Bool.not_eq_true, Bool.not_eq_false, Bool.not_true, Bool.not_false, Int.ofNat_lt, Int.ofNat_le, Nat.not_lt, Nat.not_le] at h))
            (refine wp_seq_k ?_; intro K12 hK12)
            refine wp_region_lit ?_
            (refine wpl_v S rfl rfl rfl (sv_pure S rfl) ?_; clear S a; intro a S)
            (refine wpl_v S rfl rfl rfl (sv_pure S rfl) ?_; clear S a; intro a S)
            refine wpList_nil ?_
            (refine hK12 _ _ ?_; try (clear hK12 K12))
            refine wpc_split S rfl (fun h => ?_) (fun h => ?_)
            · (skip; (try simp only [decide_eq_true_eq, decide_eq_false_iff_not, beq_iff_eq, bne_iff_ne, beq_eq_false_iff_ne, ne_eq, Bool.not_eq_true, Bool.not_eq_false, Bool.not_true, Bool.not_false, Int.ofNat_lt, Int.ofNat_le, Nat.not_lt, Nat.not_le] at h))
              refine wp_region_lit ?_
              (refine wpl_v S rfl rfl rfl (sv_pure S rfl) ?_; clear S a; intro a S)
              (refine wpl_append S rfl rfl rfl rfl rfl rfl rfl rfl rfl rfl rfl (fun _ => rfl) hown (by rfl) (by simp [Value.cells, splice]) (by simp [Value.cells, Value.oneCell', splice]) rfl (by rfl) (by rfl) rfl (by omega) (by omega) ?_; clear hown S a; intro v u g a w hown S)
              (refine wpl_v S rfl rfl rfl (sv_pure S rfl) ?_; clear S a; intro a S)
              refine wpList_nil ?_
              (refine hK8 _ _ ?_; try (clear hK8 K8))
              refine wp_region_lit ?_
              (refine wpl_v S rfl rfl rfl (sv_pure S rfl) ?_; clear S a; intro a S)
              (refine wpl_v S rfl rfl rfl (sv_add S rfl rfl rfl (by first | omega | (simp only [List.length_append, List.length_cons, List.length_nil]; omega))) ?_; clear S a; intro a S)
              (refine wpl_v S rfl rfl rfl (sv_pure S rfl) ?_; clear S a; intro a S)
              refine wpList_nil ?_
              change ∃ m', _ ∧ _
              (refine ⟨l.length - (k + 1), by omega, k + 1, v, g, rfl, by omega, ?_, ?_⟩; rotate_left 1; (refine S.keep ?_; repeat (first | exact trivial | refine ⟨rfl, ?_⟩)); first | (refine ownQ (by omega) [92, l.getD k 0] ?_ ?_ rfl hown; (focus (first | rfl | (unfold esc; (repeat (first | rw [if_pos (by omega)] | rw [if_neg (by omega)])); done))); (focus (first | rfl | (simp [u8s, Value.cells, hexd]; done)))) | (refine ownQ (by omega) [92, 110] ?_ ?_ rfl hown; (focus (first | rfl | (unfold esc; (repeat (first | rw [if_pos (by omega)] | rw [if_neg (by omega)])); done))); (focus (first | rfl | (simp [u8s, Value.cells, hexd]; done)))) | (refine ownQ (by omega) [92, 116] ?_ ?_ rfl hown; (focus (first | rfl | (unfold esc; (repeat (first | rw [if_pos (by omega)] | rw [if_neg (by omega)])); done))); (focus (first | rfl | (simp [u8s, Value.cells, hexd]; done)))) | (refine ownQ (by omega) [92, 120, hexd ((l.getD k 0).toNat / 16), hexd ((l.getD k 0).toNat % 16)] ?_ ?_ rfl hown; (focus (first | rfl | (unfold esc; (repeat (first | rw [if_pos (by omega)] | rw [if_neg (by omega)])); done))); (focus (first | rfl | (simp [u8s, Value.cells, hexd]; done)))) | (refine ownQ (by omega) [l.getD k 0] ?_ ?_ rfl hown; (focus (first | rfl | (unfold esc; (repeat (first | rw [if_pos (by omega)] | rw [if_neg (by omega)])); done))); (focus (first | rfl | (simp [u8s, Value.cells, hexd]; done)))))
            · (skip; (try simp only [decide_eq_true_eq, decide_eq_false_iff_not, beq_iff_eq, bne_iff_ne, beq_eq_false_iff_ne, ne_eq, Bool.not_eq_true, Bool.not_eq_false, Bool.not_true, Bool.not_false, Int.ofNat_lt, Int.ofNat_le, Nat.not_lt, Nat.not_le] at h))
              (refine wp_seq_k ?_; intro K13 hK13)
              refine wp_region_lit ?_
              (refine wpl_v S rfl rfl rfl (sv_pure S rfl) ?_; clear S a; intro a S)
              (refine wpl_v S rfl rfl rfl (sv_pure S rfl) ?_; clear S a; intro a S)
              (refine wpl_v S rfl rfl rfl (sv_pure S rfl) ?_; clear S a; intro a S)
              refine wpl_guard S rfl rfl rfl rfl rfl ?_ ?_
              · (intro h S'; clear S; have S := S'; clear S'; (try simp only [decide_eq_true_eq, decide_eq_false_iff_not, beq_iff_eq, bne_iff_ne, beq_eq_false_iff_ne, ne_eq, Bool.not_eq_true, Bool.not_eq_false, Bool.not_true, Bool.not_false, Int.ofNat_lt, Int.ofNat_le, Nat.not_lt, Nat.not_le] at h))
                (refine wpl_v S rfl rfl rfl (sv_pure S rfl) ?_; clear S a; intro a S)
                refine wpl_take S rfl rfl rfl ?_
                (refine wpl_v S rfl rfl rfl (sv_pure S rfl) ?_; clear S a; intro a S)
                first | (refine wpl_v S rfl rfl rfl (sv_pure S rfl) ?_; clear S a; intro a S) | (refine wpl_v S rfl rfl rfl (sv_pickB S rfl rfl rfl rfl) ?_; clear S a; intro a S)
                refine wpList_nil ?_
                (refine hK13 _ _ ?_; try (clear hK13 K13))
                refine wpc_split S rfl (fun h => ?_) (fun h => ?_)
                · (skip; (try simp only [decide_eq_true_eq, decide_eq_false_iff_not, beq_iff_eq, bne_iff_ne, beq_eq_false_iff_ne, ne_eq, Bool.not_eq_true, Bool.not_eq_false, Bool.not_true, Bool.not_false, Int.ofNat_lt, Int.ofNat_le, Nat.not_lt, Nat.not_le] at h))
                  (refine wpc_mix 11 S mixed rfl (by kernel_rfl) ?_; clear S; intro w S; simp only [List.take_succ_cons, List.take_zero, List.drop_succ_cons, List.drop_zero])
                  (refine wpp_v S rfl rfl rfl rfl (fun _ S => sv_pure S rfl) ?_; clear S a; intro a S)
                  (refine wpp_v S rfl rfl rfl rfl (fun _ S => sv_pure S rfl) ?_; clear S a; intro a S)
                  (refine wpp_v S rfl rfl rfl rfl (fun _ S => sv_pure S rfl) ?_; clear S a; intro a S)
                  (refine wpp_v S rfl rfl rfl rfl (fun _ S => sv_conv_i64 S rfl rfl (by first | omega | (simp only [List.length_append, List.length_cons, List.length_nil]; omega))) ?_; clear S a; intro a S)
                  (refine wpp_v S rfl rfl rfl rfl (fun _ S => sv_quo S rfl rfl rfl (by first | omega | (simp only [List.length_append, List.length_cons, List.length_nil]; omega))) ?_; clear S a; intro a S)
                  first | (refine wpp_v S rfl rfl rfl rfl (fun _ S => sv_indexSN S rfl rfl rfl (by first | omega | (simp only [List.length_append, List.length_cons, List.length_nil]; omega))) ?_; clear S a; intro a S) | (refine wpp_v S rfl rfl rfl rfl (fun _ S => sv_indexS S rfl rfl rfl (by first | omega | (simp only [List.length_append, List.length_cons, List.length_nil]; omega))) ?_; clear S a; intro a S)
                  (refine wpp_v S rfl rfl rfl rfl (fun _ S => sv_pure S rfl) ?_; clear S a; intro a S)
                  (refine wpp_v S rfl rfl rfl rfl (fun _ S => sv_pure S rfl) ?_; clear S a; intro a S)
                  (refine wpp_v S rfl rfl rfl rfl (fun _ S => sv_conv_i64 S rfl rfl (by first | omega | (simp only [List.length_append, List.length_cons, List.length_nil]; omega))) ?_; clear S a; intro a S)
                  (refine wpp_v S rfl rfl rfl rfl (fun _ S => sv_rem S rfl rfl rfl (by first | omega | (simp only [List.length_append, List.length_cons, List.length_nil]; omega))) ?_; clear S a; intro a S)
                  first | (refine wpp_v S rfl rfl rfl rfl (fun _ S => sv_indexSN S rfl rfl rfl (by first | omega | (simp only [List.length_append, List.length_cons, List.length_nil]; omega))) ?_; clear S a; intro a S) | (refine wpp_v S rfl rfl rfl rfl (fun _ S => sv_indexS S rfl rfl rfl (by first | omega | (simp only [List.length_append, List.length_cons, List.length_nil]; omega))) ?_; clear S a; intro a S)
                  refine wpp_nil ?_
                  (refine wpl_append S rfl rfl rfl rfl rfl rfl rfl rfl rfl rfl rfl (fun _ => rfl) hown (by rfl) (by simp [Value.cells, splice]) (by simp [Value.cells, Value.oneCell', splice]) rfl (by rfl) (by rfl) rfl (by omega) (by omega) ?_; clear hown S a; intro v u g a w hown S)
                  (refine wpl_v S rfl rfl rfl (sv_pure S rfl) ?_; clear S a; intro a S)
                  refine wpList_nil ?_
                  (refine hK8 _ _ ?_; try (clear hK8 K8))
                  refine wp_region_lit ?_
                  (refine wpl_v S rfl rfl rfl (sv_pure S rfl) ?_; clear S a; intro a S)
                  (refine wpl_v S rfl rfl rfl (sv_add S rfl rfl rfl (by first | omega | (simp only [List.length_append, List.length_cons, List.length_nil]; omega))) ?_; clear S a; intro a S)
                  (refine wpl_v S rfl rfl rfl (sv_pure S rfl) ?_; clear S a; intro a S)
                  refine wpList_nil ?_
                  change ∃ m', _ ∧ _
                  (refine ⟨l.length - (k + 1), by omega, k + 1, v, g, rfl, by omega, ?_, ?_⟩; rotate_left 1; (refine S.keep ?_; repeat (first | exact trivial | refine ⟨rfl, ?_⟩)); first | (refine ownQ (by omega) [92, l.getD k 0] ?_ ?_ rfl hown; (focus (first | rfl | (unfold esc; (repeat (first | rw [if_pos (by omega)] | rw [if_neg (by omega)])); done))); (focus (first | rfl | (simp [u8s, Value.cells, hexd]; done)))) | (refine ownQ (by omega) [92, 110] ?_ ?_ rfl hown; (focus (first | rfl | (unfold esc; (repeat (first | rw [if_pos (by omega)] | rw [if_neg (by omega)])); done))); (focus (first | rfl | (simp [u8s, Value.cells, hexd]; done)))) | (refine ownQ (by omega) [92, 116] ?_ ?_ rfl hown; (focus (first | rfl | (unfold esc; (repeat (first | rw [if_pos (by omega)] | rw [if_neg (by omega)])); done))); (focus (first | rfl | (simp [u8s, Value.cells, hexd]; done)))) | (refine ownQ (by omega) [92, 120, hexd ((l.getD k 0).toNat / 16), hexd ((l.getD k 0).toNat % 16)] ?_ ?_ rfl hown; (focus (first | rfl | (unfold esc; (repeat (first | rw [if_pos (by omega)] | rw [if_neg (by omega)])); done))); (focus (first | rfl | (simp [u8s, Value.cells, hexd]; done)))) | (refine ownQ (by omega) [l.getD k 0] ?_ ?_ rfl hown; (focus (first | rfl | (unfold esc; (repeat (first | rw [if_pos (by omega)] | rw [if_neg (by omega)])); done))); (focus (first | rfl | (simp [u8s, Value.cells, hexd]; done)))))
                · (skip; (try simp only [decide_eq_true_eq, decide_eq_false_iff_not, beq_iff_eq, bne_iff_ne, beq_eq_false_iff_ne, ne_eq, Bool.not_eq_true, Bool.not_eq_false, Bool.not_true, Bool.not_false, Int.ofNat_lt, Int.ofNat_le, Nat.not_lt, Nat.not_le] at h))
                  refine wp_region_lit ?_
                  (refine wpl_v S rfl rfl rfl (sv_pure S rfl) ?_; clear S a; intro a S)
                  (refine wpl_v S rfl rfl rfl (sv_pure S rfl) ?_; clear S a; intro a S)
                  (refine wpl_append S rfl rfl rfl rfl rfl rfl rfl rfl rfl rfl rfl (fun _ => rfl) hown (by rfl) (by simp [Value.cells, splice]) (by simp [Value.cells, Value.oneCell', splice]) rfl (by rfl) (by rfl) rfl (by omega) (by omega) ?_; clear hown S a; intro v u g a w hown S)
                  (refine wpl_v S rfl rfl rfl (sv_pure S rfl) ?_; clear S a; intro a S)
                  refine wpList_nil ?_
                  (refine hK8 _ _ ?_; try (clear hK8 K8))
                  refine wp_region_lit ?_
                  (refine wpl_v S rfl rfl rfl (sv_pure S rfl) ?_; clear S a; intro a S)
                  (refine wpl_v S rfl rfl rfl (sv_add S rfl rfl rfl (by first | omega | (simp only [List.length_append, List.length_cons, List.length_nil]; omega))) ?_; clear S a; intro a S)
                  (refine wpl_v S rfl rfl rfl (sv_pure S rfl) ?_; clear S a; intro a S)
                  refine wpList_nil ?_
                  change ∃ m', _ ∧ _
                  (refine ⟨l.length - (k + 1), by omega, k + 1, v, g, rfl, by omega, ?_, ?_⟩; rotate_left 1; (refine S.keep ?_; repeat (first | exact trivial | refine ⟨rfl, ?_⟩)); first | (refine ownQ (by omega) [92, l.getD k 0] ?_ ?_ rfl hown; (focus (first | rfl | (unfold esc; (repeat (first | rw [if_pos (by omega)] | rw [if_neg (by omega)])); done))); (focus (first | rfl | (simp [u8s, Value.cells, hexd]; done)))) | (refine ownQ (by omega) [92, 110] ?_ ?_ rfl hown; (focus (first | rfl | (unfold esc; (repeat (first | rw [if_pos (by omega)] | rw [if_neg (by omega)])); done))); (focus (first | rfl | (simp [u8s, Value.cells, hexd]; done)))) | (refine ownQ (by omega) [92, 116] ?_ ?_ rfl hown; (focus (first | rfl | (unfold esc; (repeat (first | rw [if_pos (by omega)] | rw [if_neg (by omega)])); done))); (focus (first | rfl | (simp [u8s, Value.cells, hexd]; done)))) | (refine ownQ (by omega) [92, 120, hexd ((l.getD k 0).toNat / 16), hexd ((l.getD k 0).toNat % 16)] ?_ ?_ rfl hown; (focus (first | rfl | (unfold esc; (repeat (first | rw [if_pos (by omega)] | rw [if_neg (by omega)])); done))); (focus (first | rfl | (simp [u8s, Value.cells, hexd]; done)))) | (refine ownQ (by omega) [l.getD k 0] ?_ ?_ rfl hown; (focus (first | rfl | (unfold esc; (repeat (first | rw [if_pos (by omega)] | rw [if_neg (by omega)])); done))); (focus (first | rfl | (simp [u8s, Value.cells, hexd]; done)))))
              · (intro h; clear S a; intro a S; (try simp only [decide_eq_true_eq, decide_eq_false_iff_not, beq_iff_eq, bne_iff_ne, beq_eq_false_iff_ne, ne_eq, Bool.not_eq_true, Bool.not_eq_false, Bool.not_true, Bool.not_false, Int.ofNat_lt, Int.ofNat_le, Nat.not_lt, Nat.not_le] at h))
                (refine wpl_skip S rfl rfl rfl rfl rfl ?_; clear S a; intro a S)
                first | (refine wpl_v S rfl rfl rfl (sv_pure S rfl) ?_; clear S a; intro a S) | (refine wpl_v S rfl rfl rfl (sv_pickB S rfl rfl rfl rfl) ?_; clear S a; intro a S)
                refine wpList_nil ?_
                (refine hK13 _ _ ?_; try (clear hK13 K13))
                refine wpc_true S rfl ?_
                (refine wpc_mix 11 S mixed rfl (by kernel_rfl) ?_; clear S; intro w S; simp only [List.take_succ_cons, List.take_zero, List.drop_succ_cons, List.drop_zero])
                (refine wpp_v S rfl rfl rfl rfl (fun _ S => sv_pure S rfl) ?_; clear S a; intro a S)
                (refine wpp_v S rfl rfl rfl rfl (fun _ S => sv_pure S rfl) ?_; clear S a; intro a S)
                (refine wpp_v S rfl rfl rfl rfl (fun _ S => sv_pure S rfl) ?_; clear S a; intro a S)
                (refine wpp_v S rfl rfl rfl rfl (fun _ S => sv_conv_i64 S rfl rfl (by first | omega | (simp only [List.length_append, List.length_cons, List.length_nil]; omega))) ?_; clear S a; intro a S)
                (refine wpp_v S rfl rfl rfl rfl (fun _ S => sv_quo S rfl rfl rfl (by first | omega | (simp only [List.length_append, List.length_cons, List.length_nil]; omega))) ?_; clear S a; intro a S)
                first | (refine wpp_v S rfl rfl rfl rfl (fun _ S => sv_indexSN S rfl rfl rfl (by first | omega | (simp only [List.length_append, List.length_cons, List.length_nil]; omega))) ?_; clear S a; intro a S) | (refine wpp_v S rfl rfl rfl rfl (fun _ S => sv_indexS S rfl rfl rfl (by first | omega | (simp only [List.length_append, List.length_cons, List.length_nil]; omega))) ?_; clear S a; intro a S)
                (refine wpp_v S rfl rfl rfl rfl (fun _ S => sv_pure S rfl) ?_; clear S a; intro a S)
                (refine wpp_v S rfl rfl rfl rfl (fun _ S => sv_pure S rfl) ?_; clear S a; intro a S)
                (refine wpp_v S rfl rfl rfl rfl (fun _ S => sv_conv_i64 S rfl rfl (by first | omega | (simp only [List.length_append, List.length_cons, List.length_nil]; omega))) ?_; clear S a; intro a S)
                (refine wpp_v S rfl rfl rfl rfl (fun _ S => sv_rem S rfl rfl rfl (by first | omega | (simp only [List.length_append, List.length_cons, List.length_nil]; omega))) ?_; clear S a; intro a S)
                first | (refine wpp_v S rfl rfl rfl rfl (fun _ S => sv_indexSN S rfl rfl rfl (by first | omega | (simp only [List.length_append, List.length_cons, List.length_nil]; omega))) ?_; clear S a; intro a S) | (refine wpp_v S rfl rfl rfl rfl (fun _ S => sv_indexS S rfl rfl rfl (by first | omega | (simp only [List.length_append, List.length_cons, List.length_nil]; omega))) ?_; clear S a; intro a S)
                refine wpp_nil ?_
                (refine wpl_append S rfl rfl rfl rfl rfl rfl rfl rfl rfl rfl rfl (fun _ => rfl) hown (by rfl) (by simp [Value.cells, splice]) (by simp [Value.cells, Value.oneCell', splice]) rfl (by rfl) (by rfl) rfl (by omega) (by omega) ?_; clear hown S a; intro v u g a w hown S)
                (refine wpl_v S rfl rfl rfl (sv_pure S rfl) ?_; clear S a; intro a S)
                refine wpList_nil ?_
                (refine hK8 _ _ ?_; try (clear hK8 K8))
                refine wp_region_lit ?_
                (refine wpl_v S rfl rfl rfl (sv_pure S rfl) ?_; clear S a; intro a S)
                (refine wpl_v S rfl rfl rfl (sv_add S rfl rfl rfl (by first | omega | (simp only [List.length_append, List.length_cons, List.length_nil]; omega))) ?_; clear S a; intro a S)
                (refine wpl_v S rfl rfl rfl (sv_pure S rfl) ?_; clear S a; intro a S)
                refine wpList_nil ?_
                change ∃ m', _ ∧ _
                (refine ⟨l.length - (k + 1), by omega, k + 1, v, g, rfl, by omega, ?_, ?_⟩; rotate_left 1; (refine S.keep ?_; repeat (first | exact trivial | refine ⟨rfl, ?_⟩)); first | (refine ownQ (by omega) [92, l.getD k 0] ?_ ?_ rfl hown; (focus (first | rfl | (unfold esc; (repeat (first | rw [if_pos (by omega)] | rw [if_neg (by omega)])); done))); (focus (first | rfl | (simp [u8s, Value.cells, hexd]; done)))) | (refine ownQ (by omega) [92, 110] ?_ ?_ rfl hown; (focus (first | rfl | (unfold esc; (repeat (first | rw [if_pos (by omega)] | rw [if_neg (by omega)])); done))); (focus (first | rfl | (simp [u8s, Value.cells, hexd]; done)))) | (refine ownQ (by omega) [92, 116] ?_ ?_ rfl hown; (focus (first | rfl | (unfold esc; (repeat (first | rw [if_pos (by omega)] | rw [if_neg (by omega)])); done))); (focus (first | rfl | (simp [u8s, Value.cells, hexd]; done)))) | (refine ownQ (by omega) [92, 120, hexd ((l.getD k 0).toNat / 16), hexd ((l.getD k 0).toNat % 16)] ?_ ?_ rfl hown; (focus (first | rfl | (unfold esc; (repeat (first | rw [if_pos (by omega)] | rw [if_neg (by omega)])); done))); (focus (first | rfl | (simp [u8s, Value.cells, hexd]; done)))) | (refine ownQ (by omega) [l.getD k 0] ?_ ?_ rfl hown; (focus (first | rfl | (unfold esc; (repeat (first | rw [if_pos (by omega)] | rw [if_neg (by omega)])); done))); (focus (first | rfl | (simp [u8s, Value.cells, hexd]; done)))))
      · (intro h; clear S a; intro a S; (try simp only [decide_eq_true_eq, decide_eq_false_iff_not, beq_iff_eq, bne_iff_ne, beq_eq_false_iff_ne, ne_eq, Bool.not_eq_true, Bool.not_eq_false, Bool.not_true, Bool.not_false, Int.ofNat_lt, Int.ofNat_le, Nat.not_lt, Nat.not_le] at h))
        (refine wpl_skip S rfl rfl rfl rfl rfl ?_; clear S a; intro a S)
        first | (refine wpl_v S rfl rfl rfl (sv_pure S rfl) ?_; clear S a; intro a S) | (refine wpl_v S rfl rfl rfl (sv_pickB S rfl rfl rfl rfl) ?_; clear S a; intro a S)
        refine wpList_nil ?_
        (refine hK10 _ _ ?_; try (clear hK10 K10))
        refine wpc_true S rfl ?_
        refine wp_region_lit ?_
        (refine wpl_v S rfl rfl rfl (sv_pure S rfl) ?_; clear S a; intro a S)
        (refine wpl_v S rfl rfl rfl (sv_pure S rfl) ?_; clear S a; intro a S)
        (refine wpl_append S rfl rfl rfl rfl rfl rfl rfl rfl rfl rfl rfl (fun _ => rfl) hown (by rfl) (by simp [Value.cells, splice]) (by simp [Value.cells, Value.oneCell', splice]) rfl (by rfl) (by rfl) rfl (by omega) (by omega) ?_; clear hown S a; intro v u g a w hown S)
        (refine wpl_v S rfl rfl rfl (sv_pure S rfl) ?_; clear S a; intro a S)
        refine wpList_nil ?_
        (refine hK8 _ _ ?_; try (clear hK8 K8))
        refine wp_region_lit ?_
        (refine wpl_v S rfl rfl rfl (sv_pure S rfl) ?_; clear S a; intro a S)
        (refine wpl_v S rfl rfl rfl (sv_add S rfl rfl rfl (by first | omega | (simp only [List.length_append, List.length_cons, List.length_nil]; omega))) ?_; clear S a; intro a S)
        (refine wpl_v S rfl rfl rfl (sv_pure S rfl) ?_; clear S a; intro a S)
        refine wpList_nil ?_
        change ∃ m', _ ∧ _
        (refine ⟨l.length - (k + 1), by omega, k + 1, v, g, rfl, by omega, ?_, ?_⟩; rotate_left 1; (refine S.keep ?_; repeat (first | exact trivial | refine ⟨rfl, ?_⟩)); first | (refine ownQ (by omega) [92, l.getD k 0] ?_ ?_ rfl hown; (focus (first | rfl | (unfold esc; (repeat (first | rw [if_pos (by omega)] | rw [if_neg (by omega)])); done))); (focus (first | rfl | (simp [u8s, Value.cells, hexd]; done)))) | (refine ownQ (by omega) [92, 110] ?_ ?_ rfl hown; (focus (first | rfl | (unfold esc; (repeat (first | rw [if_pos (by omega)] | rw [if_neg (by omega)])); done))); (focus (first | rfl | (simp [u8s, Value.cells, hexd]; done)))) | (refine ownQ (by omega) [92, 116] ?_ ?_ rfl hown; (focus (first | rfl | (unfold esc; (repeat (first | rw [if_pos (by omega)] | rw [if_neg (by omega)])); done))); (focus (first | rfl | (simp [u8s, Value.cells, hexd]; done)))) | (refine ownQ (by omega) [92, 120, hexd ((l.getD k 0).toNat / 16), hexd ((l.getD k 0).toNat % 16)] ?_ ?_ rfl hown; (focus (first | rfl | (unfold esc; (repeat (first | rw [if_pos (by omega)] | rw [if_neg (by omega)])); done))); (focus (first | rfl | (simp [u8s, Value.cells, hexd]; done)))) | (refine ownQ (by omega) [l.getD k 0] ?_ ?_ rfl hown; (focus (first | rfl | (unfold esc; (repeat (first | rw [if_pos (by omega)] | rw [if_neg (by omega)])); done))); (focus (first | rfl | (simp [u8s, Value.cells, hexd]; done)))))
    · (skip; (try simp only [decide_eq_true_eq, decide_eq_false_iff_not, beq_iff_eq, bne_iff_ne, beq_eq_false_iff_ne, ne_eq, Bool.not_eq_true, Bool.not_eq_false, Bool.not_true, Bool.not_false, Int.ofNat_lt, Int.ofNat_le, Nat.not_lt, Nat.not_le] at h))
      refine wp_exit ?_
      (refine hK4 _ _ ?_; try (clear hK4 K4))
      (refine wp_seq_k ?_; intro K8 hK8)
      refine wp_region_lit ?_
      (refine wpl_v S rfl rfl rfl (sv_pure S rfl) ?_; clear S a; intro a S)
      (refine wpl_append S rfl rfl rfl rfl rfl rfl rfl rfl rfl rfl rfl (fun _ => rfl) hown (by rfl) (by simp [Value.cells, splice]) (by simp [Value.cells, Value.oneCell', splice]) rfl (by rfl) (by rfl) rfl (by omega) (by omega) ?_; clear hown S a; intro v u g a w hown S)
      (refine wpl_v S rfl rfl rfl (sv_toStr (l := quote (l.take k)) S rfl rfl (by simpa [quote, u8s, Value.cells] using hown)) ?_; clear S a; intro a S)
      (refine wpl_v S rfl rfl rfl (sv_pure S rfl) ?_; clear S a; intro a S)
      refine wpList_nil ?_
      (refine hK8 _ _ ?_; try (clear hK8 K8))
      refine wp_ret ?_
      refine fin_ret S (results1 Try.results8 (RV.tmp S rfl)) ?_
      (have h0 : List.take k l = l := List.take_of_length_le h; rw [h0])

theorem celU8 {F : Heap} {b k : Nat} {l : List UInt8} (h : Cels F b 0 (l.map fun c => Value.int .u8 c.toNat)) (hk : k < l.length) : Cel F b (0 + k * 1) (.int .u8 ((l.getD k 0).toNat : Nat)) := by
  have := h k (.int .u8 ((l.getD k 0).toNat : Nat)) (by rw [List.getElem?_map, List.getElem?_eq_getElem hk, List.getD_eq_getElem?_getD, List.getElem?_eq_getElem hk]; rfl)
  simpa using this

set_option maxHeartbeats 1000000 in
theorem lexQuote (l : List UInt8) (F : Heap) (hl : l.length ≤ 1000000000) : Ct Try.prog 7 [.string (bs l)] F [] (fun _ _ v => v = .string (bs (quote l))) := by
  refine Ct.enter Try.func7 rfl Try.ntmps7 rfl fun w0 a S => ?_
  (refine wp_seq_k ?_; intro K1 hK1)
  refine wp_region_lit ?_
  (refine wpl_v S rfl rfl rfl (sv_pure S rfl) ?_; clear S a; intro a S)
  refine wpList_nil ?_
  (refine hK1 _ _ ?_; try (clear hK1 K1))
  (refine wp_seq_k ?_; intro K2 hK2)
  refine wp_region_lit ?_
  (refine wpl_buildSlice S rfl rfl rfl rfl rfl rfl (by rfl) (by simp [Value.cells, splice]) rfl (by rfl) (by rfl) ?_; clear S a; intro b a w hown S)
  (refine wpl_v S rfl rfl rfl (sv_pure S rfl) ?_; clear S a; intro a S)
  refine wpList_nil ?_
  (refine hK2 _ _ ?_; try (clear hK2 K2))
  (refine wp_seq_k ?_; intro K3 hK3)
  (refine wp_seq_k ?_; intro K4 hK4)
  refine wp_region_lit ?_
  (refine wpl_v S rfl rfl rfl (sv_pure S rfl) ?_; clear S a; intro a S)
  (refine wpl_toBytes S rfl rfl rfl rfl rfl ?_; clear S a; intro b8 cap8 F8 a w hcel8 hcap8 hF8 S)
  (refine wpl_v S rfl rfl rfl (sv_lenSl S rfl rfl) ?_; clear S a; intro a S)
  (refine wpl_v S rfl rfl rfl (sv_pure S rfl) ?_; clear S a; intro a S)
  refine wpList_nil ?_
  (refine hK4 _ _ ?_; try (clear hK4 K4))
  refine wp_block ?_
  refine wpc_loop (fun m a w' => ∃ (k : Nat) (v : Value) (g : Grp), m = l.length - k ∧ k ≤ l.length ∧ OwnS 5 1 v (1 + ((l.take k).flatMap esc).length) (u8s (34 :: (l.take k).flatMap esc)) g ∧ St 60 [(0, .string (bs l)), (3, v), (8, .slice (some ⟨b8, 0, none⟩) l.length cap8), (9, .int .i64 l.length), (10, .int .i64 k)] w0 F [] F8 [g] a w') ?_ ?_
  · (refine ⟨l.length, 0, _, _, by simp, Nat.zero_le _, hown, ?_⟩; refine S.keep ?_; repeat (first | exact trivial | refine ⟨rfl, ?_⟩))
  · (clear hown S; rintro m a w ⟨k, v, g, rfl, hk, hown, S⟩; have hc := UInt8.toNat_lt (l.getD k 0); have hx : hexL.length = 16 := rfl; have hle := escs_len (l.take k); have htl : (l.take k).length ≤ 1000000000 := by rw [List.length_take]; omega)
    (refine wp_seq_k ?_; intro K5 hK5)
    refine wp_region_lit ?_
    (refine wpl_v S rfl rfl rfl (sv_pure S rfl) ?_; clear S a; intro a S)
    refine wpList_nil ?_
    (refine hK5 _ _ ?_; try (clear hK5 K5))
    (refine wp_seq_k ?_; intro K6 hK6)
    refine wpc_split S rfl (fun h => ?_) (fun h => ?_)
    · (skip; (try simp only [decide_eq_true_eq, decide_eq_false_iff_not, beq_iff_eq, bne_iff_ne, beq_eq_false_iff_ne, ne_eq, Bool.not_eq_true, Bool.not_eq_false, Bool.not_true, Bool.not_false, Int.ofNat_lt, Int.ofNat_le, Nat.not_lt, Nat.not_le] at h))
      refine wp_skip ?_
      (refine hK6 _ _ ?_; try (clear hK6 K6))
      (refine wp_seq_k ?_; intro K7 hK7)
      refine wp_block ?_
      (refine wp_seq_k ?_; intro K8 hK8)
      have hck := celU8 hcel8 h
      refine wp_region_lit ?_
      (refine wpl_v S rfl rfl rfl (sv_indexAddrSl S rfl rfl rfl (by first | omega | (simp only [List.length_append, List.length_cons, List.length_nil]; omega))) ?_; clear S a; intro a S)
      first | (refine wpl_v S rfl rfl rfl (sv_loadO S rfl rfl (by rfl)) ?_; clear S a; intro a S) | (refine wpl_v S rfl rfl rfl (sv_loadF S rfl rfl (by assumption)) ?_; clear S a; intro a S)
      (refine wpl_v S rfl rfl rfl (sv_pure S rfl) ?_; clear S a; intro a S)
      refine wpList_nil ?_
      (refine hK8 _ _ ?_; try (clear hK8 K8))
      refine wp_block ?_
      (refine wp_seq_k ?_; intro K9 hK9)
      refine wp_region_lit ?_
      (refine wpl_v S rfl rfl rfl (sv_pure S rfl) ?_; clear S a; intro a S)
      (refine wpl_v S rfl rfl rfl (sv_pure S rfl) ?_; clear S a; intro a S)
      (refine wpl_v S rfl rfl rfl (sv_pure S rfl) ?_; clear S a; intro a S)
      refine wpl_guard S rfl rfl rfl rfl rfl ?_ ?_
      · (intro h S'; clear S; have S := S'; clear S'; (try simp only [decide_eq_true_eq, decide_eq_false_iff_not, beq_iff_eq, bne_iff_ne, beq_eq_false_iff_ne, ne_eq, Bool.not_eq_true, Bool.not_eq_false, Bool.not_true, Bool.not_false, Int.ofNat_lt, Int.ofNat_le, Nat.not_lt, Nat.not_le] at h))
        (refine wpl_v S rfl rfl rfl (sv_pure S rfl) ?_; clear S a; intro a S)
        refine wpl_take S rfl rfl rfl ?_
        (refine wpl_v S rfl rfl rfl (sv_pure S rfl) ?_; clear S a; intro a S)
        first | (refine wpl_v S rfl rfl rfl (sv_pure S rfl) ?_; clear S a; intro a S) | (refine wpl_v S rfl rfl rfl (sv_pickB S rfl rfl rfl rfl) ?_; clear S a; intro a S)
        (refine wpl_v S rfl rfl rfl (sv_pure S rfl) ?_; clear S a; intro a S)
        refine wpList_nil ?_
        (refine hK9 _ _ ?_; try (clear hK9 K9))
        refine wpc_split S rfl (fun h => ?_) (fun h => ?_)
        · (skip; (try simp only [decide_eq_true_eq, decide_eq_false_iff_not, beq_iff_eq, bne_iff_ne, beq_eq_false_iff_ne, ne_eq, Bool.not_eq_true, Bool.not_eq_false, Bool.not_true, Bool.not_false, Int.ofNat_lt, Int.ofNat_le, Nat.not_lt, Nat.not_le] at h))
          refine wp_region_lit ?_
          (refine wpl_v S rfl rfl rfl (sv_pure S rfl) ?_; clear S a; intro a S)
          (refine wpl_v S rfl rfl rfl (sv_pure S rfl) ?_; clear S a; intro a S)
          (refine wpl_append S rfl rfl rfl rfl rfl rfl rfl rfl rfl rfl rfl (fun _ => rfl) hown (by rfl) (by simp [Value.cells, splice]) (by simp [Value.cells, Value.oneCell', splice]) rfl (by rfl) (by rfl) rfl (by omega) (by omega) ?_; clear hown S a; intro v u g a w hown S)
          (refine wpl_v S rfl rfl rfl (sv_pure S rfl) ?_; clear S a; intro a S)
          refine wpList_nil ?_
          (refine hK7 _ _ ?_; try (clear hK7 K7))
          refine wp_region_lit ?_
          (refine wpl_v S rfl rfl rfl (sv_add S rfl rfl rfl (by first | omega | (simp only [List.length_append, List.length_cons, List.length_nil]; omega))) ?_; clear S a; intro a S)
          (refine wpl_v S rfl rfl rfl (sv_pure S rfl) ?_; clear S a; intro a S)
          refine wpList_nil ?_
          change ∃ m', _ ∧ _
          (refine ⟨l.length - (k + 1), by omega, k + 1, v, g, rfl, by omega, ?_, ?_⟩; rotate_left 1; (refine S.keep ?_; repeat (first | exact trivial | refine ⟨rfl, ?_⟩)); first | (refine ownQ (by omega) [92, l.getD k 0] ?_ ?_ rfl hown; (focus (first | rfl | (unfold esc; (repeat (first | rw [if_pos (by omega)] | rw [if_neg (by omega)])); done))); (focus (first | rfl | (simp [u8s, Value.cells, hexd]; done)))) | (refine ownQ (by omega) [92, 110] ?_ ?_ rfl hown; (focus (first | rfl | (unfold esc; (repeat (first | rw [if_pos (by omega)] | rw [if_neg (by omega)])); done))); (focus (first | rfl | (simp [u8s, Value.cells, hexd]; done)))) | (refine ownQ (by omega) [92, 116] ?_ ?_ rfl hown; (focus (first | rfl | (unfold esc; (repeat (first | rw [if_pos (by omega)] | rw [if_neg (by omega)])); done))); (focus (first | rfl | (simp [u8s, Value.cells, hexd]; done)))) | (refine ownQ (by omega) [92, 120, hexd ((l.getD k 0).toNat / 16), hexd ((l.getD k 0).toNat % 16)] ?_ ?_ rfl hown; (focus (first | rfl | (unfold esc; (repeat (first | rw [if_pos (by omega)] | rw [if_neg (by omega)])); done))); (focus (first | rfl | (simp [u8s, Value.cells, hexd]; done)))) | (refine ownQ (by omega) [l.getD k 0] ?_ ?_ rfl hown; (focus (first | rfl | (unfold esc; (repeat (first | rw [if_pos (by omega)] | rw [if_neg (by omega)])); done))); (focus (first | rfl | (simp [u8s, Value.cells, hexd]; done)))))
        · (skip; (try simp only [decide_eq_true_eq, decide_eq_false_iff_not, beq_iff_eq, bne_iff_ne, beq_eq_false_iff_ne, ne_eq, Bool.not_eq_true, Bool.not_eq_false, Bool.not_true, Bool.not_false, Int.ofNat_lt, Int.ofNat_le, Nat.not_lt, Nat.not_le] at h))
          (refine wp_seq_k ?_; intro K10 hK10)
          refine wp_region_lit ?_
          (refine wpl_v S rfl rfl rfl (sv_pure S rfl) ?_; clear S a; intro a S)
          (refine wpl_v S rfl rfl rfl (sv_pure S rfl) ?_; clear S a; intro a S)
          (refine wpl_v S rfl rfl rfl (sv_pure S rfl) ?_; clear S a; intro a S)
          refine wpList_nil ?_
          (refine hK10 _ _ ?_; try (clear hK10 K10))
          refine wpc_split S rfl (fun h => ?_) (fun h => ?_)
          · (skip; (try simp only [decide_eq_true_eq, decide_eq_false_iff_not, beq_iff_eq, bne_iff_ne, beq_eq_false_iff_ne, ne_eq, Bool.not_eq_true, Bool.not_eq_false, Bool.not_true, Bool.not_false, Int.ofNat_lt, Int.ofNat_le, Nat.not_lt, Nat.not_le] at h))
            refine wp_region_lit ?_
            (refine wpl_v S rfl rfl rfl (sv_pure S rfl) ?_; clear S a; intro a S)
            (refine wpl_appendStr S rfl rfl rfl rfl rfl rfl hown (by rfl) (by simp) (by simp only [List.length_cons, List.length_nil]; omega) (by simp only [List.length_cons, List.length_nil]; omega) ?_; clear hown S a; intro v g a w hown S)
            (refine wpl_v S rfl rfl rfl (sv_pure S rfl) ?_; clear S a; intro a S)
            refine wpList_nil ?_
            (refine hK7 _ _ ?_; try (clear hK7 K7))
            refine wp_region_lit ?_
            (refine wpl_v S rfl rfl rfl (sv_add S rfl rfl rfl (by first | omega | (simp only [List.length_append, List.length_cons, List.length_nil]; omega))) ?_; clear S a; intro a S)
            (refine wpl_v S rfl rfl rfl (sv_pure S rfl) ?_; clear S a; intro a S)
            refine wpList_nil ?_
            change ∃ m', _ ∧ _
            (refine ⟨l.length - (k + 1), by omega, k + 1, v, g, rfl, by omega, ?_, ?_⟩; rotate_left 1; (refine S.keep ?_; repeat (first | exact trivial | refine ⟨rfl, ?_⟩)); first | (refine ownQ (by omega) [92, l.getD k 0] ?_ ?_ rfl hown; (focus (first | rfl | (unfold esc; (repeat (first | rw [if_pos (by omega)] | rw [if_neg (by omega)])); done))); (focus (first | rfl | (simp [u8s, Value.cells, hexd]; done)))) | (refine ownQ (by omega) [92, 110] ?_ ?_ rfl hown; (focus (first | rfl | (unfold esc; (repeat (first | rw [if_pos (by omega)] | rw [if_neg (by omega)])); done))); (focus (first | rfl | (simp [u8s, Value.cells, hexd]; done)))) | (refine ownQ (by omega) [92, 116] ?_ ?_ rfl hown; (focus (first | rfl | (unfold esc; (repeat (first | rw [if_pos (by omega)] | rw [if_neg (by omega)])); done))); (focus (first | rfl | (simp [u8s, Value.cells, hexd]; done)))) | (refine ownQ (by omega) [92, 120, hexd ((l.getD k 0).toNat / 16), hexd ((l.getD k 0).toNat % 16)] ?_ ?_ rfl hown; (focus (first | rfl | (unfold esc; (repeat (first | rw [if_pos (by omega)] | rw [if_neg (by omega)])); done))); (focus (first | rfl | (simp [u8s, Value.cells, hexd]; done)))) | (refine ownQ (by omega) [l.getD k 0] ?_ ?_ rfl hown; (focus (first | rfl | (unfold esc; (repeat (first | rw [if_pos (by omega)] | rw [if_neg (by omega)])); done))); (focus (first | rfl | (simp [u8s, Value.cells, hexd]; done)))))
          · (skip; (try simp only [decide_eq_true_eq, decide_eq_false_iff_not, beq_iff_eq, bne_iff_ne, beq_eq_false_iff_ne, ne_eq, Bool.not_eq_true, Bool.not_eq_false, Bool.not_true, Bool.not_false, Int.ofNat_lt, Int.ofNat_le, Nat.not_lt, Nat.not_le] at h))
            (refine wp_seq_k ?_; intro K11 hK11)
            refine wp_region_lit ?_
            (refine wpl_v S rfl rfl rfl (sv_pure S rfl) ?_; clear S a; intro a S)
            (refine wpl_v S rfl rfl rfl (sv_pure S rfl) ?_; clear S a; intro a S)
            (refine wpl_v S rfl rfl rfl (sv_pure S rfl) ?_; clear S a; intro a S)
            refine wpList_nil ?_
            (refine hK11 _ _ ?_; try (clear hK11 K11))
            refine wpc_split S rfl (fun h => ?_) (fun h => ?_)
            · (skip; (try simp only [decide_eq_true_eq, decide_eq_false_iff_not, beq_iff_eq, bne_iff_ne, beq_eq_false_iff_ne, ne_eq, Bool.not_eq_true, Bool.not_eq_false, Bool.not_true, Bool.not_false, Int.ofNat_lt, Int.ofNat_le, Nat.not_lt, Nat.not_le] at h))
              refine wp_region_lit ?_
              (refine wpl_v S rfl rfl rfl (sv_pure S rfl) ?_; clear S a; intro a S)
              (refine wpl_appendStr S rfl rfl rfl rfl rfl rfl hown (by rfl) (by simp) (by simp only [List.length_cons, List.length_nil]; omega) (by simp only [List.length_cons, List.length_nil]; omega) ?_; clear hown S a; intro v g a w hown S)
              (refine wpl_v S rfl rfl rfl (sv_pure S rfl) ?_; clear S a; intro a S)
              refine wpList_nil ?_
              (refine hK7 _ _ ?_; try (clear hK7 K7))
              refine wp_region_lit ?_
              (refine wpl_v S rfl rfl rfl (sv_add S rfl rfl rfl (by first | omega | (simp only [List.length_append, List.length_cons, List.length_nil]; omega))) ?_; clear S a; intro a S)
              (refine wpl_v S rfl rfl rfl (sv_pure S rfl) ?_; clear S a; intro a S)
              refine wpList_nil ?_
              change ∃ m', _ ∧ _
              (refine ⟨l.length - (k + 1), by omega, k + 1, v, g, rfl, by omega, ?_, ?_⟩; rotate_left 1; (refine S.keep ?_; repeat (first | exact trivial | refine ⟨rfl, ?_⟩)); first | (refine ownQ (by omega) [92, l.getD k 0] ?_ ?_ rfl hown; (focus (first | rfl | (unfold esc; (repeat (first | rw [if_pos (by omega)] | rw [if_neg (by omega)])); done))); (focus (first | rfl | (simp [u8s, Value.cells, hexd]; done)))) | (refine ownQ (by omega) [92, 110] ?_ ?_ rfl hown; (focus (first | rfl | (unfold esc; (repeat (first | rw [if_pos (by omega)] | rw [if_neg (by omega)])); done))); (focus (first | rfl | (simp [u8s, Value.cells, hexd]; done)))) | (refine ownQ (by omega) [92, 116] ?_ ?_ rfl hown; (focus (first | rfl | (unfold esc; (repeat (first | rw [if_pos (by omega)] | rw [if_neg (by omega)])); done))); (focus (first | rfl | (simp [u8s, Value.cells, hexd]; done)))) | (refine ownQ (by omega) [92, 120, hexd ((l.getD k 0).toNat / 16), hexd ((l.getD k 0).toNat % 16)] ?_ ?_ rfl hown; (focus (first | rfl | (unfold esc; (repeat (first | rw [if_pos (by omega)] | rw [if_neg (by omega)])); done))); (focus (first | rfl | (simp [u8s, Value.cells, hexd]; done)))) | (refine ownQ (by omega) [l.getD k 0] ?_ ?_ rfl hown; (focus (first | rfl | (unfold esc; (repeat (first | rw [if_pos (by omega)] | rw [if_neg (by omega)])); done))); (focus (first | rfl | (simp [u8s, Value.cells, hexd]; done)))))
            · (skip; (try simp only [decide_eq_true_eq, decide_eq_false_iff_not, beq_iff_eq, bne_iff_ne, beq_eq_false_iff_ne, ne_eq, Bool.not_eq_true, Bool.not_eq_false, Bool.not_true, Bool.not_false, Int.ofNat_lt, Int.ofNat_le, Nat.not_lt, Nat.not_le] at h))
              (refine wp_seq_k ?_; intro K12 hK12)
              refine wp_region_lit ?_
              (refine wpl_v S rfl rfl rfl (sv_pure S rfl) ?_; clear S a; intro a S)
              (refine wpl_v S rfl rfl rfl (sv_pure S rfl) ?_; clear S a; intro a S)
              (refine wpl_v S rfl rfl rfl (sv_pure S rfl) ?_; clear S a; intro a S)
              refine wpl_guard S rfl rfl rfl rfl rfl ?_ ?_
              · (intro h S'; clear S; have S := S'; clear S'; (try simp only [decide_eq_true_eq, decide_eq_false_iff_not, beq_iff_eq, bne_iff_ne, beq_eq_false_iff_ne, ne_eq, Bool.not_eq_true, Bool.not_eq_false, Bool.not_true, Bool.not_false, Int.ofNat_lt, Int.ofNat_le, Nat.not_lt, Nat.not_le] at h))
                (refine wpl_v S rfl rfl rfl (sv_pure S rfl) ?_; clear S a; intro a S)
                refine wpl_take S rfl rfl rfl ?_
                (refine wpl_v S rfl rfl rfl (sv_pure S rfl) ?_; clear S a; intro a S)
                first | (refine wpl_v S rfl rfl rfl (sv_pure S rfl) ?_; clear S a; intro a S) | (refine wpl_v S rfl rfl rfl (sv_pickB S rfl rfl rfl rfl) ?_; clear S a; intro a S)
                (refine wpl_v S rfl rfl rfl (sv_pure S rfl) ?_; clear S a; intro a S)
                refine wpList_nil ?_
                (refine hK12 _ _ ?_; try (clear hK12 K12))
                refine wpc_split S rfl (fun h => ?_) (fun h => ?_)
                · (skip; (try simp only [decide_eq_true_eq, decide_eq_false_iff_not, beq_iff_eq, bne_iff_ne, beq_eq_false_iff_ne, ne_eq, Bool.not_eq_true, Bool.not_eq_false, Bool.not_true, Bool.not_false, Int.ofNat_lt, Int.ofNat_le, Nat.not_lt, Nat.not_le] at h))
                  (refine wpc_mix 7 S mixed rfl (by kernel_rfl) ?_; clear S; intro w S; simp only [List.take_succ_cons, List.take_zero, List.drop_succ_cons, List.drop_zero])
                  (refine wpp_v S rfl rfl rfl rfl (fun _ S => sv_pure S rfl) ?_; clear S a; intro a S)
                  (refine wpp_v S rfl rfl rfl rfl (fun _ S => sv_pure S rfl) ?_; clear S a; intro a S)
                  (refine wpp_v S rfl rfl rfl rfl (fun _ S => sv_quo8 S rfl rfl rfl (by first | omega | (simp only [List.length_append, List.length_cons, List.length_nil]; omega))) ?_; clear S a; intro a S)
                  first | (refine wpp_v S rfl rfl rfl rfl (fun _ S => sv_indexSN S rfl rfl rfl (by first | omega | (simp only [List.length_append, List.length_cons, List.length_nil]; omega))) ?_; clear S a; intro a S) | (refine wpp_v S rfl rfl rfl rfl (fun _ S => sv_indexS S rfl rfl rfl (by first | omega | (simp only [List.length_append, List.length_cons, List.length_nil]; omega))) ?_; clear S a; intro a S)
                  (refine wpp_v S rfl rfl rfl rfl (fun _ S => sv_pure S rfl) ?_; clear S a; intro a S)
                  (refine wpp_v S rfl rfl rfl rfl (fun _ S => sv_rem8 S rfl rfl rfl (by first | omega | (simp only [List.length_append, List.length_cons, List.length_nil]; omega))) ?_; clear S a; intro a S)
                  first | (refine wpp_v S rfl rfl rfl rfl (fun _ S => sv_indexSN S rfl rfl rfl (by first | omega | (simp only [List.length_append, List.length_cons, List.length_nil]; omega))) ?_; clear S a; intro a S) | (refine wpp_v S rfl rfl rfl rfl (fun _ S => sv_indexS S rfl rfl rfl (by first | omega | (simp only [List.length_append, List.length_cons, List.length_nil]; omega))) ?_; clear S a; intro a S)
                  refine wpp_nil ?_
                  (refine wpl_append S rfl rfl rfl rfl rfl rfl rfl rfl rfl rfl rfl (fun _ => rfl) hown (by rfl) (by simp [Value.cells, splice]) (by simp [Value.cells, Value.oneCell', splice]) rfl (by rfl) (by rfl) rfl (by omega) (by omega) ?_; clear hown S a; intro v u g a w hown S)
                  (refine wpl_v S rfl rfl rfl (sv_pure S rfl) ?_; clear S a; intro a S)
                  refine wpList_nil ?_
                  (refine hK7 _ _ ?_; try (clear hK7 K7))
                  refine wp_region_lit ?_
                  (refine wpl_v S rfl rfl rfl (sv_add S rfl rfl rfl (by first | omega | (simp only [List.length_append, List.length_cons, List.length_nil]; omega))) ?_; clear S a; intro a S)
                  (refine wpl_v S rfl rfl rfl (sv_pure S rfl) ?_; clear S a; intro a S)
                  refine wpList_nil ?_
                  change ∃ m', _ ∧ _
                  (refine ⟨l.length - (k + 1), by omega, k + 1, v, g, rfl, by omega, ?_, ?_⟩; rotate_left 1; (refine S.keep ?_; repeat (first | exact trivial | refine ⟨rfl, ?_⟩)); first | (refine ownQ (by omega) [92, l.getD k 0] ?_ ?_ rfl hown; (focus (first | rfl | (unfold esc; (repeat (first | rw [if_pos (by omega)] | rw [if_neg (by omega)])); done))); (focus (first | rfl | (simp [u8s, Value.cells, hexd]; done)))) | (refine ownQ (by omega) [92, 110] ?_ ?_ rfl hown; (focus (first | rfl | (unfold esc; (repeat (first | rw [if_pos (by omega)] | rw [if_neg (by omega)])); done))); (focus (first | rfl | (simp [u8s, Value.cells, hexd]; done)))) | (refine ownQ (by omega) [92, 116] ?_ ?_ rfl hown; (focus (first | rfl | (unfold esc; (repeat (first | rw [if_pos (by omega)] | rw [if_neg (by omega)])); done))); (focus (first | rfl | (simp [u8s, Value.cells, hexd]; done)))) | (refine ownQ (by omega) [92, 120, hexd ((l.getD k 0).toNat / 16), hexd ((l.getD k 0).toNat % 16)] ?_ ?_ rfl hown; (focus (first | rfl | (unfold esc; (repeat (first | rw [if_pos (by omega)] | rw [if_neg (by omega)])); done))); (focus (first | rfl | (simp [u8s, Value.cells, hexd]; done)))) | (refine ownQ (by omega) [l.getD k 0] ?_ ?_ rfl hown; (focus (first | rfl | (unfold esc; (repeat (first | rw [if_pos (by omega)] | rw [if_neg (by omega)])); done))); (focus (first | rfl | (simp [u8s, Value.cells, hexd]; done)))))
                · (skip; (try simp only [decide_eq_true_eq, decide_eq_false_iff_not, beq_iff_eq, bne_iff_ne, beq_eq_false_iff_ne, ne_eq, Bool.not_eq_true, Bool.not_eq_false, Bool.not_true, Bool.not_false, Int.ofNat_lt, Int.ofNat_le, Nat.not_lt, Nat.not_le] at h))
                  refine wp_region_lit ?_
                  (refine wpl_v S rfl rfl rfl (sv_pure S rfl) ?_; clear S a; intro a S)
                  (refine wpl_v S rfl rfl rfl (sv_pure S rfl) ?_; clear S a; intro a S)
                  (refine wpl_append S rfl rfl rfl rfl rfl rfl rfl rfl rfl rfl rfl (fun _ => rfl) hown (by rfl) (by simp [Value.cells, splice]) (by simp [Value.cells, Value.oneCell', splice]) rfl (by rfl) (by rfl) rfl (by omega) (by omega) ?_; clear hown S a; intro v u g a w hown S)
                  (refine wpl_v S rfl rfl rfl (sv_pure S rfl) ?_; clear S a; intro a S)
                  refine wpList_nil ?_
                  (refine hK7 _ _ ?_; try (clear hK7 K7))
                  refine wp_region_lit ?_
                  (refine wpl_v S rfl rfl rfl (sv_add S rfl rfl rfl (by first | omega | (simp only [List.length_append, List.length_cons, List.length_nil]; omega))) ?_; clear S a; intro a S)
                  (refine wpl_v S rfl rfl rfl (sv_pure S rfl) ?_; clear S a; intro a S)
                  refine wpList_nil ?_
                  change ∃ m', _ ∧ _
                  (refine ⟨l.length - (k + 1), by omega, k + 1, v, g, rfl, by omega, ?_, ?_⟩; rotate_left 1; (refine S.keep ?_; repeat (first | exact trivial | refine ⟨rfl, ?_⟩)); first | (refine ownQ (by omega) [92, l.getD k 0] ?_ ?_ rfl hown; (focus (first | rfl | (unfold esc; (repeat (first | rw [if_pos (by omega)] | rw [if_neg (by omega)])); done))); (focus (first | rfl | (simp [u8s, Value.cells, hexd]; done)))) | (refine ownQ (by omega) [92, 110] ?_ ?_ rfl hown; (focus (first | rfl | (unfold esc; (repeat (first | rw [if_pos (by omega)] | rw [if_neg (by omega)])); done))); (focus (first | rfl | (simp [u8s, Value.cells, hexd]; done)))) | (refine ownQ (by omega) [92, 116] ?_ ?_ rfl hown; (focus (first | rfl | (unfold esc; (repeat (first | rw [if_pos (by omega)] | rw [if_neg (by omega)])); done))); (focus (first | rfl | (simp [u8s, Value.cells, hexd]; done)))) | (refine ownQ (by omega) [92, 120, hexd ((l.getD k 0).toNat / 16), hexd ((l.getD k 0).toNat % 16)] ?_ ?_ rfl hown; (focus (first | rfl | (unfold esc; (repeat (first | rw [if_pos (by omega)] | rw [if_neg (by omega)])); done))); (focus (first | rfl | (simp [u8s, Value.cells, hexd]; done)))) | (refine ownQ (by omega) [l.getD k 0] ?_ ?_ rfl hown; (focus (first | rfl | (unfold esc; (repeat (first | rw [if_pos (by omega)] | rw [if_neg (by omega)])); done))); (focus (first | rfl | (simp [u8s, Value.cells, hexd]; done)))))
              · (intro h; clear S a; intro a S; (try simp only [decide_eq_true_eq, decide_eq_false_iff_not, beq_iff_eq, bne_iff_ne, beq_eq_false_iff_ne, ne_eq, Bool.not_eq_true, Bool.not_eq_false, Bool.not_true, Bool.not_false, Int.ofNat_lt, Int.ofNat_le, Nat.not_lt, Nat.not_le] at h))
                (refine wpl_skip S rfl rfl rfl rfl rfl ?_; clear S a; intro a S)
                first | (refine wpl_v S rfl rfl rfl (sv_pure S rfl) ?_; clear S a; intro a S) | (refine wpl_v S rfl rfl rfl (sv_pickB S rfl rfl rfl rfl) ?_; clear S a; intro a S)
                (refine wpl_v S rfl rfl rfl (sv_pure S rfl) ?_; clear S a; intro a S)
                refine wpList_nil ?_
                (refine hK12 _ _ ?_; try (clear hK12 K12))
                refine wpc_true S rfl ?_
                (refine wpc_mix 7 S mixed rfl (by kernel_rfl) ?_; clear S; intro w S; simp only [List.take_succ_cons, List.take_zero, List.drop_succ_cons, List.drop_zero])
                (refine wpp_v S rfl rfl rfl rfl (fun _ S => sv_pure S rfl) ?_; clear S a; intro a S)
                (refine wpp_v S rfl rfl rfl rfl (fun _ S => sv_pure S rfl) ?_; clear S a; intro a S)
                (refine wpp_v S rfl rfl rfl rfl (fun _ S => sv_quo8 S rfl rfl rfl (by first | omega | (simp only [List.length_append, List.length_cons, List.length_nil]; omega))) ?_; clear S a; intro a S)
                first | (refine wpp_v S rfl rfl rfl rfl (fun _ S => sv_indexSN S rfl rfl rfl (by first | omega | (simp only [List.length_append, List.length_cons, List.length_nil]; omega))) ?_; clear S a; intro a S) | (refine wpp_v S rfl rfl rfl rfl (fun _ S => sv_indexS S rfl rfl rfl (by first | omega | (simp only [List.length_append, List.length_cons, List.length_nil]; omega))) ?_; clear S a; intro a S)
                (refine wpp_v S rfl rfl rfl rfl (fun _ S => sv_pure S rfl) ?_; clear S a; intro a S)
                (refine wpp_v S rfl rfl rfl rfl (fun _ S => sv_rem8 S rfl rfl rfl (by first | omega | (simp only [List.length_append, List.length_cons, List.length_nil]; omega))) ?_; clear S a; intro a S)
                first | (refine wpp_v S rfl rfl rfl rfl (fun _ S => sv_indexSN S rfl rfl rfl (by first | omega | (simp only [List.length_append, List.length_cons, List.length_nil]; omega))) ?_; clear S a; intro a S) | (refine wpp_v S rfl rfl rfl rfl (fun _ S => sv_indexS S rfl rfl rfl (by first | omega | (simp only [List.length_append, List.length_cons, List.length_nil]; omega))) ?_; clear S a; intro a S)
                refine wpp_nil ?_
                (refine wpl_append S rfl rfl rfl rfl rfl rfl rfl rfl rfl rfl rfl (fun _ => rfl) hown (by rfl) (by simp [Value.cells, splice]) (by simp [Value.cells, Value.oneCell', splice]) rfl (by rfl) (by rfl) rfl (by omega) (by omega) ?_; clear hown S a; intro v u g a w hown S)
                (refine wpl_v S rfl rfl rfl (sv_pure S rfl) ?_; clear S a; intro a S)
                refine wpList_nil ?_
                (refine hK7 _ _ ?_; try (clear hK7 K7))
                refine wp_region_lit ?_
                (refine wpl_v S rfl rfl rfl (sv_add S rfl rfl rfl (by first | omega | (simp only [List.length_append, List.length_cons, List.length_nil]; omega))) ?_; clear S a; intro a S)
                (refine wpl_v S rfl rfl rfl (sv_pure S rfl) ?_; clear S a; intro a S)
                refine wpList_nil ?_
                change ∃ m', _ ∧ _
                (refine ⟨l.length - (k + 1), by omega, k + 1, v, g, rfl, by omega, ?_, ?_⟩; rotate_left 1; (refine S.keep ?_; repeat (first | exact trivial | refine ⟨rfl, ?_⟩)); first | (refine ownQ (by omega) [92, l.getD k 0] ?_ ?_ rfl hown; (focus (first | rfl | (unfold esc; (repeat (first | rw [if_pos (by omega)] | rw [if_neg (by omega)])); done))); (focus (first | rfl | (simp [u8s, Value.cells, hexd]; done)))) | (refine ownQ (by omega) [92, 110] ?_ ?_ rfl hown; (focus (first | rfl | (unfold esc; (repeat (first | rw [if_pos (by omega)] | rw [if_neg (by omega)])); done))); (focus (first | rfl | (simp [u8s, Value.cells, hexd]; done)))) | (refine ownQ (by omega) [92, 116] ?_ ?_ rfl hown; (focus (first | rfl | (unfold esc; (repeat (first | rw [if_pos (by omega)] | rw [if_neg (by omega)])); done))); (focus (first | rfl | (simp [u8s, Value.cells, hexd]; done)))) | (refine ownQ (by omega) [92, 120, hexd ((l.getD k 0).toNat / 16), hexd ((l.getD k 0).toNat % 16)] ?_ ?_ rfl hown; (focus (first | rfl | (unfold esc; (repeat (first | rw [if_pos (by omega)] | rw [if_neg (by omega)])); done))); (focus (first | rfl | (simp [u8s, Value.cells, hexd]; done)))) | (refine ownQ (by omega) [l.getD k 0] ?_ ?_ rfl hown; (focus (first | rfl | (unfold esc; (repeat (first | rw [if_pos (by omega)] | rw [if_neg (by omega)])); done))); (focus (first | rfl | (simp [u8s, Value.cells, hexd]; done)))))
      · (intro h; clear S a; intro a S; (try simp only [decide_eq_true_eq, decide_eq_false_iff_not, beq_iff_eq, bne_iff_ne, beq_eq_false_iff_ne, ne_eq, Bool.not_eq_true, Bool.not_eq_false, Bool.not_true, Bool.not_false, Int.ofNat_lt, Int.ofNat_le, Nat.not_lt, Nat.not_le] at h))
        (refine wpl_skip S rfl rfl rfl rfl rfl ?_; clear S a; intro a S)
        first | (refine wpl_v S rfl rfl rfl (sv_pure S rfl) ?_; clear S a; intro a S) | (refine wpl_v S rfl rfl rfl (sv_pickB S rfl rfl rfl rfl) ?_; clear S a; intro a S)
        (refine wpl_v S rfl rfl rfl (sv_pure S rfl) ?_; clear S a; intro a S)
        refine wpList_nil ?_
        (refine hK9 _ _ ?_; try (clear hK9 K9))
        refine wpc_true S rfl ?_
        refine wp_region_lit ?_
        (refine wpl_v S rfl rfl rfl (sv_pure S rfl) ?_; clear S a; intro a S)
        (refine wpl_v S rfl rfl rfl (sv_pure S rfl) ?_; clear S a; intro a S)
        (refine wpl_append S rfl rfl rfl rfl rfl rfl rfl rfl rfl rfl rfl (fun _ => rfl) hown (by rfl) (by simp [Value.cells, splice]) (by simp [Value.cells, Value.oneCell', splice]) rfl (by rfl) (by rfl) rfl (by omega) (by omega) ?_; clear hown S a; intro v u g a w hown S)
        (refine wpl_v S rfl rfl rfl (sv_pure S rfl) ?_; clear S a; intro a S)
        refine wpList_nil ?_
        (refine hK7 _ _ ?_; try (clear hK7 K7))
        refine wp_region_lit ?_
        (refine wpl_v S rfl rfl rfl (sv_add S rfl rfl rfl (by first | omega | (simp only [List.length_append, List.length_cons, List.length_nil]; omega))) ?_; clear S a; intro a S)
        (refine wpl_v S rfl rfl rfl (sv_pure S rfl) ?_; clear S a; intro a S)
        refine wpList_nil ?_
        change ∃ m', _ ∧ _
        (refine ⟨l.length - (k + 1), by omega, k + 1, v, g, rfl, by omega, ?_, ?_⟩; rotate_left 1; (refine S.keep ?_; repeat (first | exact trivial | refine ⟨rfl, ?_⟩)); first | (refine ownQ (by omega) [92, l.getD k 0] ?_ ?_ rfl hown; (focus (first | rfl | (unfold esc; (repeat (first | rw [if_pos (by omega)] | rw [if_neg (by omega)])); done))); (focus (first | rfl | (simp [u8s, Value.cells, hexd]; done)))) | (refine ownQ (by omega) [92, 110] ?_ ?_ rfl hown; (focus (first | rfl | (unfold esc; (repeat (first | rw [if_pos (by omega)] | rw [if_neg (by omega)])); done))); (focus (first | rfl | (simp [u8s, Value.cells, hexd]; done)))) | (refine ownQ (by omega) [92, 116] ?_ ?_ rfl hown; (focus (first | rfl | (unfold esc; (repeat (first | rw [if_pos (by omega)] | rw [if_neg (by omega)])); done))); (focus (first | rfl | (simp [u8s, Value.cells, hexd]; done)))) | (refine ownQ (by omega) [92, 120, hexd ((l.getD k 0).toNat / 16), hexd ((l.getD k 0).toNat % 16)] ?_ ?_ rfl hown; (focus (first | rfl | (unfold esc; (repeat (first | rw [if_pos (by omega)] | rw [if_neg (by omega)])); done))); (focus (first | rfl | (simp [u8s, Value.cells, hexd]; done)))) | (refine ownQ (by omega) [l.getD k 0] ?_ ?_ rfl hown; (focus (first | rfl | (unfold esc; (repeat (first | rw [if_pos (by omega)] | rw [if_neg (by omega)])); done))); (focus (first | rfl | (simp [u8s, Value.cells, hexd]; done)))))
    · (skip; (try simp only [decide_eq_true_eq, decide_eq_false_iff_not, beq_iff_eq, bne_iff_ne, beq_eq_false_iff_ne, ne_eq, Bool.not_eq_true, Bool.not_eq_false, Bool.not_true, Bool.not_false, Int.ofNat_lt, Int.ofNat_le, Nat.not_lt, Nat.not_le] at h))
      refine wp_exit ?_
      (refine hK3 _ _ ?_; try (clear hK3 K3))
      (refine wp_seq_k ?_; intro K7 hK7)
      refine wp_region_lit ?_
      (refine wpl_v S rfl rfl rfl (sv_pure S rfl) ?_; clear S a; intro a S)
      (refine wpl_append S rfl rfl rfl rfl rfl rfl rfl rfl rfl rfl rfl (fun _ => rfl) hown (by rfl) (by simp [Value.cells, splice]) (by simp [Value.cells, Value.oneCell', splice]) rfl (by rfl) (by rfl) rfl (by omega) (by omega) ?_; clear hown S a; intro v u g a w hown S)
      (refine wpl_v S rfl rfl rfl (sv_toStr (l := quote (l.take k)) S rfl rfl (by simpa [quote, u8s, Value.cells] using hown)) ?_; clear S a; intro a S)
      (refine wpl_v S rfl rfl rfl (sv_pure S rfl) ?_; clear S a; intro a S)
      refine wpList_nil ?_
      (refine hK7 _ _ ?_; try (clear hK7 K7))
      refine wp_ret ?_
      refine fin_ret S (results1 Try.results7 (RV.tmp S rfl)) ?_
      (have h0 : List.take k l = l := List.take_of_length_le h; rw [h0])
end Go.Proofs.Ytpgnmnacfilnkaa
