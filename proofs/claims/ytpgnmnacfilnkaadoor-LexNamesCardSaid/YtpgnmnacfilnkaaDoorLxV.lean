/- The walks of the lexer's Quote and Show, and of strings.Join. -/
import Derived.Test.YtpgnmnacfilnkaaDoorLxU
namespace Go.Proofs.YtpgnmnacfilnkaaDoor
open Go Go.Wk Go.Lx
set_option linter.unusedSimpArgs false
set_option linter.unusedVariables false
attribute [local irreducible] Go.wpList Go.Code.wp Go.wpStill Go.Wk.wpPre Go.bodyPost Go.Calls Go.Wk.Ct Go.Wk.OwnS
attribute [local irreducible] Go.Wk.wpG Go.Wk.wpM

def u8s (l : List UInt8) : List Value := l.map fun b => Value.int .u8 b.toNat
def hexL : List UInt8 := [48, 49, 50, 51, 52, 53, 54, 55, 56, 57, 97, 98, 99, 100, 101, 102]
def hexd (n : Nat) : UInt8 := hexL.getD n 0
def esc (c : UInt8) : List UInt8 :=
  if c.toNat = 34 ∨ c.toNat = 92 then [92, c] else if c.toNat = 10 then [92, 110] else if c.toNat = 9 then [92, 116]
  else if c.toNat < 32 ∨ c.toNat = 127 then [92, 120, hexd (c.toNat / 16), hexd (c.toNat % 16)] else [c]
def quote (l : List UInt8) : List UInt8 := 34 :: l.flatMap esc ++ [34]
theorem esc_len (c : UInt8) : (esc c).length ≤ 4 := by
  unfold esc; (repeat' split) <;> simp
theorem escs_len (l : List UInt8) : (l.flatMap esc).length ≤ 4 * l.length := by
  induction l with
  | nil => simp
  | cons c r ih => have := esc_len c; simp only [List.flatMap_cons, List.length_append, List.length_cons]; omega

theorem flat_succ (l : List UInt8) (k : Nat) (h : k < l.length) : (l.take (k + 1)).flatMap esc = (l.take k).flatMap esc ++ esc (l.getD k 0) := by
  rw [List.take_succ_eq_append_getElem h, List.flatMap_append, List.getD_eq_getElem?_getD, List.getElem?_eq_getElem h]; simp
theorem ownQ {l : List UInt8} {k n : Nat} {v : Value} {g : Grp} {news : List Value} (hk : k < l.length) (e : List UInt8) (he : esc (l.getD k 0) = e) (hnews : news = u8s e) (hn : n = 1 + ((l.take k).flatMap esc).length + e.length)
    (hown : OwnS 5 1 v n (u8s (34 :: (l.take k).flatMap esc) ++ news) g) : OwnS 5 1 v (1 + ((l.take (k + 1)).flatMap esc).length) (u8s (34 :: (l.take (k + 1)).flatMap esc)) g := by
  rw [flat_succ l k hk, he]
  rw [hnews, hn] at hown
  simpa [u8s, Nat.add_assoc] using hown
theorem celU8 {F : Heap} {b k : Nat} {l : List UInt8} (h : Cels F b 0 (l.map fun c => Value.int .u8 c.toNat)) (hk : k < l.length) : Cel F b (0 + k * 1) (.int .u8 ((l.getD k 0).toNat : Nat)) := by
  have := h k (.int .u8 ((l.getD k 0).toNat : Nat)) (by rw [List.getElem?_map, List.getElem?_eq_getElem hk, List.getD_eq_getElem?_getD, List.getElem?_eq_getElem hk]; rfl)
  simpa using this

set_option maxHeartbeats 1000000 in
theorem lexQuote (l : List UInt8) (F : Heap) (hl : l.length ≤ 1000000000) : Ct Tryd.prog 15 [.string (bs l)] F [] (fun _ _ v => v = .string (bs (quote l))) := by
  refine Ct.enter Tryd.func15 rfl Tryd.ntmps15 rfl fun w0 a S => ?_
  (refine wp_seq_k ?_; intro Kq1 hKq1)
  refine wp_region_lit ?_
  (refine wpl_v S rfl rfl rfl (sv_pure S rfl) ?_; clear S a; intro a S)
  refine wpList_nil ?_
  (refine hKq1 _ _ ?_; try (clear hKq1 Kq1))
  (refine wp_seq_k ?_; intro Kq2 hKq2)
  refine wp_region_lit ?_
  (refine wpl_buildSlice S rfl rfl rfl rfl rfl rfl (by rfl) (by simp [Value.cells, splice]) rfl (by rfl) (by rfl) ?_; clear S a; intro b a w hown S)
  (refine wpl_v S rfl rfl rfl (sv_pure S rfl) ?_; clear S a; intro a S)
  refine wpList_nil ?_
  (refine hKq2 _ _ ?_; try (clear hKq2 Kq2))
  (refine wp_seq_k ?_; intro Kq3 hKq3)
  (refine wp_seq_k ?_; intro Kq4 hKq4)
  refine wp_region_lit ?_
  (refine wpl_v S rfl rfl rfl (sv_pure S rfl) ?_; clear S a; intro a S)
  (refine wpl_toBytes S rfl rfl rfl rfl rfl ?_; clear S a; intro b8 cap8 F8 a w hcel8 hcap8 hF8 S)
  (refine wpl_v S rfl rfl rfl (sv_lenSl S rfl rfl) ?_; clear S a; intro a S)
  (refine wpl_v S rfl rfl rfl (sv_pure S rfl) ?_; clear S a; intro a S)
  refine wpList_nil ?_
  (refine hKq4 _ _ ?_; try (clear hKq4 Kq4))
  refine wp_block ?_
  refine wpc_loop (fun m a w' => ∃ (k : Nat) (v : Value) (g : Grp), m = l.length - k ∧ k ≤ l.length ∧ OwnS 5 1 v (1 + ((l.take k).flatMap esc).length) (u8s (34 :: (l.take k).flatMap esc)) g ∧ St 60 [(0, .string (bs l)), (3, v), (8, .slice (some ⟨b8, 0, none⟩) l.length cap8), (9, .int .i64 l.length), (10, .int .i64 k)] w0 F [] F8 [g] a w') ?_ ?_
  · (refine ⟨l.length, 0, _, _, by simp, Nat.zero_le _, hown, ?_⟩; refine S.keep ?_; repeat (first | exact trivial | refine ⟨rfl, ?_⟩))
  · (clear hown S; rintro m a w ⟨k, v, g, rfl, hk, hown, S⟩; have hc := UInt8.toNat_lt (l.getD k 0); have hx : hexL.length = 16 := rfl; have hle := escs_len (l.take k); have htl : (l.take k).length ≤ 1000000000 := by rw [List.length_take]; omega)
    (refine wp_seq_k ?_; intro Kq5 hKq5)
    refine wp_region_lit ?_
    (refine wpl_v S rfl rfl rfl (sv_pure S rfl) ?_; clear S a; intro a S)
    refine wpList_nil ?_
    (refine hKq5 _ _ ?_; try (clear hKq5 Kq5))
    (refine wp_seq_k ?_; intro Kq6 hKq6)
    refine wpc_split S rfl (fun h => ?_) (fun h => ?_)
    · (skip; (try simp only [decide_eq_true_eq, decide_eq_false_iff_not, beq_iff_eq, bne_iff_ne, bne_eq_false_iff_eq, beq_eq_false_iff_ne, ne_eq, Bool.not_eq_true', Bool.not_eq_false', Bool.not_eq_true, Bool.not_eq_false, Bool.not_true, Bool.not_false, Int.ofNat_lt, Int.ofNat_le, Nat.not_lt, Nat.not_le] at h))
      refine wp_skip ?_
      (refine hKq6 _ _ ?_; try (clear hKq6 Kq6))
      (refine wp_seq_k ?_; intro Kq7 hKq7)
      refine wp_block ?_
      (refine wp_seq_k ?_; intro Kq8 hKq8)
      have hck := celU8 hcel8 h
      refine wp_region_lit ?_
      (refine wpl_v S rfl rfl rfl (sv_indexAddrSl S rfl rfl rfl (by first | omega | (simp only [List.length_append, List.length_cons, List.length_nil]; omega))) ?_; clear S a; intro a S)
      first | (refine wpl_v S rfl rfl rfl (sv_loadO S rfl rfl (by rfl)) ?_; clear S a; intro a S) | (refine wpl_v S rfl rfl rfl (sv_loadF S rfl rfl (by assumption)) ?_; clear S a; intro a S)
      (refine wpl_v S rfl rfl rfl (sv_pure S rfl) ?_; clear S a; intro a S)
      refine wpList_nil ?_
      (refine hKq8 _ _ ?_; try (clear hKq8 Kq8))
      refine wp_block ?_
      (refine wp_seq_k ?_; intro Kq9 hKq9)
      refine wp_region_lit ?_
      (refine wpl_v S rfl rfl rfl (sv_pure S rfl) ?_; clear S a; intro a S)
      (refine wpl_v S rfl rfl rfl (sv_pure S rfl) ?_; clear S a; intro a S)
      (refine wpl_v S rfl rfl rfl (sv_pure S rfl) ?_; clear S a; intro a S)
      refine wpl_guard S rfl rfl rfl rfl rfl ?_ ?_
      · (intro h S'; clear S; have S := S'; clear S'; (try simp only [decide_eq_true_eq, decide_eq_false_iff_not, beq_iff_eq, bne_iff_ne, bne_eq_false_iff_eq, beq_eq_false_iff_ne, ne_eq, Bool.not_eq_true', Bool.not_eq_false', Bool.not_eq_true, Bool.not_eq_false, Bool.not_true, Bool.not_false, Int.ofNat_lt, Int.ofNat_le, Nat.not_lt, Nat.not_le] at h))
        (refine wpl_v S rfl rfl rfl (sv_pure S rfl) ?_; clear S a; intro a S)
        refine wpl_take S rfl rfl rfl ?_
        (refine wpl_v S rfl rfl rfl (sv_pure S rfl) ?_; clear S a; intro a S)
        first | (refine wpl_v S rfl rfl rfl (sv_pure S rfl) ?_; clear S a; intro a S) | (refine wpl_v S rfl rfl rfl (sv_pickB S rfl rfl rfl rfl) ?_; clear S a; intro a S)
        (refine wpl_v S rfl rfl rfl (sv_pure S rfl) ?_; clear S a; intro a S)
        refine wpList_nil ?_
        (refine hKq9 _ _ ?_; try (clear hKq9 Kq9))
        refine wpc_split S rfl (fun h => ?_) (fun h => ?_)
        · (skip; (try simp only [decide_eq_true_eq, decide_eq_false_iff_not, beq_iff_eq, bne_iff_ne, bne_eq_false_iff_eq, beq_eq_false_iff_ne, ne_eq, Bool.not_eq_true', Bool.not_eq_false', Bool.not_eq_true, Bool.not_eq_false, Bool.not_true, Bool.not_false, Int.ofNat_lt, Int.ofNat_le, Nat.not_lt, Nat.not_le] at h))
          refine wp_region_lit ?_
          (refine wpl_v S rfl rfl rfl (sv_pure S rfl) ?_; clear S a; intro a S)
          (refine wpl_v S rfl rfl rfl (sv_pure S rfl) ?_; clear S a; intro a S)
          (refine wpl_append S rfl rfl rfl rfl rfl rfl rfl rfl rfl rfl rfl (fun _ => rfl) hown (by rfl) (by simp [Value.cells, splice]) (by simp [Value.cells, Value.oneCell', splice]) rfl (by rfl) (by rfl) rfl (by omega) (by omega) ?_; clear hown S a; intro v u g a w hown S)
          (refine wpl_v S rfl rfl rfl (sv_pure S rfl) ?_; clear S a; intro a S)
          refine wpList_nil ?_
          (refine hKq7 _ _ ?_; try (clear hKq7 Kq7))
          refine wp_region_lit ?_
          (refine wpl_v S rfl rfl rfl (sv_add S rfl rfl rfl (by first | omega | (simp only [List.length_append, List.length_cons, List.length_nil]; omega))) ?_; clear S a; intro a S)
          (refine wpl_v S rfl rfl rfl (sv_pure S rfl) ?_; clear S a; intro a S)
          refine wpList_nil ?_
          change ∃ m', _ ∧ _
          (refine ⟨l.length - (k + 1), by omega, k + 1, v, g, rfl, by omega, ?_, ?_⟩; rotate_left 1; (refine S.keep ?_; repeat (first | exact trivial | refine ⟨rfl, ?_⟩)); first | (refine ownQ (by omega) [92, l.getD k 0] ?_ ?_ rfl hown; (focus (first | rfl | (unfold esc; (repeat (first | rw [if_pos (by omega)] | rw [if_neg (by omega)])); done))); (focus (first | rfl | (simp [u8s, Value.cells, hexd]; done)))) | (refine ownQ (by omega) [92, 110] ?_ ?_ rfl hown; (focus (first | rfl | (unfold esc; (repeat (first | rw [if_pos (by omega)] | rw [if_neg (by omega)])); done))); (focus (first | rfl | (simp [u8s, Value.cells, hexd]; done)))) | (refine ownQ (by omega) [92, 116] ?_ ?_ rfl hown; (focus (first | rfl | (unfold esc; (repeat (first | rw [if_pos (by omega)] | rw [if_neg (by omega)])); done))); (focus (first | rfl | (simp [u8s, Value.cells, hexd]; done)))) | (refine ownQ (by omega) [92, 120, hexd ((l.getD k 0).toNat / 16), hexd ((l.getD k 0).toNat % 16)] ?_ ?_ rfl hown; (focus (first | rfl | (unfold esc; (repeat (first | rw [if_pos (by omega)] | rw [if_neg (by omega)])); done))); (focus (first | rfl | (simp [u8s, Value.cells, hexd]; done)))) | (refine ownQ (by omega) [l.getD k 0] ?_ ?_ rfl hown; (focus (first | rfl | (unfold esc; (repeat (first | rw [if_pos (by omega)] | rw [if_neg (by omega)])); done))); (focus (first | rfl | (simp [u8s, Value.cells, hexd]; done)))))
        · (skip; (try simp only [decide_eq_true_eq, decide_eq_false_iff_not, beq_iff_eq, bne_iff_ne, bne_eq_false_iff_eq, beq_eq_false_iff_ne, ne_eq, Bool.not_eq_true', Bool.not_eq_false', Bool.not_eq_true, Bool.not_eq_false, Bool.not_true, Bool.not_false, Int.ofNat_lt, Int.ofNat_le, Nat.not_lt, Nat.not_le] at h))
          (refine wp_seq_k ?_; intro Kq10 hKq10)
          refine wp_region_lit ?_
          (refine wpl_v S rfl rfl rfl (sv_pure S rfl) ?_; clear S a; intro a S)
          (refine wpl_v S rfl rfl rfl (sv_pure S rfl) ?_; clear S a; intro a S)
          (refine wpl_v S rfl rfl rfl (sv_pure S rfl) ?_; clear S a; intro a S)
          refine wpList_nil ?_
          (refine hKq10 _ _ ?_; try (clear hKq10 Kq10))
          refine wpc_split S rfl (fun h => ?_) (fun h => ?_)
          · (skip; (try simp only [decide_eq_true_eq, decide_eq_false_iff_not, beq_iff_eq, bne_iff_ne, bne_eq_false_iff_eq, beq_eq_false_iff_ne, ne_eq, Bool.not_eq_true', Bool.not_eq_false', Bool.not_eq_true, Bool.not_eq_false, Bool.not_true, Bool.not_false, Int.ofNat_lt, Int.ofNat_le, Nat.not_lt, Nat.not_le] at h))
            refine wp_region_lit ?_
            (refine wpl_v S rfl rfl rfl (sv_pure S rfl) ?_; clear S a; intro a S)
            (refine wpl_appendStr S rfl rfl rfl rfl rfl rfl hown (by rfl) (by simp) (by simp only [List.length_cons, List.length_nil]; omega) (by simp only [List.length_cons, List.length_nil]; omega) ?_; clear hown S a; intro v g a w hown S)
            (refine wpl_v S rfl rfl rfl (sv_pure S rfl) ?_; clear S a; intro a S)
            refine wpList_nil ?_
            (refine hKq7 _ _ ?_; try (clear hKq7 Kq7))
            refine wp_region_lit ?_
            (refine wpl_v S rfl rfl rfl (sv_add S rfl rfl rfl (by first | omega | (simp only [List.length_append, List.length_cons, List.length_nil]; omega))) ?_; clear S a; intro a S)
            (refine wpl_v S rfl rfl rfl (sv_pure S rfl) ?_; clear S a; intro a S)
            refine wpList_nil ?_
            change ∃ m', _ ∧ _
            (refine ⟨l.length - (k + 1), by omega, k + 1, v, g, rfl, by omega, ?_, ?_⟩; rotate_left 1; (refine S.keep ?_; repeat (first | exact trivial | refine ⟨rfl, ?_⟩)); first | (refine ownQ (by omega) [92, l.getD k 0] ?_ ?_ rfl hown; (focus (first | rfl | (unfold esc; (repeat (first | rw [if_pos (by omega)] | rw [if_neg (by omega)])); done))); (focus (first | rfl | (simp [u8s, Value.cells, hexd]; done)))) | (refine ownQ (by omega) [92, 110] ?_ ?_ rfl hown; (focus (first | rfl | (unfold esc; (repeat (first | rw [if_pos (by omega)] | rw [if_neg (by omega)])); done))); (focus (first | rfl | (simp [u8s, Value.cells, hexd]; done)))) | (refine ownQ (by omega) [92, 116] ?_ ?_ rfl hown; (focus (first | rfl | (unfold esc; (repeat (first | rw [if_pos (by omega)] | rw [if_neg (by omega)])); done))); (focus (first | rfl | (simp [u8s, Value.cells, hexd]; done)))) | (refine ownQ (by omega) [92, 120, hexd ((l.getD k 0).toNat / 16), hexd ((l.getD k 0).toNat % 16)] ?_ ?_ rfl hown; (focus (first | rfl | (unfold esc; (repeat (first | rw [if_pos (by omega)] | rw [if_neg (by omega)])); done))); (focus (first | rfl | (simp [u8s, Value.cells, hexd]; done)))) | (refine ownQ (by omega) [l.getD k 0] ?_ ?_ rfl hown; (focus (first | rfl | (unfold esc; (repeat (first | rw [if_pos (by omega)] | rw [if_neg (by omega)])); done))); (focus (first | rfl | (simp [u8s, Value.cells, hexd]; done)))))
          · (skip; (try simp only [decide_eq_true_eq, decide_eq_false_iff_not, beq_iff_eq, bne_iff_ne, bne_eq_false_iff_eq, beq_eq_false_iff_ne, ne_eq, Bool.not_eq_true', Bool.not_eq_false', Bool.not_eq_true, Bool.not_eq_false, Bool.not_true, Bool.not_false, Int.ofNat_lt, Int.ofNat_le, Nat.not_lt, Nat.not_le] at h))
            (refine wp_seq_k ?_; intro Kq11 hKq11)
            refine wp_region_lit ?_
            (refine wpl_v S rfl rfl rfl (sv_pure S rfl) ?_; clear S a; intro a S)
            (refine wpl_v S rfl rfl rfl (sv_pure S rfl) ?_; clear S a; intro a S)
            (refine wpl_v S rfl rfl rfl (sv_pure S rfl) ?_; clear S a; intro a S)
            refine wpList_nil ?_
            (refine hKq11 _ _ ?_; try (clear hKq11 Kq11))
            refine wpc_split S rfl (fun h => ?_) (fun h => ?_)
            · (skip; (try simp only [decide_eq_true_eq, decide_eq_false_iff_not, beq_iff_eq, bne_iff_ne, bne_eq_false_iff_eq, beq_eq_false_iff_ne, ne_eq, Bool.not_eq_true', Bool.not_eq_false', Bool.not_eq_true, Bool.not_eq_false, Bool.not_true, Bool.not_false, Int.ofNat_lt, Int.ofNat_le, Nat.not_lt, Nat.not_le] at h))
              refine wp_region_lit ?_
              (refine wpl_v S rfl rfl rfl (sv_pure S rfl) ?_; clear S a; intro a S)
              (refine wpl_appendStr S rfl rfl rfl rfl rfl rfl hown (by rfl) (by simp) (by simp only [List.length_cons, List.length_nil]; omega) (by simp only [List.length_cons, List.length_nil]; omega) ?_; clear hown S a; intro v g a w hown S)
              (refine wpl_v S rfl rfl rfl (sv_pure S rfl) ?_; clear S a; intro a S)
              refine wpList_nil ?_
              (refine hKq7 _ _ ?_; try (clear hKq7 Kq7))
              refine wp_region_lit ?_
              (refine wpl_v S rfl rfl rfl (sv_add S rfl rfl rfl (by first | omega | (simp only [List.length_append, List.length_cons, List.length_nil]; omega))) ?_; clear S a; intro a S)
              (refine wpl_v S rfl rfl rfl (sv_pure S rfl) ?_; clear S a; intro a S)
              refine wpList_nil ?_
              change ∃ m', _ ∧ _
              (refine ⟨l.length - (k + 1), by omega, k + 1, v, g, rfl, by omega, ?_, ?_⟩; rotate_left 1; (refine S.keep ?_; repeat (first | exact trivial | refine ⟨rfl, ?_⟩)); first | (refine ownQ (by omega) [92, l.getD k 0] ?_ ?_ rfl hown; (focus (first | rfl | (unfold esc; (repeat (first | rw [if_pos (by omega)] | rw [if_neg (by omega)])); done))); (focus (first | rfl | (simp [u8s, Value.cells, hexd]; done)))) | (refine ownQ (by omega) [92, 110] ?_ ?_ rfl hown; (focus (first | rfl | (unfold esc; (repeat (first | rw [if_pos (by omega)] | rw [if_neg (by omega)])); done))); (focus (first | rfl | (simp [u8s, Value.cells, hexd]; done)))) | (refine ownQ (by omega) [92, 116] ?_ ?_ rfl hown; (focus (first | rfl | (unfold esc; (repeat (first | rw [if_pos (by omega)] | rw [if_neg (by omega)])); done))); (focus (first | rfl | (simp [u8s, Value.cells, hexd]; done)))) | (refine ownQ (by omega) [92, 120, hexd ((l.getD k 0).toNat / 16), hexd ((l.getD k 0).toNat % 16)] ?_ ?_ rfl hown; (focus (first | rfl | (unfold esc; (repeat (first | rw [if_pos (by omega)] | rw [if_neg (by omega)])); done))); (focus (first | rfl | (simp [u8s, Value.cells, hexd]; done)))) | (refine ownQ (by omega) [l.getD k 0] ?_ ?_ rfl hown; (focus (first | rfl | (unfold esc; (repeat (first | rw [if_pos (by omega)] | rw [if_neg (by omega)])); done))); (focus (first | rfl | (simp [u8s, Value.cells, hexd]; done)))))
            · (skip; (try simp only [decide_eq_true_eq, decide_eq_false_iff_not, beq_iff_eq, bne_iff_ne, bne_eq_false_iff_eq, beq_eq_false_iff_ne, ne_eq, Bool.not_eq_true', Bool.not_eq_false', Bool.not_eq_true, Bool.not_eq_false, Bool.not_true, Bool.not_false, Int.ofNat_lt, Int.ofNat_le, Nat.not_lt, Nat.not_le] at h))
              (refine wp_seq_k ?_; intro Kq12 hKq12)
              refine wp_region_lit ?_
              (refine wpl_v S rfl rfl rfl (sv_pure S rfl) ?_; clear S a; intro a S)
              (refine wpl_v S rfl rfl rfl (sv_pure S rfl) ?_; clear S a; intro a S)
              (refine wpl_v S rfl rfl rfl (sv_pure S rfl) ?_; clear S a; intro a S)
              refine wpl_guard S rfl rfl rfl rfl rfl ?_ ?_
              · (intro h S'; clear S; have S := S'; clear S'; (try simp only [decide_eq_true_eq, decide_eq_false_iff_not, beq_iff_eq, bne_iff_ne, bne_eq_false_iff_eq, beq_eq_false_iff_ne, ne_eq, Bool.not_eq_true', Bool.not_eq_false', Bool.not_eq_true, Bool.not_eq_false, Bool.not_true, Bool.not_false, Int.ofNat_lt, Int.ofNat_le, Nat.not_lt, Nat.not_le] at h))
                (refine wpl_v S rfl rfl rfl (sv_pure S rfl) ?_; clear S a; intro a S)
                refine wpl_take S rfl rfl rfl ?_
                (refine wpl_v S rfl rfl rfl (sv_pure S rfl) ?_; clear S a; intro a S)
                first | (refine wpl_v S rfl rfl rfl (sv_pure S rfl) ?_; clear S a; intro a S) | (refine wpl_v S rfl rfl rfl (sv_pickB S rfl rfl rfl rfl) ?_; clear S a; intro a S)
                (refine wpl_v S rfl rfl rfl (sv_pure S rfl) ?_; clear S a; intro a S)
                refine wpList_nil ?_
                (refine hKq12 _ _ ?_; try (clear hKq12 Kq12))
                refine wpc_split S rfl (fun h => ?_) (fun h => ?_)
                · (skip; (try simp only [decide_eq_true_eq, decide_eq_false_iff_not, beq_iff_eq, bne_iff_ne, bne_eq_false_iff_eq, beq_eq_false_iff_ne, ne_eq, Bool.not_eq_true', Bool.not_eq_false', Bool.not_eq_true, Bool.not_eq_false, Bool.not_true, Bool.not_false, Int.ofNat_lt, Int.ofNat_le, Nat.not_lt, Nat.not_le] at h))
                  (refine wpc_mix 7 S mixed rfl (by kernel_rfl) ?_; clear S; intro w S; simp only [List.take_succ_cons, List.take_zero, List.drop_succ_cons, List.drop_zero])
                  (refine wpp_v S rfl rfl rfl rfl (fun _ S => sv_pure S rfl) ?_; clear S a; intro a S)
                  (refine wpp_v S rfl rfl rfl rfl (fun _ S => sv_pure S rfl) ?_; clear S a; intro a S)
                  (refine wpp_v S rfl rfl rfl rfl (fun _ S => sv_quo8 S rfl rfl rfl (by first | omega | (simp only [List.length_append, List.length_cons, List.length_nil]; omega))) ?_; clear S a; intro a S)
                  first | (refine wpp_v S rfl rfl rfl rfl (fun _ S => sv_indexSN S rfl rfl rfl (by first | omega | (simp only [List.length_append, List.length_cons, List.length_nil]; omega))) ?_; clear S a; intro a S) | (refine wpp_v S rfl rfl rfl rfl (fun _ S => sv_indexS S rfl rfl rfl (by first | omega | (simp only [List.length_append, List.length_cons, List.length_nil]; omega))) ?_; clear S a; intro a S)
                  (refine wpp_v S rfl rfl rfl rfl (fun _ S => sv_pure S rfl) ?_; clear S a; intro a S)
                  (refine wpp_v S rfl rfl rfl rfl (fun _ S => sv_rem8 S rfl rfl rfl (by first | omega | (simp only [List.length_append, List.length_cons, List.length_nil]; omega))) ?_; clear S a; intro a S)
                  first | (refine wpp_v S rfl rfl rfl rfl (fun _ S => sv_indexSN S rfl rfl rfl (by first | omega | (simp only [List.length_append, List.length_cons, List.length_nil]; omega))) ?_; clear S a; intro a S) | (refine wpp_v S rfl rfl rfl rfl (fun _ S => sv_indexS S rfl rfl rfl (by first | omega | (simp only [List.length_append, List.length_cons, List.length_nil]; omega))) ?_; clear S a; intro a S)
                  refine wpp_nil ?_
                  (refine wpl_append S rfl rfl rfl rfl rfl rfl rfl rfl rfl rfl rfl (fun _ => rfl) hown (by rfl) (by simp [Value.cells, splice]) (by simp [Value.cells, Value.oneCell', splice]) rfl (by rfl) (by rfl) rfl (by omega) (by omega) ?_; clear hown S a; intro v u g a w hown S)
                  (refine wpl_v S rfl rfl rfl (sv_pure S rfl) ?_; clear S a; intro a S)
                  refine wpList_nil ?_
                  (refine hKq7 _ _ ?_; try (clear hKq7 Kq7))
                  refine wp_region_lit ?_
                  (refine wpl_v S rfl rfl rfl (sv_add S rfl rfl rfl (by first | omega | (simp only [List.length_append, List.length_cons, List.length_nil]; omega))) ?_; clear S a; intro a S)
                  (refine wpl_v S rfl rfl rfl (sv_pure S rfl) ?_; clear S a; intro a S)
                  refine wpList_nil ?_
                  change ∃ m', _ ∧ _
                  (refine ⟨l.length - (k + 1), by omega, k + 1, v, g, rfl, by omega, ?_, ?_⟩; rotate_left 1; (refine S.keep ?_; repeat (first | exact trivial | refine ⟨rfl, ?_⟩)); first | (refine ownQ (by omega) [92, l.getD k 0] ?_ ?_ rfl hown; (focus (first | rfl | (unfold esc; (repeat (first | rw [if_pos (by omega)] | rw [if_neg (by omega)])); done))); (focus (first | rfl | (simp [u8s, Value.cells, hexd]; done)))) | (refine ownQ (by omega) [92, 110] ?_ ?_ rfl hown; (focus (first | rfl | (unfold esc; (repeat (first | rw [if_pos (by omega)] | rw [if_neg (by omega)])); done))); (focus (first | rfl | (simp [u8s, Value.cells, hexd]; done)))) | (refine ownQ (by omega) [92, 116] ?_ ?_ rfl hown; (focus (first | rfl | (unfold esc; (repeat (first | rw [if_pos (by omega)] | rw [if_neg (by omega)])); done))); (focus (first | rfl | (simp [u8s, Value.cells, hexd]; done)))) | (refine ownQ (by omega) [92, 120, hexd ((l.getD k 0).toNat / 16), hexd ((l.getD k 0).toNat % 16)] ?_ ?_ rfl hown; (focus (first | rfl | (unfold esc; (repeat (first | rw [if_pos (by omega)] | rw [if_neg (by omega)])); done))); (focus (first | rfl | (simp [u8s, Value.cells, hexd]; done)))) | (refine ownQ (by omega) [l.getD k 0] ?_ ?_ rfl hown; (focus (first | rfl | (unfold esc; (repeat (first | rw [if_pos (by omega)] | rw [if_neg (by omega)])); done))); (focus (first | rfl | (simp [u8s, Value.cells, hexd]; done)))))
                · (skip; (try simp only [decide_eq_true_eq, decide_eq_false_iff_not, beq_iff_eq, bne_iff_ne, bne_eq_false_iff_eq, beq_eq_false_iff_ne, ne_eq, Bool.not_eq_true', Bool.not_eq_false', Bool.not_eq_true, Bool.not_eq_false, Bool.not_true, Bool.not_false, Int.ofNat_lt, Int.ofNat_le, Nat.not_lt, Nat.not_le] at h))
                  refine wp_region_lit ?_
                  (refine wpl_v S rfl rfl rfl (sv_pure S rfl) ?_; clear S a; intro a S)
                  (refine wpl_v S rfl rfl rfl (sv_pure S rfl) ?_; clear S a; intro a S)
                  (refine wpl_append S rfl rfl rfl rfl rfl rfl rfl rfl rfl rfl rfl (fun _ => rfl) hown (by rfl) (by simp [Value.cells, splice]) (by simp [Value.cells, Value.oneCell', splice]) rfl (by rfl) (by rfl) rfl (by omega) (by omega) ?_; clear hown S a; intro v u g a w hown S)
                  (refine wpl_v S rfl rfl rfl (sv_pure S rfl) ?_; clear S a; intro a S)
                  refine wpList_nil ?_
                  (refine hKq7 _ _ ?_; try (clear hKq7 Kq7))
                  refine wp_region_lit ?_
                  (refine wpl_v S rfl rfl rfl (sv_add S rfl rfl rfl (by first | omega | (simp only [List.length_append, List.length_cons, List.length_nil]; omega))) ?_; clear S a; intro a S)
                  (refine wpl_v S rfl rfl rfl (sv_pure S rfl) ?_; clear S a; intro a S)
                  refine wpList_nil ?_
                  change ∃ m', _ ∧ _
                  (refine ⟨l.length - (k + 1), by omega, k + 1, v, g, rfl, by omega, ?_, ?_⟩; rotate_left 1; (refine S.keep ?_; repeat (first | exact trivial | refine ⟨rfl, ?_⟩)); first | (refine ownQ (by omega) [92, l.getD k 0] ?_ ?_ rfl hown; (focus (first | rfl | (unfold esc; (repeat (first | rw [if_pos (by omega)] | rw [if_neg (by omega)])); done))); (focus (first | rfl | (simp [u8s, Value.cells, hexd]; done)))) | (refine ownQ (by omega) [92, 110] ?_ ?_ rfl hown; (focus (first | rfl | (unfold esc; (repeat (first | rw [if_pos (by omega)] | rw [if_neg (by omega)])); done))); (focus (first | rfl | (simp [u8s, Value.cells, hexd]; done)))) | (refine ownQ (by omega) [92, 116] ?_ ?_ rfl hown; (focus (first | rfl | (unfold esc; (repeat (first | rw [if_pos (by omega)] | rw [if_neg (by omega)])); done))); (focus (first | rfl | (simp [u8s, Value.cells, hexd]; done)))) | (refine ownQ (by omega) [92, 120, hexd ((l.getD k 0).toNat / 16), hexd ((l.getD k 0).toNat % 16)] ?_ ?_ rfl hown; (focus (first | rfl | (unfold esc; (repeat (first | rw [if_pos (by omega)] | rw [if_neg (by omega)])); done))); (focus (first | rfl | (simp [u8s, Value.cells, hexd]; done)))) | (refine ownQ (by omega) [l.getD k 0] ?_ ?_ rfl hown; (focus (first | rfl | (unfold esc; (repeat (first | rw [if_pos (by omega)] | rw [if_neg (by omega)])); done))); (focus (first | rfl | (simp [u8s, Value.cells, hexd]; done)))))
              · (intro h; clear S a; intro a S; (try simp only [decide_eq_true_eq, decide_eq_false_iff_not, beq_iff_eq, bne_iff_ne, bne_eq_false_iff_eq, beq_eq_false_iff_ne, ne_eq, Bool.not_eq_true', Bool.not_eq_false', Bool.not_eq_true, Bool.not_eq_false, Bool.not_true, Bool.not_false, Int.ofNat_lt, Int.ofNat_le, Nat.not_lt, Nat.not_le] at h))
                (refine wpl_skip S rfl rfl rfl rfl rfl ?_; clear S a; intro a S)
                first | (refine wpl_v S rfl rfl rfl (sv_pure S rfl) ?_; clear S a; intro a S) | (refine wpl_v S rfl rfl rfl (sv_pickB S rfl rfl rfl rfl) ?_; clear S a; intro a S)
                (refine wpl_v S rfl rfl rfl (sv_pure S rfl) ?_; clear S a; intro a S)
                refine wpList_nil ?_
                (refine hKq12 _ _ ?_; try (clear hKq12 Kq12))
                refine wpc_true S rfl ?_
                (refine wpc_mix 7 S mixed rfl (by kernel_rfl) ?_; clear S; intro w S; simp only [List.take_succ_cons, List.take_zero, List.drop_succ_cons, List.drop_zero])
                (refine wpp_v S rfl rfl rfl rfl (fun _ S => sv_pure S rfl) ?_; clear S a; intro a S)
                (refine wpp_v S rfl rfl rfl rfl (fun _ S => sv_pure S rfl) ?_; clear S a; intro a S)
                (refine wpp_v S rfl rfl rfl rfl (fun _ S => sv_quo8 S rfl rfl rfl (by first | omega | (simp only [List.length_append, List.length_cons, List.length_nil]; omega))) ?_; clear S a; intro a S)
                first | (refine wpp_v S rfl rfl rfl rfl (fun _ S => sv_indexSN S rfl rfl rfl (by first | omega | (simp only [List.length_append, List.length_cons, List.length_nil]; omega))) ?_; clear S a; intro a S) | (refine wpp_v S rfl rfl rfl rfl (fun _ S => sv_indexS S rfl rfl rfl (by first | omega | (simp only [List.length_append, List.length_cons, List.length_nil]; omega))) ?_; clear S a; intro a S)
                (refine wpp_v S rfl rfl rfl rfl (fun _ S => sv_pure S rfl) ?_; clear S a; intro a S)
                (refine wpp_v S rfl rfl rfl rfl (fun _ S => sv_rem8 S rfl rfl rfl (by first | omega | (simp only [List.length_append, List.length_cons, List.length_nil]; omega))) ?_; clear S a; intro a S)
                first | (refine wpp_v S rfl rfl rfl rfl (fun _ S => sv_indexSN S rfl rfl rfl (by first | omega | (simp only [List.length_append, List.length_cons, List.length_nil]; omega))) ?_; clear S a; intro a S) | (refine wpp_v S rfl rfl rfl rfl (fun _ S => sv_indexS S rfl rfl rfl (by first | omega | (simp only [List.length_append, List.length_cons, List.length_nil]; omega))) ?_; clear S a; intro a S)
                refine wpp_nil ?_
                (refine wpl_append S rfl rfl rfl rfl rfl rfl rfl rfl rfl rfl rfl (fun _ => rfl) hown (by rfl) (by simp [Value.cells, splice]) (by simp [Value.cells, Value.oneCell', splice]) rfl (by rfl) (by rfl) rfl (by omega) (by omega) ?_; clear hown S a; intro v u g a w hown S)
                (refine wpl_v S rfl rfl rfl (sv_pure S rfl) ?_; clear S a; intro a S)
                refine wpList_nil ?_
                (refine hKq7 _ _ ?_; try (clear hKq7 Kq7))
                refine wp_region_lit ?_
                (refine wpl_v S rfl rfl rfl (sv_add S rfl rfl rfl (by first | omega | (simp only [List.length_append, List.length_cons, List.length_nil]; omega))) ?_; clear S a; intro a S)
                (refine wpl_v S rfl rfl rfl (sv_pure S rfl) ?_; clear S a; intro a S)
                refine wpList_nil ?_
                change ∃ m', _ ∧ _
                (refine ⟨l.length - (k + 1), by omega, k + 1, v, g, rfl, by omega, ?_, ?_⟩; rotate_left 1; (refine S.keep ?_; repeat (first | exact trivial | refine ⟨rfl, ?_⟩)); first | (refine ownQ (by omega) [92, l.getD k 0] ?_ ?_ rfl hown; (focus (first | rfl | (unfold esc; (repeat (first | rw [if_pos (by omega)] | rw [if_neg (by omega)])); done))); (focus (first | rfl | (simp [u8s, Value.cells, hexd]; done)))) | (refine ownQ (by omega) [92, 110] ?_ ?_ rfl hown; (focus (first | rfl | (unfold esc; (repeat (first | rw [if_pos (by omega)] | rw [if_neg (by omega)])); done))); (focus (first | rfl | (simp [u8s, Value.cells, hexd]; done)))) | (refine ownQ (by omega) [92, 116] ?_ ?_ rfl hown; (focus (first | rfl | (unfold esc; (repeat (first | rw [if_pos (by omega)] | rw [if_neg (by omega)])); done))); (focus (first | rfl | (simp [u8s, Value.cells, hexd]; done)))) | (refine ownQ (by omega) [92, 120, hexd ((l.getD k 0).toNat / 16), hexd ((l.getD k 0).toNat % 16)] ?_ ?_ rfl hown; (focus (first | rfl | (unfold esc; (repeat (first | rw [if_pos (by omega)] | rw [if_neg (by omega)])); done))); (focus (first | rfl | (simp [u8s, Value.cells, hexd]; done)))) | (refine ownQ (by omega) [l.getD k 0] ?_ ?_ rfl hown; (focus (first | rfl | (unfold esc; (repeat (first | rw [if_pos (by omega)] | rw [if_neg (by omega)])); done))); (focus (first | rfl | (simp [u8s, Value.cells, hexd]; done)))))
      · (intro h; clear S a; intro a S; (try simp only [decide_eq_true_eq, decide_eq_false_iff_not, beq_iff_eq, bne_iff_ne, bne_eq_false_iff_eq, beq_eq_false_iff_ne, ne_eq, Bool.not_eq_true', Bool.not_eq_false', Bool.not_eq_true, Bool.not_eq_false, Bool.not_true, Bool.not_false, Int.ofNat_lt, Int.ofNat_le, Nat.not_lt, Nat.not_le] at h))
        (refine wpl_skip S rfl rfl rfl rfl rfl ?_; clear S a; intro a S)
        first | (refine wpl_v S rfl rfl rfl (sv_pure S rfl) ?_; clear S a; intro a S) | (refine wpl_v S rfl rfl rfl (sv_pickB S rfl rfl rfl rfl) ?_; clear S a; intro a S)
        (refine wpl_v S rfl rfl rfl (sv_pure S rfl) ?_; clear S a; intro a S)
        refine wpList_nil ?_
        (refine hKq9 _ _ ?_; try (clear hKq9 Kq9))
        refine wpc_true S rfl ?_
        refine wp_region_lit ?_
        (refine wpl_v S rfl rfl rfl (sv_pure S rfl) ?_; clear S a; intro a S)
        (refine wpl_v S rfl rfl rfl (sv_pure S rfl) ?_; clear S a; intro a S)
        (refine wpl_append S rfl rfl rfl rfl rfl rfl rfl rfl rfl rfl rfl (fun _ => rfl) hown (by rfl) (by simp [Value.cells, splice]) (by simp [Value.cells, Value.oneCell', splice]) rfl (by rfl) (by rfl) rfl (by omega) (by omega) ?_; clear hown S a; intro v u g a w hown S)
        (refine wpl_v S rfl rfl rfl (sv_pure S rfl) ?_; clear S a; intro a S)
        refine wpList_nil ?_
        (refine hKq7 _ _ ?_; try (clear hKq7 Kq7))
        refine wp_region_lit ?_
        (refine wpl_v S rfl rfl rfl (sv_add S rfl rfl rfl (by first | omega | (simp only [List.length_append, List.length_cons, List.length_nil]; omega))) ?_; clear S a; intro a S)
        (refine wpl_v S rfl rfl rfl (sv_pure S rfl) ?_; clear S a; intro a S)
        refine wpList_nil ?_
        change ∃ m', _ ∧ _
        (refine ⟨l.length - (k + 1), by omega, k + 1, v, g, rfl, by omega, ?_, ?_⟩; rotate_left 1; (refine S.keep ?_; repeat (first | exact trivial | refine ⟨rfl, ?_⟩)); first | (refine ownQ (by omega) [92, l.getD k 0] ?_ ?_ rfl hown; (focus (first | rfl | (unfold esc; (repeat (first | rw [if_pos (by omega)] | rw [if_neg (by omega)])); done))); (focus (first | rfl | (simp [u8s, Value.cells, hexd]; done)))) | (refine ownQ (by omega) [92, 110] ?_ ?_ rfl hown; (focus (first | rfl | (unfold esc; (repeat (first | rw [if_pos (by omega)] | rw [if_neg (by omega)])); done))); (focus (first | rfl | (simp [u8s, Value.cells, hexd]; done)))) | (refine ownQ (by omega) [92, 116] ?_ ?_ rfl hown; (focus (first | rfl | (unfold esc; (repeat (first | rw [if_pos (by omega)] | rw [if_neg (by omega)])); done))); (focus (first | rfl | (simp [u8s, Value.cells, hexd]; done)))) | (refine ownQ (by omega) [92, 120, hexd ((l.getD k 0).toNat / 16), hexd ((l.getD k 0).toNat % 16)] ?_ ?_ rfl hown; (focus (first | rfl | (unfold esc; (repeat (first | rw [if_pos (by omega)] | rw [if_neg (by omega)])); done))); (focus (first | rfl | (simp [u8s, Value.cells, hexd]; done)))) | (refine ownQ (by omega) [l.getD k 0] ?_ ?_ rfl hown; (focus (first | rfl | (unfold esc; (repeat (first | rw [if_pos (by omega)] | rw [if_neg (by omega)])); done))); (focus (first | rfl | (simp [u8s, Value.cells, hexd]; done)))))
    · (skip; (try simp only [decide_eq_true_eq, decide_eq_false_iff_not, beq_iff_eq, bne_iff_ne, bne_eq_false_iff_eq, beq_eq_false_iff_ne, ne_eq, Bool.not_eq_true', Bool.not_eq_false', Bool.not_eq_true, Bool.not_eq_false, Bool.not_true, Bool.not_false, Int.ofNat_lt, Int.ofNat_le, Nat.not_lt, Nat.not_le] at h))
      refine wp_exit ?_
      (refine hKq3 _ _ ?_; try (clear hKq3 Kq3))
      (refine wp_seq_k ?_; intro Kq7 hKq7)
      refine wp_region_lit ?_
      (refine wpl_v S rfl rfl rfl (sv_pure S rfl) ?_; clear S a; intro a S)
      (refine wpl_append S rfl rfl rfl rfl rfl rfl rfl rfl rfl rfl rfl (fun _ => rfl) hown (by rfl) (by simp [Value.cells, splice]) (by simp [Value.cells, Value.oneCell', splice]) rfl (by rfl) (by rfl) rfl (by omega) (by omega) ?_; clear hown S a; intro v u g a w hown S)
      (refine wpl_v S rfl rfl rfl (sv_toStr (l := quote (l.take k)) S rfl rfl (by simpa [quote, u8s, Value.cells] using hown)) ?_; clear S a; intro a S)
      (refine wpl_v S rfl rfl rfl (sv_pure S rfl) ?_; clear S a; intro a S)
      refine wpList_nil ?_
      (refine hKq7 _ _ ?_; try (clear hKq7 Kq7))
      refine wp_ret ?_
      refine fin_ret S (results1 Tryd.results15 (RV.tmp S rfl)) ?_
      (have h0 : List.take k l = l := List.take_of_length_le h; rw [h0])
def shw (t : Tok) : List UInt8 := if t.kind = 6 then t.text ++ [98] else if t.kind = 7 then quote t.text else if t.kind = 9 then [46] ++ t.text else t.text
def tot (l : List Tok) : Nat := (l.map fun t => 1 + t.text.length).sum
def joined (l : List Tok) : List UInt8 := Lib.join (l.map shw) [32]

theorem quote_len (l : List UInt8) : (quote l).length ≤ 4 * l.length + 2 := by
  have := escs_len l
  simp only [quote, List.cons_append, List.length_cons, List.length_append, List.length_nil]; omega
theorem shw_len (t : Tok) : (shw t).length ≤ 4 * t.text.length + 2 := by
  have := quote_len t.text
  unfold shw
  (repeat' split) <;> simp <;> omega

theorem i64_add (k : Nat) : (k : Int) + 1 = ((k + 1 : Nat) : Int) := by omega
theorem join_snoc (x : List UInt8) (sep : List UInt8) : ∀ (r : List (List UInt8)), r ≠ [] → Lib.join (r ++ [x]) sep = Lib.join r sep ++ sep ++ x
  | [], h => absurd rfl h
  | y :: r, _ => by
    rw [List.cons_append, Lib.join_cons, Lib.join_cons]
    simp [Lib.joinTail]

theorem joined_succ (l : List Tok) (k : Nat) (t : Tok) (h : l[k]? = some t) : joined (l.take (k + 1)) = (if 0 < k then joined (l.take k) ++ [32] else joined (l.take k)) ++ shw t := by
  have hk : k < l.length := (List.getElem?_eq_some_iff.1 h).1
  have e : l.take (k + 1) = l.take k ++ [t] := by
    rw [List.take_succ_eq_append_getElem hk]
    rw [List.getElem?_eq_getElem hk] at h
    simp only [Option.some.injEq] at h
    rw [h]
  unfold joined
  rw [e, List.map_append, List.map_cons, List.map_nil]
  by_cases h0 : 0 < k
  · rw [if_pos h0, join_snoc _ _ _ (by intro hn; have hn2 := congrArg List.length hn; rw [List.length_map, List.length_take, List.length_nil] at hn2; omega)]
  · have : k = 0 := by omega
    subst this
    simp [Lib.join, List.intercalate]

theorem tot_take (l : List Tok) : ∀ k, tot (l.take k) ≤ tot l := fun k => by
  unfold tot
  conv => rhs; rw [← List.take_append_drop k l, List.map_append, List.sum_append]
  omega
theorem tot_succ (l : List Tok) (k : Nat) (t : Tok) (h : l[k]? = some t) : tot (l.take (k + 1)) = tot (l.take k) + (1 + t.text.length) := by
  have hk : k < l.length := (List.getElem?_eq_some_iff.1 h).1
  rw [List.getElem?_eq_getElem hk] at h
  simp only [Option.some.injEq] at h
  unfold tot
  rw [List.take_succ_eq_append_getElem hk, h]; simp
theorem joined_len (l : List Tok) : ∀ k, k ≤ l.length → (joined (l.take k)).length ≤ 4 * tot (l.take k)
  | 0, _ => by simp [joined, Lib.join, List.intercalate, tot]
  | k + 1, h => by
    have hk : k < l.length := h
    have ih := joined_len l k (by omega)
    have e := List.getElem?_eq_getElem hk
    rw [joined_succ l k _ e, tot_succ l k _ e]
    have := shw_len l[k]
    split <;> simp only [List.length_append, List.length_cons, List.length_nil] <;> omega

theorem joinCt (F : Heap) (v : Value) (xs : List (List UInt8)) (sep : List UInt8) (h : SlC F v xs.length (xs.map fun x => .string (bs x))) (hn : xs.length ≤ 1000000) (hlen : (Lib.join xs sep).length ≤ 140737488355328) :
    Ct Tryd.prog 22 [v, .string (bs sep)] F [] (fun _ _ u => u = .string (bs (Lib.join xs sep))) := by
  obtain ⟨ao, cap, rfl, hcap, hpos⟩ := h
  refine ct_of_below fun w hw => ?_
  cases xs with
  | nil => exact (Tryd.strings_Join_none ao cap (bs sep) w).mono fun e w' ⟨h1, h2⟩ => ⟨h1, by subst h2; exact RowKit.Below.refl _ _⟩
  | cons x r =>
    obtain ⟨b, off, rfl, hc⟩ := hpos (by simp)
    have hm : ((x :: r).map bs).map (fun s => s.data.toList) = x :: r := by rw [List.map_map]; exact List.map_id _
    have := Tryd.strings_Join b off cap ((x :: r).map bs) (bs sep) w (fun j s hs => ?_) ?_ ?_ ?_ ?_
    · rw [hm, List.length_map] at this
      exact this
    · rw [List.getElem?_map] at hs
      obtain ⟨y, hy, rfl⟩ := Option.map_eq_some_iff.1 hs
      exact hw.cel (hc j _ (by rw [List.getElem?_map, hy]; rfl))
    · obtain ⟨c, e, f, h1, h2⟩ := hc 0 _ (by rw [List.getElem?_map]; rfl)
      exact heap_lt (hw.frz _ _ h1)
    · rw [List.length_map]; omega
    · rw [List.length_map]; exact hcap
    · rw [hm]; exact hlen

theorem shwS_succ (l : List Tok) (k : Nat) (t : Tok) (h : l[k]? = some t) : ((l.take (k + 1)).map fun t => Value.string (bs (shw t))) = ((l.take k).map fun t => Value.string (bs (shw t))) ++ [Value.string (bs (shw t))] := by
  have hk : k < l.length := (List.getElem?_eq_some_iff.1 h).1
  rw [List.getElem?_eq_getElem hk] at h
  simp only [Option.some.injEq] at h
  rw [List.take_succ_eq_append_getElem hk, h]; simp

set_option maxHeartbeats 1000000 in
theorem lexShowCt (l : List Tok) (v : Value) (F : Heap) (hl : l.length ≤ 1000000) (ht6 : tot l ≤ 1000000) (hv : SlC F v l.length (l.flatMap tkC)) : Ct Tryd.prog 14 [v] F [] (fun _ _ u => u = .string (bs (joined l))) := by
  obtain ⟨ao, cap, rfl, hcap, hpos⟩ := hv
  refine Ct.enter Tryd.func14 rfl Tryd.ntmps14 rfl fun w0 a S => ?_
  (refine wp_seq_k ?_; intro Kq1 hKq1)
  refine wp_region_lit ?_
  (refine wpl_v S rfl rfl rfl (sv_pure S rfl) ?_; clear S a; intro a S)
  refine wpList_nil ?_
  (refine hKq1 _ _ ?_; try (clear hKq1 Kq1))
  (refine wp_seq_k ?_; intro Kq2 hKq2)
  refine wp_region_lit ?_
  (refine wpl_v S rfl rfl rfl (sv_pure S rfl) ?_; clear S a; intro a S)
  refine wpList_nil ?_
  (refine hKq2 _ _ ?_; try (clear hKq2 Kq2))
  (refine wp_seq_k ?_; intro Kq3 hKq3)
  (refine wp_seq_k ?_; intro Kq4 hKq4)
  refine wp_region_lit ?_
  (refine wpl_v S rfl rfl rfl (sv_pure S rfl) ?_; clear S a; intro a S)
  (refine wpl_v S rfl rfl rfl (sv_lenSl S rfl rfl) ?_; clear S a; intro a S)
  (refine wpl_v S rfl rfl rfl (sv_pure S rfl) ?_; clear S a; intro a S)
  refine wpList_nil ?_
  (refine hKq4 _ _ ?_; try (clear hKq4 Kq4))
  refine wp_block ?_
  refine wpc_loop (fun m a w' => ∃ (k : Nat) (v : Value) (g : Grp), m = l.length - k ∧ k ≤ l.length ∧ OwnS 9 1 v k ((l.take k).map fun t => Value.string (bs (shw t))) g ∧ St 46 [(0, .slice ao l.length cap), (6, .slice ao l.length cap), (7, .int .i64 l.length), (3, v), (8, .int .i64 k)] w0 F [] F [g] a w') ?_ ?_
  · (refine ⟨l.length, 0, _, _, by simp, Nat.zero_le _, OwnS.nil _ _, ?_⟩; have S := S.nilg; refine S.keep ?_; repeat (first | exact trivial | refine ⟨rfl, ?_⟩))
  · (clear S; rintro m a w ⟨k, v, g, rfl, hk, hown, S⟩)
    (refine wp_seq_k ?_; intro Kq5 hKq5)
    refine wp_region_lit ?_
    (refine wpl_v S rfl rfl rfl (sv_pure S rfl) ?_; clear S a; intro a S)
    refine wpList_nil ?_
    (refine hKq5 _ _ ?_; try (clear hKq5 Kq5))
    (refine wp_seq_k ?_; intro Kq6 hKq6)
    refine wpc_split S rfl (fun h => ?_) (fun h => ?_)
    · (skip; (try simp only [decide_eq_true_eq, decide_eq_false_iff_not, beq_iff_eq, bne_iff_ne, bne_eq_false_iff_eq, beq_eq_false_iff_ne, ne_eq, Bool.not_eq_true', Bool.not_eq_false', Bool.not_eq_true, Bool.not_eq_false, Bool.not_true, Bool.not_false, Int.ofNat_lt, Int.ofNat_le, Nat.not_lt, Nat.not_le] at h))
      refine wp_skip ?_
      (refine hKq6 _ _ ?_; try (clear hKq6 Kq6))
      (refine wp_seq_k ?_; intro Kq7 hKq7)
      refine wp_block ?_
      (refine wp_seq_k ?_; intro Kq8 hKq8)
      (obtain ⟨b0, off, rfl, hcs⟩ := hpos (by omega); have hkl0 : k < l.length := (by omega); obtain ⟨t, ht9⟩ : ∃ t, t = l[k]'hkl0 := ⟨_, rfl⟩; have ht : l[k]? = some t := (by rw [List.getElem?_eq_getElem hkl0, ht9]); obtain ⟨-, -, -, hca⟩ := tk_at hcs hkl0; rw [← ht9] at hca; have htt := tot_succ l k t ht; have htt2 := tot_take l (k + 1))
      refine wp_region_lit ?_
      (refine wpl_v S rfl rfl rfl (sv_indexAddrSl S rfl rfl rfl (by first | omega | (simp only [List.length_append, List.length_cons, List.length_nil]; omega))) ?_; clear S a; intro a S)
      first | (refine wpl_v S rfl rfl rfl (sv_loadAO S rfl rfl (by rfl)) ?_; clear S a; intro a S) | (refine wpl_v S rfl rfl rfl (sv_loadAF S rfl rfl (by assumption) (by rfl)) ?_; clear S a; intro a S)
      (refine wpl_alloc S rfl rfl rfl rfl ?_; clear S a; intro b a w S)
      (refine wpl_storeO S rfl rfl rfl rfl rfl (by rfl) (by simp [Value.cells, Value.oneCell', tkC]) (by rfl) ?_; clear S; intro w S)
      refine wpList_nil ?_
      (refine hKq8 _ _ ?_; try (clear hKq8 Kq8))
      (refine wp_seq_k ?_; intro Kq9 hKq9)
      refine wp_region_lit ?_
      (refine wpl_v S rfl rfl rfl (sv_fieldAddr S rfl rfl rfl inferInstance rfl) ?_; clear S a; intro a S)
      first | (refine wpl_v S rfl rfl rfl (sv_loadO S rfl rfl (by rfl)) ?_; clear S a; intro a S) | (refine wpl_v S rfl rfl rfl (sv_loadF S rfl rfl (by assumption)) ?_; clear S a; intro a S)
      refine wpList_nil ?_
      (refine hKq9 _ _ ?_; try (clear hKq9 Kq9))
      refine wp_block ?_
      (refine wp_seq_k ?_; intro Kq10 hKq10)
      refine wp_region_lit ?_
      (refine wpl_v S rfl rfl rfl (sv_pure S rfl) ?_; clear S a; intro a S)
      (refine wpl_v S rfl rfl rfl (sv_pure S rfl) ?_; clear S a; intro a S)
      refine wpList_nil ?_
      (refine hKq10 _ _ ?_; try (clear hKq10 Kq10))
      refine wpc_split S rfl (fun h => ?_) (fun h => ?_)
      · (skip; (try simp only [decide_eq_true_eq, decide_eq_false_iff_not, beq_iff_eq, bne_iff_ne, bne_eq_false_iff_eq, beq_eq_false_iff_ne, ne_eq, Bool.not_eq_true', Bool.not_eq_false', Bool.not_eq_true, Bool.not_eq_false, Bool.not_true, Bool.not_false, Int.ofNat_lt, Int.ofNat_le, Nat.not_lt, Nat.not_le] at h))
        refine wp_region_lit ?_
        (refine wpl_v S rfl rfl rfl (sv_pure S rfl) ?_; clear S a; intro a S)
        (refine wpl_v S rfl rfl rfl (sv_fieldAddr S rfl rfl rfl inferInstance rfl) ?_; clear S a; intro a S)
        first | (refine wpl_v S rfl rfl rfl (sv_loadO S rfl rfl (by rfl)) ?_; clear S a; intro a S) | (refine wpl_v S rfl rfl rfl (sv_loadF S rfl rfl (by assumption)) ?_; clear S a; intro a S)
        (refine wpl_v S rfl rfl rfl (sv_cat S rfl rfl rfl (by first | omega | (simp only [List.length_append, List.length_cons, List.length_nil]; omega))) ?_; clear S a; intro a S)
        (refine wpl_append S rfl rfl rfl rfl rfl rfl rfl rfl rfl rfl rfl (fun _ => rfl) hown (by rfl) (by simp [Value.cells, splice, tkC]) (by simp [Value.cells, Value.oneCell', splice, tkC]) rfl (by rfl) (by rfl) rfl (by omega) (by omega) ?_; clear hown S a; intro v u g a w hown S)
        (refine wpl_v S rfl rfl rfl (sv_pure S rfl) ?_; clear S a; intro a S)
        refine wpList_nil ?_
        (refine hKq7 _ _ ?_; try (clear hKq7 Kq7))
        refine wp_region_lit ?_
        (refine wpl_v S rfl rfl rfl (sv_add S rfl rfl rfl (by first | omega | (simp only [List.length_append, List.length_cons, List.length_nil]; omega))) ?_; clear S a; intro a S)
        (refine wpl_v S rfl rfl rfl (sv_pure S rfl) ?_; clear S a; intro a S)
        refine wpList_nil ?_
        change ∃ m', _ ∧ _
        (have S := S.drop1; refine ⟨l.length - (k + 1), by omega, k + 1, v, g, rfl, by omega, ?_, ?_⟩; rotate_left 1; (refine S.keep ?_; repeat (first | exact trivial | refine ⟨rfl, ?_⟩)); rw [shwS_succ l k t ht]; unfold shw; (repeat (first | rw [if_pos (by omega)] | rw [if_neg (by omega)])); exact hown)
      · (skip; (try simp only [decide_eq_true_eq, decide_eq_false_iff_not, beq_iff_eq, bne_iff_ne, bne_eq_false_iff_eq, beq_eq_false_iff_ne, ne_eq, Bool.not_eq_true', Bool.not_eq_false', Bool.not_eq_true, Bool.not_eq_false, Bool.not_true, Bool.not_false, Int.ofNat_lt, Int.ofNat_le, Nat.not_lt, Nat.not_le] at h))
        (refine wp_seq_k ?_; intro Kq11 hKq11)
        refine wp_region_lit ?_
        (refine wpl_v S rfl rfl rfl (sv_pure S rfl) ?_; clear S a; intro a S)
        (refine wpl_v S rfl rfl rfl (sv_pure S rfl) ?_; clear S a; intro a S)
        refine wpList_nil ?_
        (refine hKq11 _ _ ?_; try (clear hKq11 Kq11))
        refine wpc_split S rfl (fun h => ?_) (fun h => ?_)
        · (skip; (try simp only [decide_eq_true_eq, decide_eq_false_iff_not, beq_iff_eq, bne_iff_ne, bne_eq_false_iff_eq, beq_eq_false_iff_ne, ne_eq, Bool.not_eq_true', Bool.not_eq_false', Bool.not_eq_true, Bool.not_eq_false, Bool.not_true, Bool.not_false, Int.ofNat_lt, Int.ofNat_le, Nat.not_lt, Nat.not_le] at h))
          refine wp_region_lit ?_
          (refine wpl_v S rfl rfl rfl (sv_pure S rfl) ?_; clear S a; intro a S)
          (refine wpl_v S rfl rfl rfl (sv_fieldAddr S rfl rfl rfl inferInstance rfl) ?_; clear S a; intro a S)
          first | (refine wpl_v S rfl rfl rfl (sv_loadO S rfl rfl (by rfl)) ?_; clear S a; intro a S) | (refine wpl_v S rfl rfl rfl (sv_loadF S rfl rfl (by assumption)) ?_; clear S a; intro a S)
          (refine wpl_v S rfl rfl rfl (sv_cat S rfl rfl rfl (by first | omega | (simp only [List.length_append, List.length_cons, List.length_nil]; omega))) ?_; clear S a; intro a S)
          (refine wpl_append S rfl rfl rfl rfl rfl rfl rfl rfl rfl rfl rfl (fun _ => rfl) hown (by rfl) (by simp [Value.cells, splice, tkC]) (by simp [Value.cells, Value.oneCell', splice, tkC]) rfl (by rfl) (by rfl) rfl (by omega) (by omega) ?_; clear hown S a; intro v u g a w hown S)
          (refine wpl_v S rfl rfl rfl (sv_pure S rfl) ?_; clear S a; intro a S)
          refine wpList_nil ?_
          (refine hKq7 _ _ ?_; try (clear hKq7 Kq7))
          refine wp_region_lit ?_
          (refine wpl_v S rfl rfl rfl (sv_add S rfl rfl rfl (by first | omega | (simp only [List.length_append, List.length_cons, List.length_nil]; omega))) ?_; clear S a; intro a S)
          (refine wpl_v S rfl rfl rfl (sv_pure S rfl) ?_; clear S a; intro a S)
          refine wpList_nil ?_
          change ∃ m', _ ∧ _
          (have S := S.drop1; refine ⟨l.length - (k + 1), by omega, k + 1, v, g, rfl, by omega, ?_, ?_⟩; rotate_left 1; (refine S.keep ?_; repeat (first | exact trivial | refine ⟨rfl, ?_⟩)); rw [shwS_succ l k t ht]; unfold shw; (repeat (first | rw [if_pos (by omega)] | rw [if_neg (by omega)])); exact hown)
        · (skip; (try simp only [decide_eq_true_eq, decide_eq_false_iff_not, beq_iff_eq, bne_iff_ne, bne_eq_false_iff_eq, beq_eq_false_iff_ne, ne_eq, Bool.not_eq_true', Bool.not_eq_false', Bool.not_eq_true, Bool.not_eq_false, Bool.not_true, Bool.not_false, Int.ofNat_lt, Int.ofNat_le, Nat.not_lt, Nat.not_le] at h))
          (refine wp_seq_k ?_; intro Kq12 hKq12)
          refine wp_region_lit ?_
          (refine wpl_v S rfl rfl rfl (sv_pure S rfl) ?_; clear S a; intro a S)
          (refine wpl_v S rfl rfl rfl (sv_pure S rfl) ?_; clear S a; intro a S)
          refine wpList_nil ?_
          (refine hKq12 _ _ ?_; try (clear hKq12 Kq12))
          refine wpc_split S rfl (fun h => ?_) (fun h => ?_)
          · (skip; (try simp only [decide_eq_true_eq, decide_eq_false_iff_not, beq_iff_eq, bne_iff_ne, bne_eq_false_iff_eq, beq_eq_false_iff_ne, ne_eq, Bool.not_eq_true', Bool.not_eq_false', Bool.not_eq_true, Bool.not_eq_false, Bool.not_true, Bool.not_false, Int.ofNat_lt, Int.ofNat_le, Nat.not_lt, Nat.not_le] at h))
            refine wp_region_lit ?_
            (refine wpl_v S rfl rfl rfl (sv_pure S rfl) ?_; clear S a; intro a S)
            (refine wpl_v S rfl rfl rfl (sv_fieldAddr S rfl rfl rfl inferInstance rfl) ?_; clear S a; intro a S)
            first | (refine wpl_v S rfl rfl rfl (sv_loadO S rfl rfl (by rfl)) ?_; clear S a; intro a S) | (refine wpl_v S rfl rfl rfl (sv_loadF S rfl rfl (by assumption)) ?_; clear S a; intro a S)
            (refine wpl_call0 S rfl rfl rfl rfl rfl rfl (lexQuote t.text F (by omega)) rfl ?_; clear S a; intro v a w hv S; subst hv)
            (refine wpl_append S rfl rfl rfl rfl rfl rfl rfl rfl rfl rfl rfl (fun _ => rfl) hown (by rfl) (by simp [Value.cells, splice, tkC]) (by simp [Value.cells, Value.oneCell', splice, tkC]) rfl (by rfl) (by rfl) rfl (by omega) (by omega) ?_; clear hown S a; intro v u g a w hown S)
            (refine wpl_v S rfl rfl rfl (sv_pure S rfl) ?_; clear S a; intro a S)
            refine wpList_nil ?_
            (refine hKq7 _ _ ?_; try (clear hKq7 Kq7))
            refine wp_region_lit ?_
            (refine wpl_v S rfl rfl rfl (sv_add S rfl rfl rfl (by first | omega | (simp only [List.length_append, List.length_cons, List.length_nil]; omega))) ?_; clear S a; intro a S)
            (refine wpl_v S rfl rfl rfl (sv_pure S rfl) ?_; clear S a; intro a S)
            refine wpList_nil ?_
            change ∃ m', _ ∧ _
            (have S := S.drop1; refine ⟨l.length - (k + 1), by omega, k + 1, v, g, rfl, by omega, ?_, ?_⟩; rotate_left 1; (refine S.keep ?_; repeat (first | exact trivial | refine ⟨rfl, ?_⟩)); rw [shwS_succ l k t ht]; unfold shw; (repeat (first | rw [if_pos (by omega)] | rw [if_neg (by omega)])); exact hown)
          · (skip; (try simp only [decide_eq_true_eq, decide_eq_false_iff_not, beq_iff_eq, bne_iff_ne, bne_eq_false_iff_eq, beq_eq_false_iff_ne, ne_eq, Bool.not_eq_true', Bool.not_eq_false', Bool.not_eq_true, Bool.not_eq_false, Bool.not_true, Bool.not_false, Int.ofNat_lt, Int.ofNat_le, Nat.not_lt, Nat.not_le] at h))
            refine wp_region_lit ?_
            (refine wpl_v S rfl rfl rfl (sv_pure S rfl) ?_; clear S a; intro a S)
            (refine wpl_v S rfl rfl rfl (sv_fieldAddr S rfl rfl rfl inferInstance rfl) ?_; clear S a; intro a S)
            first | (refine wpl_v S rfl rfl rfl (sv_loadO S rfl rfl (by rfl)) ?_; clear S a; intro a S) | (refine wpl_v S rfl rfl rfl (sv_loadF S rfl rfl (by assumption)) ?_; clear S a; intro a S)
            (refine wpl_append S rfl rfl rfl rfl rfl rfl rfl rfl rfl rfl rfl (fun _ => rfl) hown (by rfl) (by simp [Value.cells, splice, tkC]) (by simp [Value.cells, Value.oneCell', splice, tkC]) rfl (by rfl) (by rfl) rfl (by omega) (by omega) ?_; clear hown S a; intro v u g a w hown S)
            (refine wpl_v S rfl rfl rfl (sv_pure S rfl) ?_; clear S a; intro a S)
            refine wpList_nil ?_
            (refine hKq7 _ _ ?_; try (clear hKq7 Kq7))
            refine wp_region_lit ?_
            (refine wpl_v S rfl rfl rfl (sv_add S rfl rfl rfl (by first | omega | (simp only [List.length_append, List.length_cons, List.length_nil]; omega))) ?_; clear S a; intro a S)
            (refine wpl_v S rfl rfl rfl (sv_pure S rfl) ?_; clear S a; intro a S)
            refine wpList_nil ?_
            change ∃ m', _ ∧ _
            (have S := S.drop1; refine ⟨l.length - (k + 1), by omega, k + 1, v, g, rfl, by omega, ?_, ?_⟩; rotate_left 1; (refine S.keep ?_; repeat (first | exact trivial | refine ⟨rfl, ?_⟩)); rw [shwS_succ l k t ht]; unfold shw; (repeat (first | rw [if_pos (by omega)] | rw [if_neg (by omega)])); exact hown)
    · (skip; (try simp only [decide_eq_true_eq, decide_eq_false_iff_not, beq_iff_eq, bne_iff_ne, bne_eq_false_iff_eq, beq_eq_false_iff_ne, ne_eq, Bool.not_eq_true', Bool.not_eq_false', Bool.not_eq_true, Bool.not_eq_false, Bool.not_true, Bool.not_false, Int.ofNat_lt, Int.ofNat_le, Nat.not_lt, Nat.not_le] at h))
      refine wp_exit ?_
      (refine hKq3 _ _ ?_; try (clear hKq3 Kq3))
      (refine wp_seq_k ?_; intro Kq7 hKq7)
      (have hkl : k = l.length := (by omega); replace S := St.freeze (G1 := []) S; have hsl := hown.slC F; have h0 : List.take k l = l := List.take_of_length_le h; rw [h0, hkl] at hsl; have hjl := joined_len l l.length (Nat.le_refl _); rw [List.take_of_length_le (Nat.le_refl _)] at hjl)
      refine wp_region_lit ?_
      (refine wpl_v S rfl rfl rfl (sv_pure S rfl) ?_; clear S a; intro a S)
      (refine wpl_call0 S rfl rfl rfl rfl rfl rfl (joinCt (F.add g) v (l.map shw) [32] (by rw [List.length_map, List.map_map]; exact hsl) (by rw [List.length_map]; omega) (by show (joined l).length ≤ _; omega)) rfl ?_; clear S a; intro v a w hv S; subst hv)
      (refine wpl_v S rfl rfl rfl (sv_pure S rfl) ?_; clear S a; intro a S)
      refine wpList_nil ?_
      (refine hKq7 _ _ ?_; try (clear hKq7 Kq7))
      refine wp_ret ?_
      refine fin_ret S (results1 Tryd.results14 (RV.tmp S rfl)) ?_
      rfl
