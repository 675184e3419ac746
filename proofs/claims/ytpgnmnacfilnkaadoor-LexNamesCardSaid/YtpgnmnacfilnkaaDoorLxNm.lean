/- The walks of many and of the law LexNames: the examples. -/
import Derived.Test.YtpgnmnacfilnkaaDoorLxK
import Derived.Test.YtpgnmnacfilnkaaDoorLxW
import Derived.Test.YtpgnmnacfilnkaaDoorLxBk
namespace Go.Proofs.YtpgnmnacfilnkaaDoor
open Go Go.Wk Go.Lx
set_option linter.unusedSimpArgs false
set_option linter.unusedVariables false
attribute [local irreducible] Go.wpList Go.Code.wp Go.wpStill Go.Wk.wpPre Go.bodyPost Go.Calls Go.Wk.Ct Go.Wk.OwnS
attribute [local irreducible] Go.Wk.wpG Go.Wk.wpM

def rep (n : Nat) (c : UInt8) : List UInt8 := List.replicate n c
theorem rep_len (n : Nat) (c : UInt8) : (rep n c).length = n := List.length_replicate
theorem rep_step {n i : Nat} (c : UInt8) (hi : i < n) : ((List.replicate i (Value.int .u8 (c.toNat : Nat)) ++ List.replicate (n - i) (Value.int .u8 0)) : List Value).set i (.int .u8 (c.toNat : Nat)) = List.replicate (i + 1) (Value.int .u8 (c.toNat : Nat)) ++ List.replicate (n - (i + 1)) (Value.int .u8 0) := by
  rw [List.set_append_right _ _ (by simp), List.length_replicate, Nat.sub_self, show n - i = (n - (i + 1)) + 1 by omega, List.replicate_succ, List.set_cons_zero, List.replicate_succ', List.append_assoc]; rfl
set_option maxHeartbeats 1000000 in
theorem manyCt (n : Nat) (c : UInt8) (F : Heap) (hn : n ≤ 1000000) : Ct Tryd.prog 13 [.int .i64 (n : Int), .int .u8 (c.toNat : Nat)] F [] (fun _ _ u => u = .string (bs (rep n c))) := by
  refine Ct.enter Tryd.func13 rfl Tryd.ntmps13 rfl fun w0 a S => ?_
  (refine wp_seq_k ?_; intro Kq1 hKq1)
  refine wp_region_lit ?_
  (refine wpl_v S rfl rfl rfl (sv_pure S rfl) ?_; clear S a; intro a S)
  refine wpList_nil ?_
  (refine hKq1 _ _ ?_; try (clear hKq1 Kq1))
  (refine wp_seq_k ?_; intro Kq2 hKq2)
  refine wp_region_lit ?_
  (refine wpl_v S rfl rfl rfl (sv_pure S rfl) ?_; clear S a; intro a S)
  (refine wpl_makeSlice (q := n) S rfl rfl rfl rfl rfl rfl rfl (by omega) (by omega) ?_; clear S a; intro b a w hown S)
  (refine wpl_v S rfl rfl rfl (sv_pure S rfl) ?_; clear S a; intro a S)
  refine wpList_nil ?_
  (refine hKq2 _ _ ?_; try (clear hKq2 Kq2))
  (refine wp_seq_k ?_; intro Kq3 hKq3)
  (refine wp_seq_k ?_; intro Kq4 hKq4)
  refine wp_region_lit ?_
  (refine wpl_v S rfl rfl rfl (sv_pure S rfl) ?_; clear S a; intro a S)
  refine wpList_nil ?_
  (refine hKq4 _ _ ?_; try (clear hKq4 Kq4))
  refine wp_block ?_
  refine wpc_loop (fun m a w' => ∃ (i : Nat) (g : Grp), m = n - i ∧ i ≤ n ∧ OwnS 5 1 (.slice (some ⟨b, 0, none⟩) n n) n (List.replicate i (Value.int .u8 (c.toNat : Nat)) ++ List.replicate (n - i) (Value.int .u8 0)) g ∧ St 20 [(0, .int .i64 (n : Int)), (1, .int .u8 (c.toNat : Nat)), (5, .slice (some ⟨b, 0, none⟩) n n), (6, .int .i64 (i : Int))] w0 F [] F [g] a w') ?_ ?_
  · (refine ⟨n, 0, _, rfl, Nat.zero_le _, (by simpa using hown), ?_⟩; refine S.keep ?_; repeat (first | exact trivial | refine ⟨rfl, ?_⟩))
  · (clear hown S; rintro m a w ⟨i, g, rfl, hi, hown, S⟩)
    (refine wp_seq_k ?_; intro Kq5 hKq5)
    (refine wp_seq_k ?_; intro Kq6 hKq6)
    refine wp_region_lit ?_
    (refine wpl_v S rfl rfl rfl (sv_pure S rfl) ?_; clear S a; intro a S)
    (refine wpl_v S rfl rfl rfl (sv_pure S rfl) ?_; clear S a; intro a S)
    (refine wpl_v S rfl rfl rfl (sv_pure S rfl) ?_; clear S a; intro a S)
    refine wpList_nil ?_
    (refine hKq6 _ _ ?_; try (clear hKq6 Kq6))
    refine wpc_split S rfl (fun h => ?_) (fun h => ?_)
    · (skip; (try simp only [decide_eq_true_eq, decide_eq_false_iff_not, beq_iff_eq, bne_iff_ne, bne_eq_false_iff_eq, beq_eq_false_iff_ne, ne_eq, Bool.not_eq_true', Bool.not_eq_false', Bool.not_eq_true, Bool.not_eq_false, Bool.not_true, Bool.not_false, Int.ofNat_lt, Int.ofNat_le, Nat.not_lt, Nat.not_le] at h))
      refine wp_skip ?_
      (refine hKq5 _ _ ?_; try (clear hKq5 Kq5))
      (refine wp_seq_k ?_; intro Kq7 hKq7)
      refine wp_block ?_
      refine wp_region_lit ?_
      (refine wpl_v S rfl rfl rfl (sv_pure S rfl) ?_; clear S a; intro a S)
      (refine wpl_v S rfl rfl rfl (sv_pure S rfl) ?_; clear S a; intro a S)
      (refine wpl_v S rfl rfl rfl (sv_pure S rfl) ?_; clear S a; intro a S)
      (refine wpl_v S rfl rfl rfl (sv_indexAddrSl S rfl rfl rfl (by first | omega | (simp only [List.length_append, List.length_cons, List.length_nil]; omega))) ?_; clear S a; intro a S)
      (refine wpl_storeOwn S rfl rfl rfl rfl rfl hown rfl (by omega) ?_; clear hown S; intro g w hown S)
      refine wpList_nil ?_
      (refine hKq7 _ _ ?_; try (clear hKq7 Kq7))
      refine wp_region_lit ?_
      (refine wpl_v S rfl rfl rfl (sv_pure S rfl) ?_; clear S a; intro a S)
      (refine wpl_v S rfl rfl rfl (sv_add S rfl rfl rfl (by first | omega | (simp only [List.length_append, List.length_cons, List.length_nil]; omega))) ?_; clear S a; intro a S)
      (refine wpl_v S rfl rfl rfl (sv_pure S rfl) ?_; clear S a; intro a S)
      refine wpList_nil ?_
      change ∃ m', _ ∧ _
      (refine ⟨n - (i + 1), by omega, i + 1, g, rfl, by omega, (by rw [← rep_step _ (by omega)]; exact hown), ?_⟩; refine S.keep ?_; repeat (first | exact trivial | refine ⟨rfl, ?_⟩))
    · (skip; (try simp only [decide_eq_true_eq, decide_eq_false_iff_not, beq_iff_eq, bne_iff_ne, bne_eq_false_iff_eq, beq_eq_false_iff_ne, ne_eq, Bool.not_eq_true', Bool.not_eq_false', Bool.not_eq_true, Bool.not_eq_false, Bool.not_true, Bool.not_false, Int.ofNat_lt, Int.ofNat_le, Nat.not_lt, Nat.not_le] at h))
      refine wp_exit ?_
      (refine hKq3 _ _ ?_; try (clear hKq3 Kq3))
      (refine wp_seq_k ?_; intro Kq7 hKq7)
      refine wp_region_lit ?_
      (refine wpl_v S rfl rfl rfl (sv_pure S rfl) ?_; clear S a; intro a S)
      (have hie : i = n := (by omega); subst hie; (refine wpl_v S rfl rfl rfl (sv_toStr (l := rep i c) S rfl rfl (by rw [show (rep i c).map (fun b => Value.int .u8 b.toNat) = List.replicate i (Value.int .u8 (c.toNat : Nat)) from (by unfold rep; rw [List.map_replicate])]; simpa using hown)) ?_; clear S a; intro a S))
      (refine wpl_v S rfl rfl rfl (sv_pure S rfl) ?_; clear S a; intro a S)
      refine wpList_nil ?_
      (refine hKq7 _ _ ?_; try (clear hKq7 Kq7))
      refine wp_ret ?_
      refine fin_ret S (results1 Tryd.results13 (RV.tmp S rfl)) ?_
      rfl
structure Ex where
  t : List UInt8
  l : Int
  c : Int
  e : Int
def exC (x : Ex) : List Value := [.string (bs x.t), .int .i64 x.l, .int .i64 x.c, .int .i64 x.e]
def rowsE : List Ex := [⟨[97, 10, 32, 36], 2, 2, 4⟩, ⟨[34, 97], 1, 1, 4⟩, ⟨[34, 97, 10, 34], 1, 1, 4⟩, ⟨[120, 32, 48, 49, 50], 1, 3, 4⟩, ⟨[49, 97], 1, 1, 4⟩, ⟨[49, 50, 98, 98], 1, 1, 4⟩, ⟨[49, 95], 1, 1, 4⟩, ⟨[95, 120], 1, 1, 4⟩, ⟨[34, 92, 113, 34], 1, 1, 4⟩, ⟨[34, 92, 120, 52, 71, 34], 1, 1, 4⟩, ⟨[97, 33], 1, 2, 4⟩,
  ⟨rep 33 97, 1, 1, 63⟩, ⟨[97, 46] ++ rep 33 97, 1, 1, 63⟩, ⟨rep 33 65, 1, 1, 63⟩, ⟨[88, 46] ++ rep 33 97, 1, 2, 63⟩, ⟨rep 201 57, 1, 1, 80⟩, ⟨[34] ++ rep 4097 97 ++ [34], 1, 1, 40⟩, ⟨rep 65537 32, 1, 1, 40⟩]
structure Sx where
  t : List UInt8
  w : List UInt8
def sxC (x : Sx) : List Value := [.string (bs x.t), .string (bs x.w)]
def rowsS : List Sx := [⟨[97, 46, 46, 98], [97, 32, 46, 32, 46, 98]⟩, ⟨[97, 46, 110, 111, 116], [97, 32, 46, 32, 110, 111, 116]⟩, ⟨[110, 111, 116, 46, 97], [110, 111, 116, 32, 46, 97]⟩, ⟨[97, 46, 98, 46, 99, 46, 100], [97, 46, 98, 32, 46, 99, 32, 46, 100]⟩, ⟨[88, 46, 97, 46, 98], [88, 32, 46, 97, 32, 46, 98]⟩, ⟨[39, 97, 32, 99, 111, 117, 110, 116], [39, 32, 97, 32, 99, 111, 117, 110, 116]⟩, ⟨[97, 46, 32, 98], [97, 32, 46, 32, 98]⟩, ⟨[97, 46, 66], [97, 32, 46, 32, 66]⟩, ⟨[58, 58, 45, 61, 58], [58, 32, 58, 45, 32, 61, 32, 58]⟩, ⟨[60, 61, 61, 62, 61, 61, 61], [60, 61, 32, 61, 32, 62, 61, 32, 61, 61]⟩, ⟨[43, 43, 43], [43, 43, 32, 43]⟩, ⟨[35, 97, 10, 98, 35, 99], [98]⟩, ⟨[], []⟩,
  ⟨rep 32 97 ++ [46] ++ rep 32 98, rep 32 97 ++ [46] ++ rep 32 98⟩, ⟨rep 200 57 ++ [98], rep 200 57 ++ [98]⟩, ⟨[34, 92, 120, 52, 49, 92, 110, 92, 116, 92, 92, 92, 34, 255, 34], [34, 65, 92, 110, 92, 116, 92, 92, 92, 34, 255, 34]⟩, ⟨[116, 114, 117, 101, 120, 32, 116, 114, 117, 101], [116, 114, 117, 101, 120, 32, 116, 114, 117, 101]⟩, ⟨rep 65536 32, []⟩]
theorem skip_rep : ∀ n, skipB (rep n 32) = n
  | 0 => rfl
  | n + 1 => by
    show skipB (32 :: rep n 32) = n + 1
    rw [skipB_blank (by decide), skip_rep n]
theorem esc_rep : ∀ n, (rep n 97).flatMap esc = rep n 97
  | 0 => rfl
  | n + 1 => by
    show esc 97 ++ (rep n 97).flatMap esc = 97 :: rep n 97
    rw [esc_rep n]; rfl
attribute [local irreducible] rep
theorem next_long : nextF ([34] ++ rep 4097 97 ++ [34]) = bad 40 := by
  have h := qmarks_quote [] (rep 4097 97)
  rw [esc_rep, rep_len] at h
  rw [show [34] ++ rep 4097 97 ++ [34] = 34 :: (rep 4097 97 ++ [34]) by simp only [List.cons_append, List.nil_append]]
  rw [nextF_quo rfl rfl rfl]
  unfold quotedF
  simp only [List.drop_succ_cons, List.drop_zero, h]
  have e : ((rep 4097 97 ++ [34]).getD 4097 0).toNat = 34 := by
    have := getD_at (rep 4097 97) [34]
    rw [rep_len] at this
    rw [this]; rfl
  rw [if_pos e, if_pos (by rw [rep_len]; decide)]
theorem tok_long : tokens ([34] ++ rep 4097 97 ++ [34]) = ([], (1, 1), 40) := by
  have hl : ([34] ++ rep 4097 97 ++ [34]).length = 4099 := by simp only [List.length_append, rep_len]; rfl
  rw [tokens_short (by omega)]
  have hs : skipB ([34] ++ rep 4097 97 ++ [34]) = 0 := by
    rw [show [34] ++ rep 4097 97 ++ [34] = 34 :: (rep 4097 97 ++ [34]) by simp only [List.cons_append, List.nil_append]]
    exact skipB_stop (by decide) (by decide)
  have hn : [34] ++ rep 4097 97 ++ [34] ≠ [] := fun h => by rw [h] at hl; cases hl
  have hx := next_long
  generalize [34] ++ rep 4097 97 ++ [34] = L at *
  rw [toks_bad (by rw [hs]; exact hn) (by rw [hs, List.drop_zero, hx]; decide), hs, List.drop_zero, hx]
  rfl
theorem tok_spaces : tokens (rep 65536 32) = ([], (0, 0), 0) := by
  have hl := rep_len 65536 32
  have hs := skip_rep 65536
  generalize rep 65536 32 = L at *
  rw [tokens_short (by omega), toks_end (List.drop_eq_nil_of_le (by omega))]
theorem tok_more : tokens (rep 65537 32) = ([], (1, 1), 40) := tokens_long (by rw [rep_len]; decide)
def okE (x : Ex) : Prop := tokens x.t = ([], (x.l, x.c), x.e) ∧ x.t.length ≤ 100000
theorem rowsE_ok : ∀ x ∈ rowsE, okE x := by
  have k : ∀ {t : List UInt8} {l c e : Int}, tokens t = ([], (l, c), e) → t.length ≤ 100000 → okE ⟨t, l, c, e⟩ := fun h h2 => ⟨h, h2⟩
  unfold rowsE
  simp only [List.forall_mem_cons]
  refine ⟨k (by decide +kernel) (by decide), k (by decide +kernel) (by decide), k (by decide +kernel) (by decide), k (by decide +kernel) (by decide), k (by decide +kernel) (by decide), k (by decide +kernel) (by decide), k (by decide +kernel) (by decide), k (by decide +kernel) (by decide), k (by decide +kernel) (by decide), k (by decide +kernel) (by decide), k (by decide +kernel) (by decide),
    k (by decide +kernel) (by decide +kernel), k (by decide +kernel) (by decide +kernel), k (by decide +kernel) (by decide +kernel), k (by decide +kernel) (by decide +kernel), k (by decide +kernel) (by decide +kernel), k tok_long (by simp only [List.length_append, rep_len]; decide), k tok_more (by rw [rep_len]; decide), fun _ h => by cases h⟩
def okS (x : Sx) : Prop := (tokens x.t).2.2 = 0 ∧ joined (tokens x.t).1 = x.w ∧ x.t.length ≤ 65536
theorem rowsS_ok : ∀ x ∈ rowsS, okS x := by
  have k : ∀ {t w : List UInt8}, (tokens t).2.2 = 0 → joined (tokens t).1 = w → t.length ≤ 65536 → okS ⟨t, w⟩ := fun h h2 h3 => ⟨h, h2, h3⟩
  unfold rowsS
  simp only [List.forall_mem_cons]
  refine ⟨k (by decide +kernel) (by decide +kernel) (by decide), k (by decide +kernel) (by decide +kernel) (by decide), k (by decide +kernel) (by decide +kernel) (by decide), k (by decide +kernel) (by decide +kernel) (by decide), k (by decide +kernel) (by decide +kernel) (by decide), k (by decide +kernel) (by decide +kernel) (by decide), k (by decide +kernel) (by decide +kernel) (by decide), k (by decide +kernel) (by decide +kernel) (by decide), k (by decide +kernel) (by decide +kernel) (by decide), k (by decide +kernel) (by decide +kernel) (by decide), k (by decide +kernel) (by decide +kernel) (by decide), k (by decide +kernel) (by decide +kernel) (by decide), k (by decide +kernel) (by decide +kernel) (by decide),
    k (by decide +kernel) (by decide +kernel) (by decide +kernel), k (by decide +kernel) (by decide +kernel) (by decide +kernel), k (by decide +kernel) (by decide +kernel) (by decide), k (by decide +kernel) (by decide +kernel) (by decide), k (by rw [tok_spaces]) (by rw [tok_spaces]; rfl) (by rw [rep_len]; decide), fun _ h => by cases h⟩
theorem rowE_at {F : Heap} {b i : Nat} (h : Cels F b 0 (rowsE.flatMap exC)) (hi : i < 18) : ∃ x, okE x ∧ Cels F b (0 + i * 4) (exC x) := by
  have hl : i < rowsE.length := hi
  have hc : ∀ x ∈ rowsE, (exC x).length = 4 := fun _ _ => rfl
  exact ⟨rowsE[i], rowsE_ok _ (List.getElem_mem hl), Cels.elem hc h (List.getElem?_eq_getElem hl)⟩
theorem rowS_at {F : Heap} {b i : Nat} (h : Cels F b 0 (rowsS.flatMap sxC)) (hi : i < 18) : ∃ x, okS x ∧ Cels F b (0 + i * 2) (sxC x) := by
  have hl : i < rowsS.length := hi
  have hc : ∀ x ∈ rowsS, (sxC x).length = 2 := fun _ _ => rfl
  exact ⟨rowsS[i], rowsS_ok _ (List.getElem_mem hl), Cels.elem hc h (List.getElem?_eq_getElem hl)⟩
theorem own_cels {e sz q b cap : Nat} {xs : List Value} {g : Grp} (F : Heap) (h : OwnS e sz (.slice (some ⟨b, 0, none⟩) q cap) q xs g) (hq : 0 < q) : Cels (F.add g) b 0 xs := by
  obtain ⟨ao, cap', h1, h2, h3⟩ := h.slC F
  obtain ⟨b', off, h4, h5⟩ := h3 hq
  simp only [Value.slice.injEq] at h1
  obtain ⟨h1, -, -⟩ := h1
  rw [← h1] at h4
  simp only [Option.some.injEq, Addr.mk.injEq] at h4
  obtain ⟨rfl, rfl, -⟩ := h4
  exact h5

set_option maxRecDepth 20000 in
set_option maxHeartbeats 8000000 in
theorem lawLexNames (F : Heap) (hF : SpF F) : Ct Tryd.prog 4 [] F [] (fun _ _ r => r = .bool true) := by
  refine Ct.enter Tryd.func4 rfl Tryd.ntmps4 rfl fun w0 a S => ?_
  (refine wp_seq_k ?_; intro Kq1 hKq1)
  refine wp_region_lit ?_
  (refine wpl_v S rfl rfl rfl (sv_pure S rfl) ?_; clear S a; intro a S)
  refine wpList_nil ?_
  (refine hKq1 _ _ ?_; try (clear hKq1 Kq1))
  (refine wp_seq_k ?_; intro Kq2 hKq2)
  (refine wp_seq_k ?_; intro Kq3 hKq3)
  refine wp_region_lit ?_
  (refine wpl_call0 S rfl rfl rfl rfl rfl rfl (worksCt F hF) rfl ?_; clear S a; intro v a w hv S; subst hv)
  (refine wpl_v S rfl rfl rfl (sv_lit (c := false) (sv_pure S rfl) (by rfl)) ?_; clear S a; intro a S)
  (refine wpl_v S rfl rfl rfl (sv_pure S rfl) ?_; clear S a; intro a S)
  first | (refine wpl_v S rfl rfl rfl (sv_pure S rfl) ?_; clear S a; intro a S) | (refine wpl_v S rfl rfl rfl (sv_pickB S rfl rfl rfl rfl) ?_; clear S a; intro a S)
  (refine wpl_v S rfl rfl rfl (sv_pure S rfl) ?_; clear S a; intro a S)
  first | (refine wpl_v S rfl rfl rfl (sv_pure S rfl) ?_; clear S a; intro a S) | (refine wpl_v S rfl rfl rfl (sv_pickB S rfl rfl rfl rfl) ?_; clear S a; intro a S)
  (refine wpl_v S rfl rfl rfl (sv_pure S rfl) ?_; clear S a; intro a S)
  first | (refine wpl_v S rfl rfl rfl (sv_pure S rfl) ?_; clear S a; intro a S) | (refine wpl_v S rfl rfl rfl (sv_pickB S rfl rfl rfl rfl) ?_; clear S a; intro a S)
  (refine wpl_v S rfl rfl rfl (sv_pure S rfl) ?_; clear S a; intro a S)
  first | (refine wpl_v S rfl rfl rfl (sv_pure S rfl) ?_; clear S a; intro a S) | (refine wpl_v S rfl rfl rfl (sv_pickB S rfl rfl rfl rfl) ?_; clear S a; intro a S)
  (refine wpl_v S rfl rfl rfl (sv_pure S rfl) ?_; clear S a; intro a S)
  first | (refine wpl_v S rfl rfl rfl (sv_pure S rfl) ?_; clear S a; intro a S) | (refine wpl_v S rfl rfl rfl (sv_pickB S rfl rfl rfl rfl) ?_; clear S a; intro a S)
  (refine wpl_v S rfl rfl rfl (sv_pure S rfl) ?_; clear S a; intro a S)
  first | (refine wpl_v S rfl rfl rfl (sv_pure S rfl) ?_; clear S a; intro a S) | (refine wpl_v S rfl rfl rfl (sv_pickB S rfl rfl rfl rfl) ?_; clear S a; intro a S)
  (refine wpl_v S rfl rfl rfl (sv_pure S rfl) ?_; clear S a; intro a S)
  first | (refine wpl_v S rfl rfl rfl (sv_pure S rfl) ?_; clear S a; intro a S) | (refine wpl_v S rfl rfl rfl (sv_pickB S rfl rfl rfl rfl) ?_; clear S a; intro a S)
  (refine wpl_v S rfl rfl rfl (sv_pure S rfl) ?_; clear S a; intro a S)
  first | (refine wpl_v S rfl rfl rfl (sv_pure S rfl) ?_; clear S a; intro a S) | (refine wpl_v S rfl rfl rfl (sv_pickB S rfl rfl rfl rfl) ?_; clear S a; intro a S)
  (refine wpl_v S rfl rfl rfl (sv_pure S rfl) ?_; clear S a; intro a S)
  first | (refine wpl_v S rfl rfl rfl (sv_pure S rfl) ?_; clear S a; intro a S) | (refine wpl_v S rfl rfl rfl (sv_pickB S rfl rfl rfl rfl) ?_; clear S a; intro a S)
  (refine wpl_v S rfl rfl rfl (sv_pure S rfl) ?_; clear S a; intro a S)
  first | (refine wpl_v S rfl rfl rfl (sv_pure S rfl) ?_; clear S a; intro a S) | (refine wpl_v S rfl rfl rfl (sv_pickB S rfl rfl rfl rfl) ?_; clear S a; intro a S)
  (refine wpl_v S rfl rfl rfl (sv_pure S rfl) ?_; clear S a; intro a S)
  first | (refine wpl_v S rfl rfl rfl (sv_pure S rfl) ?_; clear S a; intro a S) | (refine wpl_v S rfl rfl rfl (sv_pickB S rfl rfl rfl rfl) ?_; clear S a; intro a S)
  refine wpList_nil ?_
  (refine hKq3 _ _ ?_; try (clear hKq3 Kq3))
  refine wpc_false S rfl ?_
  refine wp_skip ?_
  (refine hKq2 _ _ ?_; try (clear hKq2 Kq2))
  (refine wp_seq_k ?_; intro Kq4 hKq4)
  (refine wp_seq_k ?_; intro Kq5 hKq5)
  refine wp_region_lit ?_
  (refine wpl_v S rfl rfl rfl (sv_build S rfl rfl rfl) ?_; clear S a; intro a S)
  (refine wpl_v S rfl rfl rfl (sv_build S rfl rfl rfl) ?_; clear S a; intro a S)
  (refine wpl_v S rfl rfl rfl (sv_build S rfl rfl rfl) ?_; clear S a; intro a S)
  (refine wpl_v S rfl rfl rfl (sv_build S rfl rfl rfl) ?_; clear S a; intro a S)
  (refine wpl_v S rfl rfl rfl (sv_build S rfl rfl rfl) ?_; clear S a; intro a S)
  (refine wpl_v S rfl rfl rfl (sv_build S rfl rfl rfl) ?_; clear S a; intro a S)
  (refine wpl_v S rfl rfl rfl (sv_build S rfl rfl rfl) ?_; clear S a; intro a S)
  (refine wpl_v S rfl rfl rfl (sv_build S rfl rfl rfl) ?_; clear S a; intro a S)
  (refine wpl_v S rfl rfl rfl (sv_build S rfl rfl rfl) ?_; clear S a; intro a S)
  (refine wpl_v S rfl rfl rfl (sv_build S rfl rfl rfl) ?_; clear S a; intro a S)
  (refine wpl_v S rfl rfl rfl (sv_build S rfl rfl rfl) ?_; clear S a; intro a S)
  (refine wpl_v S rfl rfl rfl (sv_build S rfl rfl rfl) ?_; clear S a; intro a S)
  (refine wpl_v S rfl rfl rfl (sv_build S rfl rfl rfl) ?_; clear S a; intro a S)
  (refine wpl_v S rfl rfl rfl (sv_build S rfl rfl rfl) ?_; clear S a; intro a S)
  (refine wpl_v S rfl rfl rfl (sv_build S rfl rfl rfl) ?_; clear S a; intro a S)
  (refine wpl_v S rfl rfl rfl (sv_build S rfl rfl rfl) ?_; clear S a; intro a S)
  (refine wpl_v S rfl rfl rfl (sv_build S rfl rfl rfl) ?_; clear S a; intro a S)
  (refine wpl_v S rfl rfl rfl (sv_build S rfl rfl rfl) ?_; clear S a; intro a S)
  (refine wpl_v S rfl rfl rfl (sv_build S rfl rfl rfl) ?_; clear S a; intro a S)
  (refine wpl_v S rfl rfl rfl (sv_build S rfl rfl rfl) ?_; clear S a; intro a S)
  (refine wpl_v S rfl rfl rfl (sv_build S rfl rfl rfl) ?_; clear S a; intro a S)
  (refine wpl_v S rfl rfl rfl (sv_build S rfl rfl rfl) ?_; clear S a; intro a S)
  ((first | (refine wpl_call0 S rfl rfl rfl rfl rfl rfl (manyCt 33 97 _ (by decide)) rfl ?_) | (refine wpl_call0 S rfl rfl rfl rfl rfl rfl (manyCt 33 65 _ (by decide)) rfl ?_) | (refine wpl_call0 S rfl rfl rfl rfl rfl rfl (manyCt 201 57 _ (by decide)) rfl ?_) | (refine wpl_call0 S rfl rfl rfl rfl rfl rfl (manyCt 4097 97 _ (by decide)) rfl ?_) | (refine wpl_call0 S rfl rfl rfl rfl rfl rfl (manyCt 65537 32 _ (by decide)) rfl ?_) | (refine wpl_call0 S rfl rfl rfl rfl rfl rfl (manyCt 32 97 _ (by decide)) rfl ?_) | (refine wpl_call0 S rfl rfl rfl rfl rfl rfl (manyCt 32 98 _ (by decide)) rfl ?_) | (refine wpl_call0 S rfl rfl rfl rfl rfl rfl (manyCt 200 57 _ (by decide)) rfl ?_) | (refine wpl_call0 S rfl rfl rfl rfl rfl rfl (manyCt 65536 32 _ (by decide)) rfl ?_)); clear S a; intro v a w hv S; subst hv)
  (refine wpl_v S rfl rfl rfl (sv_build S rfl rfl rfl) ?_; clear S a; intro a S)
  (refine wpl_v S rfl rfl rfl (sv_build S rfl rfl rfl) ?_; clear S a; intro a S)
  ((first | (refine wpl_call0 S rfl rfl rfl rfl rfl rfl (manyCt 33 97 _ (by decide)) rfl ?_) | (refine wpl_call0 S rfl rfl rfl rfl rfl rfl (manyCt 33 65 _ (by decide)) rfl ?_) | (refine wpl_call0 S rfl rfl rfl rfl rfl rfl (manyCt 201 57 _ (by decide)) rfl ?_) | (refine wpl_call0 S rfl rfl rfl rfl rfl rfl (manyCt 4097 97 _ (by decide)) rfl ?_) | (refine wpl_call0 S rfl rfl rfl rfl rfl rfl (manyCt 65537 32 _ (by decide)) rfl ?_) | (refine wpl_call0 S rfl rfl rfl rfl rfl rfl (manyCt 32 97 _ (by decide)) rfl ?_) | (refine wpl_call0 S rfl rfl rfl rfl rfl rfl (manyCt 32 98 _ (by decide)) rfl ?_) | (refine wpl_call0 S rfl rfl rfl rfl rfl rfl (manyCt 200 57 _ (by decide)) rfl ?_) | (refine wpl_call0 S rfl rfl rfl rfl rfl rfl (manyCt 65536 32 _ (by decide)) rfl ?_)); clear S a; intro v a w hv S; subst hv)
  (refine wpl_v S rfl rfl rfl (sv_cat S rfl rfl rfl (by first | omega | (simp only [List.length_append, List.length_cons, List.length_nil, rep_len]; omega))) ?_; clear S a; intro a S)
  (refine wpl_v S rfl rfl rfl (sv_build S rfl rfl rfl) ?_; clear S a; intro a S)
  (refine wpl_v S rfl rfl rfl (sv_build S rfl rfl rfl) ?_; clear S a; intro a S)
  ((first | (refine wpl_call0 S rfl rfl rfl rfl rfl rfl (manyCt 33 97 _ (by decide)) rfl ?_) | (refine wpl_call0 S rfl rfl rfl rfl rfl rfl (manyCt 33 65 _ (by decide)) rfl ?_) | (refine wpl_call0 S rfl rfl rfl rfl rfl rfl (manyCt 201 57 _ (by decide)) rfl ?_) | (refine wpl_call0 S rfl rfl rfl rfl rfl rfl (manyCt 4097 97 _ (by decide)) rfl ?_) | (refine wpl_call0 S rfl rfl rfl rfl rfl rfl (manyCt 65537 32 _ (by decide)) rfl ?_) | (refine wpl_call0 S rfl rfl rfl rfl rfl rfl (manyCt 32 97 _ (by decide)) rfl ?_) | (refine wpl_call0 S rfl rfl rfl rfl rfl rfl (manyCt 32 98 _ (by decide)) rfl ?_) | (refine wpl_call0 S rfl rfl rfl rfl rfl rfl (manyCt 200 57 _ (by decide)) rfl ?_) | (refine wpl_call0 S rfl rfl rfl rfl rfl rfl (manyCt 65536 32 _ (by decide)) rfl ?_)); clear S a; intro v a w hv S; subst hv)
  (refine wpl_v S rfl rfl rfl (sv_build S rfl rfl rfl) ?_; clear S a; intro a S)
  (refine wpl_v S rfl rfl rfl (sv_build S rfl rfl rfl) ?_; clear S a; intro a S)
  ((first | (refine wpl_call0 S rfl rfl rfl rfl rfl rfl (manyCt 33 97 _ (by decide)) rfl ?_) | (refine wpl_call0 S rfl rfl rfl rfl rfl rfl (manyCt 33 65 _ (by decide)) rfl ?_) | (refine wpl_call0 S rfl rfl rfl rfl rfl rfl (manyCt 201 57 _ (by decide)) rfl ?_) | (refine wpl_call0 S rfl rfl rfl rfl rfl rfl (manyCt 4097 97 _ (by decide)) rfl ?_) | (refine wpl_call0 S rfl rfl rfl rfl rfl rfl (manyCt 65537 32 _ (by decide)) rfl ?_) | (refine wpl_call0 S rfl rfl rfl rfl rfl rfl (manyCt 32 97 _ (by decide)) rfl ?_) | (refine wpl_call0 S rfl rfl rfl rfl rfl rfl (manyCt 32 98 _ (by decide)) rfl ?_) | (refine wpl_call0 S rfl rfl rfl rfl rfl rfl (manyCt 200 57 _ (by decide)) rfl ?_) | (refine wpl_call0 S rfl rfl rfl rfl rfl rfl (manyCt 65536 32 _ (by decide)) rfl ?_)); clear S a; intro v a w hv S; subst hv)
  (refine wpl_v S rfl rfl rfl (sv_cat S rfl rfl rfl (by first | omega | (simp only [List.length_append, List.length_cons, List.length_nil, rep_len]; omega))) ?_; clear S a; intro a S)
  (refine wpl_v S rfl rfl rfl (sv_build S rfl rfl rfl) ?_; clear S a; intro a S)
  (refine wpl_v S rfl rfl rfl (sv_build S rfl rfl rfl) ?_; clear S a; intro a S)
  ((first | (refine wpl_call0 S rfl rfl rfl rfl rfl rfl (manyCt 33 97 _ (by decide)) rfl ?_) | (refine wpl_call0 S rfl rfl rfl rfl rfl rfl (manyCt 33 65 _ (by decide)) rfl ?_) | (refine wpl_call0 S rfl rfl rfl rfl rfl rfl (manyCt 201 57 _ (by decide)) rfl ?_) | (refine wpl_call0 S rfl rfl rfl rfl rfl rfl (manyCt 4097 97 _ (by decide)) rfl ?_) | (refine wpl_call0 S rfl rfl rfl rfl rfl rfl (manyCt 65537 32 _ (by decide)) rfl ?_) | (refine wpl_call0 S rfl rfl rfl rfl rfl rfl (manyCt 32 97 _ (by decide)) rfl ?_) | (refine wpl_call0 S rfl rfl rfl rfl rfl rfl (manyCt 32 98 _ (by decide)) rfl ?_) | (refine wpl_call0 S rfl rfl rfl rfl rfl rfl (manyCt 200 57 _ (by decide)) rfl ?_) | (refine wpl_call0 S rfl rfl rfl rfl rfl rfl (manyCt 65536 32 _ (by decide)) rfl ?_)); clear S a; intro v a w hv S; subst hv)
  (refine wpl_v S rfl rfl rfl (sv_build S rfl rfl rfl) ?_; clear S a; intro a S)
  (refine wpl_v S rfl rfl rfl (sv_build S rfl rfl rfl) ?_; clear S a; intro a S)
  ((first | (refine wpl_call0 S rfl rfl rfl rfl rfl rfl (manyCt 33 97 _ (by decide)) rfl ?_) | (refine wpl_call0 S rfl rfl rfl rfl rfl rfl (manyCt 33 65 _ (by decide)) rfl ?_) | (refine wpl_call0 S rfl rfl rfl rfl rfl rfl (manyCt 201 57 _ (by decide)) rfl ?_) | (refine wpl_call0 S rfl rfl rfl rfl rfl rfl (manyCt 4097 97 _ (by decide)) rfl ?_) | (refine wpl_call0 S rfl rfl rfl rfl rfl rfl (manyCt 65537 32 _ (by decide)) rfl ?_) | (refine wpl_call0 S rfl rfl rfl rfl rfl rfl (manyCt 32 97 _ (by decide)) rfl ?_) | (refine wpl_call0 S rfl rfl rfl rfl rfl rfl (manyCt 32 98 _ (by decide)) rfl ?_) | (refine wpl_call0 S rfl rfl rfl rfl rfl rfl (manyCt 200 57 _ (by decide)) rfl ?_) | (refine wpl_call0 S rfl rfl rfl rfl rfl rfl (manyCt 65536 32 _ (by decide)) rfl ?_)); clear S a; intro v a w hv S; subst hv)
  (refine wpl_v S rfl rfl rfl (sv_cat S rfl rfl rfl (by first | omega | (simp only [List.length_append, List.length_cons, List.length_nil, rep_len]; omega))) ?_; clear S a; intro a S)
  (refine wpl_v S rfl rfl rfl (sv_cat S rfl rfl rfl (by first | omega | (simp only [List.length_append, List.length_cons, List.length_nil, rep_len]; omega))) ?_; clear S a; intro a S)
  (refine wpl_v S rfl rfl rfl (sv_build S rfl rfl rfl) ?_; clear S a; intro a S)
  (refine wpl_v S rfl rfl rfl (sv_build S rfl rfl rfl) ?_; clear S a; intro a S)
  ((first | (refine wpl_call0 S rfl rfl rfl rfl rfl rfl (manyCt 33 97 _ (by decide)) rfl ?_) | (refine wpl_call0 S rfl rfl rfl rfl rfl rfl (manyCt 33 65 _ (by decide)) rfl ?_) | (refine wpl_call0 S rfl rfl rfl rfl rfl rfl (manyCt 201 57 _ (by decide)) rfl ?_) | (refine wpl_call0 S rfl rfl rfl rfl rfl rfl (manyCt 4097 97 _ (by decide)) rfl ?_) | (refine wpl_call0 S rfl rfl rfl rfl rfl rfl (manyCt 65537 32 _ (by decide)) rfl ?_) | (refine wpl_call0 S rfl rfl rfl rfl rfl rfl (manyCt 32 97 _ (by decide)) rfl ?_) | (refine wpl_call0 S rfl rfl rfl rfl rfl rfl (manyCt 32 98 _ (by decide)) rfl ?_) | (refine wpl_call0 S rfl rfl rfl rfl rfl rfl (manyCt 200 57 _ (by decide)) rfl ?_) | (refine wpl_call0 S rfl rfl rfl rfl rfl rfl (manyCt 65536 32 _ (by decide)) rfl ?_)); clear S a; intro v a w hv S; subst hv)
  (refine wpl_v S rfl rfl rfl (sv_build S rfl rfl rfl) ?_; clear S a; intro a S)
  (refine wpl_v S rfl rfl rfl (sv_build S rfl rfl rfl) ?_; clear S a; intro a S)
  (refine wpl_buildSlice S rfl rfl rfl rfl rfl rfl (by rfl) (by simp [Value.cells, splice, splice, exC, sxC]) rfl (by rfl) (by rfl) ?_; clear S a; intro b82 a w hown S)
  (have hown2 : OwnS 35 4 (.slice (some ⟨b82, 0, none⟩) 18 18) 18 (rowsE.flatMap exC) [(b82, .cells ⟨rowsE.flatMap exC⟩ 35 (0, 0))] := hown; replace S : St _ _ _ _ _ F [[(b82, .cells ⟨rowsE.flatMap exC⟩ 35 (0, 0))]] _ _ := S; clear hown; have hcs := own_cels F hown2 (by decide); have hle := add_le (G1 := []) S; replace S := St.freeze (G1 := []) S; (simp only [List.nil_append] at S hle); have hsp := hF.mono hle; generalize F.add _ = F1 at S hcs hle hsp)
  (refine wpl_v S rfl rfl rfl (sv_lenSl S rfl rfl) ?_; clear S a; intro a S)
  (refine wpl_v S rfl rfl rfl (sv_pure S rfl) ?_; clear S a; intro a S)
  refine wpList_nil ?_
  (refine hKq5 _ _ ?_; try (clear hKq5 Kq5))
  refine wp_block ?_
  refine wpc_loop (fun m a w' => ∃ (i : Nat) (F2 : Heap), m = 18 - i ∧ i ≤ 18 ∧ (∀ b o, F1 b = some o → F2 b = some o) ∧ St 167 [(82, .slice (some ⟨b82, 0, none⟩) 18 18), (83, .int .i64 18), (84, .int .i64 (i : Int))] w0 F [] F2 [] a w') ?_ ?_
  · (refine ⟨18, 0, F1, rfl, Nat.zero_le _, fun _ _ h => h, ?_⟩; refine S.keep ?_; repeat (first | exact trivial | refine ⟨rfl, ?_⟩))
  · (clear S; rintro m a w ⟨i, F2, rfl, hi, hF2, S⟩)
    (refine wp_seq_k ?_; intro Kq6 hKq6)
    refine wp_region_lit ?_
    (refine wpl_v S rfl rfl rfl (sv_pure S rfl) ?_; clear S a; intro a S)
    refine wpList_nil ?_
    (refine hKq6 _ _ ?_; try (clear hKq6 Kq6))
    (refine wp_seq_k ?_; intro Kq7 hKq7)
    refine wpc_split S rfl (fun h => ?_) (fun h => ?_)
    · (skip; (try simp only [decide_eq_true_eq, decide_eq_false_iff_not, beq_iff_eq, bne_iff_ne, bne_eq_false_iff_eq, beq_eq_false_iff_ne, ne_eq, Bool.not_eq_true', Bool.not_eq_false', Bool.not_eq_true, Bool.not_eq_false, Bool.not_true, Bool.not_false, Int.ofNat_lt, Int.ofNat_le, Nat.not_lt, Nat.not_le] at h))
      refine wp_skip ?_
      (refine hKq7 _ _ ?_; try (clear hKq7 Kq7))
      (refine wp_seq_k ?_; intro Kq8 hKq8)
      refine wp_block ?_
      (refine wp_seq_k ?_; intro Kq9 hKq9)
      (obtain ⟨x, hok, hca⟩ := rowE_at (i := i) (Cels.mono hF2 hcs) (by omega); have hlen := hok.2)
      refine wp_region_lit ?_
      (refine wpl_v S rfl rfl rfl (sv_indexAddrSl S rfl rfl rfl (by first | omega | (simp only [List.length_append, List.length_cons, List.length_nil, rep_len]; omega))) ?_; clear S a; intro a S)
      first | (refine wpl_v S rfl rfl rfl (sv_loadAO S rfl rfl (by rfl)) ?_; clear S a; intro a S) | (refine wpl_v S rfl rfl rfl (sv_loadAF S rfl rfl (by assumption) (by rfl)) ?_; clear S a; intro a S)
      (refine wpl_alloc S rfl rfl rfl rfl ?_; clear S a; intro b2 a w S)
      (refine wpl_storeO S rfl rfl rfl rfl rfl (by rfl) (by simp [Value.cells, Value.oneCell', splice, exC, sxC]) (by rfl) ?_; clear S; intro w S)
      refine wpList_nil ?_
      (refine hKq9 _ _ ?_; try (clear hKq9 Kq9))
      (refine wp_seq_k ?_; intro Kq10 hKq10)
      refine wp_region_lit ?_
      (refine wpl_v S rfl rfl rfl (sv_fieldAddr S rfl rfl rfl inferInstance rfl) ?_; clear S a; intro a S)
      first | (refine wpl_v S rfl rfl rfl (sv_loadO S rfl rfl (by rfl)) ?_; clear S a; intro a S) | (refine wpl_v S rfl rfl rfl (sv_loadF S rfl rfl (by assumption)) ?_; clear S a; intro a S)
      (refine wpl_callF S rfl rfl rfl rfl rfl rfl (tokensCt x.t F2 (hsp.mono hF2) (by omega)) rfl ?_; clear S a; intro v F3 a w hv hF3 S; obtain ⟨vt, rfl, hvt⟩ := hv; have hvt2 := hvt; (first | rw [hok.1] at S hvt2 | rw [hok.1] at S); obtain ⟨ao, cap, rfl, hcap, -⟩ := hvt2)
      (refine wpl_v S rfl rfl rfl (sv_pure S rfl) ?_; clear S a; intro a S)
      (refine wpl_v S rfl rfl rfl (sv_pure S rfl) ?_; clear S a; intro a S)
      (refine wpl_v S rfl rfl rfl (sv_pure S rfl) ?_; clear S a; intro a S)
      (refine wpl_v S rfl rfl rfl (sv_pure S rfl) ?_; clear S a; intro a S)
      (refine wpl_alloc S rfl rfl rfl rfl ?_; clear S a; intro b4 a w S)
      (refine wpl_v S rfl rfl rfl (sv_pure S rfl) ?_; clear S a; intro a S)
      (refine wpl_storeO S rfl rfl rfl rfl rfl (by rfl) (by simp [Value.cells, Value.oneCell', splice, exC, sxC]) (by rfl) ?_; clear S; intro w S)
      (refine wpl_v S rfl rfl rfl (sv_pure S rfl) ?_; clear S a; intro a S)
      refine wpList_nil ?_
      (refine hKq10 _ _ ?_; try (clear hKq10 Kq10))
      (refine wp_seq_k ?_; intro Kq11 hKq11)
      refine wp_region_lit ?_
      (refine wpl_v S rfl rfl rfl (sv_pure S rfl) ?_; clear S a; intro a S)
      (refine wpl_v S rfl rfl rfl (sv_lenSl S rfl rfl) ?_; clear S a; intro a S)
      (refine wpl_v S rfl rfl rfl (sv_lit (c := false) (sv_pure S rfl) (by rfl)) ?_; clear S a; intro a S)
      (refine wpl_v S rfl rfl rfl (sv_pure S rfl) ?_; clear S a; intro a S)
      refine wpl_take S rfl rfl rfl ?_
      first | (refine wpl_v S rfl rfl rfl (sv_loadAO S rfl rfl (by rfl)) ?_; clear S a; intro a S) | (refine wpl_v S rfl rfl rfl (sv_loadAF S rfl rfl (by assumption) (by rfl)) ?_; clear S a; intro a S)
      refine wpl_take S rfl rfl rfl ?_
      (refine wpl_v S rfl rfl rfl (sv_fieldAddr S rfl rfl rfl inferInstance rfl) ?_; clear S a; intro a S)
      refine wpl_take S rfl rfl rfl ?_
      first | (refine wpl_v S rfl rfl rfl (sv_loadAO S rfl rfl (by rfl)) ?_; clear S a; intro a S) | (refine wpl_v S rfl rfl rfl (sv_loadAF S rfl rfl (by assumption) (by rfl)) ?_; clear S a; intro a S)
      refine wpl_take S rfl rfl rfl ?_
      (refine wpl_v S rfl rfl rfl (sv_lit (c := false) (sv_neAgg S rfl rfl rfl guardPos (fun w => eqPos _ _ _ _ w)) (by simp)) ?_; clear S a; intro a S)
      first | (refine wpl_v S rfl rfl rfl (sv_pure S rfl) ?_; clear S a; intro a S) | (refine wpl_v S rfl rfl rfl (sv_pickB S rfl rfl rfl rfl) ?_; clear S a; intro a S)
      (refine wpl_v S rfl rfl rfl (sv_pure S rfl) ?_; clear S a; intro a S)
      refine wpl_take S rfl rfl rfl ?_
      (refine wpl_v S rfl rfl rfl (sv_pure S rfl) ?_; clear S a; intro a S)
      refine wpl_take S rfl rfl rfl ?_
      (refine wpl_v S rfl rfl rfl (sv_fieldAddr S rfl rfl rfl inferInstance rfl) ?_; clear S a; intro a S)
      refine wpl_take S rfl rfl rfl ?_
      first | (refine wpl_v S rfl rfl rfl (sv_loadO S rfl rfl (by rfl)) ?_; clear S a; intro a S) | (refine wpl_v S rfl rfl rfl (sv_loadF S rfl rfl (by assumption)) ?_; clear S a; intro a S)
      refine wpl_take S rfl rfl rfl ?_
      (refine wpl_v S rfl rfl rfl (sv_lit (c := false) (sv_pure S rfl) (by simp)) ?_; clear S a; intro a S)
      first | (refine wpl_v S rfl rfl rfl (sv_pure S rfl) ?_; clear S a; intro a S) | (refine wpl_v S rfl rfl rfl (sv_pickB S rfl rfl rfl rfl) ?_; clear S a; intro a S)
      refine wpList_nil ?_
      (refine hKq11 _ _ ?_; try (clear hKq11 Kq11))
      refine wpc_false S rfl ?_
      refine wp_skip ?_
      (refine hKq8 _ _ ?_; try (clear hKq8 Kq8))
      refine wp_region_lit ?_
      (refine wpl_v S rfl rfl rfl (sv_add S rfl rfl rfl (by first | omega | (simp only [List.length_append, List.length_cons, List.length_nil, rep_len]; omega))) ?_; clear S a; intro a S)
      (refine wpl_v S rfl rfl rfl (sv_pure S rfl) ?_; clear S a; intro a S)
      refine wpList_nil ?_
      change ∃ m', _ ∧ _
      (replace S := S.drop1; replace S := S.drop1; refine ⟨18 - (i + 1), by omega, i + 1, F3, rfl, by omega, fun b o h => hF3 _ _ (hF2 _ _ h), ?_⟩; refine S.keep ?_; repeat (first | exact trivial | refine ⟨rfl, ?_⟩))
    · (skip; (try simp only [decide_eq_true_eq, decide_eq_false_iff_not, beq_iff_eq, bne_iff_ne, bne_eq_false_iff_eq, beq_eq_false_iff_ne, ne_eq, Bool.not_eq_true', Bool.not_eq_false', Bool.not_eq_true, Bool.not_eq_false, Bool.not_true, Bool.not_false, Int.ofNat_lt, Int.ofNat_le, Nat.not_lt, Nat.not_le] at h))
      refine wp_exit ?_
      (refine hKq4 _ _ ?_; try (clear hKq4 Kq4))
      (refine wp_seq_k ?_; intro Kq8 hKq8)
      (refine wp_seq_k ?_; intro Kq9 hKq9)
      refine wp_region_lit ?_
      (refine wpl_v S rfl rfl rfl (sv_build S rfl rfl rfl) ?_; clear S a; intro a S)
      (refine wpl_v S rfl rfl rfl (sv_build S rfl rfl rfl) ?_; clear S a; intro a S)
      (refine wpl_v S rfl rfl rfl (sv_build S rfl rfl rfl) ?_; clear S a; intro a S)
      (refine wpl_v S rfl rfl rfl (sv_build S rfl rfl rfl) ?_; clear S a; intro a S)
      (refine wpl_v S rfl rfl rfl (sv_build S rfl rfl rfl) ?_; clear S a; intro a S)
      (refine wpl_v S rfl rfl rfl (sv_build S rfl rfl rfl) ?_; clear S a; intro a S)
      (refine wpl_v S rfl rfl rfl (sv_build S rfl rfl rfl) ?_; clear S a; intro a S)
      (refine wpl_v S rfl rfl rfl (sv_build S rfl rfl rfl) ?_; clear S a; intro a S)
      (refine wpl_v S rfl rfl rfl (sv_build S rfl rfl rfl) ?_; clear S a; intro a S)
      (refine wpl_v S rfl rfl rfl (sv_build S rfl rfl rfl) ?_; clear S a; intro a S)
      (refine wpl_v S rfl rfl rfl (sv_build S rfl rfl rfl) ?_; clear S a; intro a S)
      (refine wpl_v S rfl rfl rfl (sv_build S rfl rfl rfl) ?_; clear S a; intro a S)
      (refine wpl_v S rfl rfl rfl (sv_build S rfl rfl rfl) ?_; clear S a; intro a S)
      ((first | (refine wpl_call0 S rfl rfl rfl rfl rfl rfl (manyCt 33 97 _ (by decide)) rfl ?_) | (refine wpl_call0 S rfl rfl rfl rfl rfl rfl (manyCt 33 65 _ (by decide)) rfl ?_) | (refine wpl_call0 S rfl rfl rfl rfl rfl rfl (manyCt 201 57 _ (by decide)) rfl ?_) | (refine wpl_call0 S rfl rfl rfl rfl rfl rfl (manyCt 4097 97 _ (by decide)) rfl ?_) | (refine wpl_call0 S rfl rfl rfl rfl rfl rfl (manyCt 65537 32 _ (by decide)) rfl ?_) | (refine wpl_call0 S rfl rfl rfl rfl rfl rfl (manyCt 32 97 _ (by decide)) rfl ?_) | (refine wpl_call0 S rfl rfl rfl rfl rfl rfl (manyCt 32 98 _ (by decide)) rfl ?_) | (refine wpl_call0 S rfl rfl rfl rfl rfl rfl (manyCt 200 57 _ (by decide)) rfl ?_) | (refine wpl_call0 S rfl rfl rfl rfl rfl rfl (manyCt 65536 32 _ (by decide)) rfl ?_)); clear S a; intro v a w hv S; subst hv)
      (refine wpl_v S rfl rfl rfl (sv_cat S rfl rfl rfl (by first | omega | (simp only [List.length_append, List.length_cons, List.length_nil, rep_len]; omega))) ?_; clear S a; intro a S)
      ((first | (refine wpl_call0 S rfl rfl rfl rfl rfl rfl (manyCt 33 97 _ (by decide)) rfl ?_) | (refine wpl_call0 S rfl rfl rfl rfl rfl rfl (manyCt 33 65 _ (by decide)) rfl ?_) | (refine wpl_call0 S rfl rfl rfl rfl rfl rfl (manyCt 201 57 _ (by decide)) rfl ?_) | (refine wpl_call0 S rfl rfl rfl rfl rfl rfl (manyCt 4097 97 _ (by decide)) rfl ?_) | (refine wpl_call0 S rfl rfl rfl rfl rfl rfl (manyCt 65537 32 _ (by decide)) rfl ?_) | (refine wpl_call0 S rfl rfl rfl rfl rfl rfl (manyCt 32 97 _ (by decide)) rfl ?_) | (refine wpl_call0 S rfl rfl rfl rfl rfl rfl (manyCt 32 98 _ (by decide)) rfl ?_) | (refine wpl_call0 S rfl rfl rfl rfl rfl rfl (manyCt 200 57 _ (by decide)) rfl ?_) | (refine wpl_call0 S rfl rfl rfl rfl rfl rfl (manyCt 65536 32 _ (by decide)) rfl ?_)); clear S a; intro v a w hv S; subst hv)
      (refine wpl_v S rfl rfl rfl (sv_cat S rfl rfl rfl (by first | omega | (simp only [List.length_append, List.length_cons, List.length_nil, rep_len]; omega))) ?_; clear S a; intro a S)
      ((first | (refine wpl_call0 S rfl rfl rfl rfl rfl rfl (manyCt 33 97 _ (by decide)) rfl ?_) | (refine wpl_call0 S rfl rfl rfl rfl rfl rfl (manyCt 33 65 _ (by decide)) rfl ?_) | (refine wpl_call0 S rfl rfl rfl rfl rfl rfl (manyCt 201 57 _ (by decide)) rfl ?_) | (refine wpl_call0 S rfl rfl rfl rfl rfl rfl (manyCt 4097 97 _ (by decide)) rfl ?_) | (refine wpl_call0 S rfl rfl rfl rfl rfl rfl (manyCt 65537 32 _ (by decide)) rfl ?_) | (refine wpl_call0 S rfl rfl rfl rfl rfl rfl (manyCt 32 97 _ (by decide)) rfl ?_) | (refine wpl_call0 S rfl rfl rfl rfl rfl rfl (manyCt 32 98 _ (by decide)) rfl ?_) | (refine wpl_call0 S rfl rfl rfl rfl rfl rfl (manyCt 200 57 _ (by decide)) rfl ?_) | (refine wpl_call0 S rfl rfl rfl rfl rfl rfl (manyCt 65536 32 _ (by decide)) rfl ?_)); clear S a; intro v a w hv S; subst hv)
      (refine wpl_v S rfl rfl rfl (sv_cat S rfl rfl rfl (by first | omega | (simp only [List.length_append, List.length_cons, List.length_nil, rep_len]; omega))) ?_; clear S a; intro a S)
      ((first | (refine wpl_call0 S rfl rfl rfl rfl rfl rfl (manyCt 33 97 _ (by decide)) rfl ?_) | (refine wpl_call0 S rfl rfl rfl rfl rfl rfl (manyCt 33 65 _ (by decide)) rfl ?_) | (refine wpl_call0 S rfl rfl rfl rfl rfl rfl (manyCt 201 57 _ (by decide)) rfl ?_) | (refine wpl_call0 S rfl rfl rfl rfl rfl rfl (manyCt 4097 97 _ (by decide)) rfl ?_) | (refine wpl_call0 S rfl rfl rfl rfl rfl rfl (manyCt 65537 32 _ (by decide)) rfl ?_) | (refine wpl_call0 S rfl rfl rfl rfl rfl rfl (manyCt 32 97 _ (by decide)) rfl ?_) | (refine wpl_call0 S rfl rfl rfl rfl rfl rfl (manyCt 32 98 _ (by decide)) rfl ?_) | (refine wpl_call0 S rfl rfl rfl rfl rfl rfl (manyCt 200 57 _ (by decide)) rfl ?_) | (refine wpl_call0 S rfl rfl rfl rfl rfl rfl (manyCt 65536 32 _ (by decide)) rfl ?_)); clear S a; intro v a w hv S; subst hv)
      (refine wpl_v S rfl rfl rfl (sv_cat S rfl rfl rfl (by first | omega | (simp only [List.length_append, List.length_cons, List.length_nil, rep_len]; omega))) ?_; clear S a; intro a S)
      (refine wpl_v S rfl rfl rfl (sv_build S rfl rfl rfl) ?_; clear S a; intro a S)
      ((first | (refine wpl_call0 S rfl rfl rfl rfl rfl rfl (manyCt 33 97 _ (by decide)) rfl ?_) | (refine wpl_call0 S rfl rfl rfl rfl rfl rfl (manyCt 33 65 _ (by decide)) rfl ?_) | (refine wpl_call0 S rfl rfl rfl rfl rfl rfl (manyCt 201 57 _ (by decide)) rfl ?_) | (refine wpl_call0 S rfl rfl rfl rfl rfl rfl (manyCt 4097 97 _ (by decide)) rfl ?_) | (refine wpl_call0 S rfl rfl rfl rfl rfl rfl (manyCt 65537 32 _ (by decide)) rfl ?_) | (refine wpl_call0 S rfl rfl rfl rfl rfl rfl (manyCt 32 97 _ (by decide)) rfl ?_) | (refine wpl_call0 S rfl rfl rfl rfl rfl rfl (manyCt 32 98 _ (by decide)) rfl ?_) | (refine wpl_call0 S rfl rfl rfl rfl rfl rfl (manyCt 200 57 _ (by decide)) rfl ?_) | (refine wpl_call0 S rfl rfl rfl rfl rfl rfl (manyCt 65536 32 _ (by decide)) rfl ?_)); clear S a; intro v a w hv S; subst hv)
      (refine wpl_v S rfl rfl rfl (sv_cat S rfl rfl rfl (by first | omega | (simp only [List.length_append, List.length_cons, List.length_nil, rep_len]; omega))) ?_; clear S a; intro a S)
      ((first | (refine wpl_call0 S rfl rfl rfl rfl rfl rfl (manyCt 33 97 _ (by decide)) rfl ?_) | (refine wpl_call0 S rfl rfl rfl rfl rfl rfl (manyCt 33 65 _ (by decide)) rfl ?_) | (refine wpl_call0 S rfl rfl rfl rfl rfl rfl (manyCt 201 57 _ (by decide)) rfl ?_) | (refine wpl_call0 S rfl rfl rfl rfl rfl rfl (manyCt 4097 97 _ (by decide)) rfl ?_) | (refine wpl_call0 S rfl rfl rfl rfl rfl rfl (manyCt 65537 32 _ (by decide)) rfl ?_) | (refine wpl_call0 S rfl rfl rfl rfl rfl rfl (manyCt 32 97 _ (by decide)) rfl ?_) | (refine wpl_call0 S rfl rfl rfl rfl rfl rfl (manyCt 32 98 _ (by decide)) rfl ?_) | (refine wpl_call0 S rfl rfl rfl rfl rfl rfl (manyCt 200 57 _ (by decide)) rfl ?_) | (refine wpl_call0 S rfl rfl rfl rfl rfl rfl (manyCt 65536 32 _ (by decide)) rfl ?_)); clear S a; intro v a w hv S; subst hv)
      (refine wpl_v S rfl rfl rfl (sv_cat S rfl rfl rfl (by first | omega | (simp only [List.length_append, List.length_cons, List.length_nil, rep_len]; omega))) ?_; clear S a; intro a S)
      (refine wpl_v S rfl rfl rfl (sv_build S rfl rfl rfl) ?_; clear S a; intro a S)
      (refine wpl_v S rfl rfl rfl (sv_build S rfl rfl rfl) ?_; clear S a; intro a S)
      (refine wpl_v S rfl rfl rfl (sv_build S rfl rfl rfl) ?_; clear S a; intro a S)
      ((first | (refine wpl_call0 S rfl rfl rfl rfl rfl rfl (manyCt 33 97 _ (by decide)) rfl ?_) | (refine wpl_call0 S rfl rfl rfl rfl rfl rfl (manyCt 33 65 _ (by decide)) rfl ?_) | (refine wpl_call0 S rfl rfl rfl rfl rfl rfl (manyCt 201 57 _ (by decide)) rfl ?_) | (refine wpl_call0 S rfl rfl rfl rfl rfl rfl (manyCt 4097 97 _ (by decide)) rfl ?_) | (refine wpl_call0 S rfl rfl rfl rfl rfl rfl (manyCt 65537 32 _ (by decide)) rfl ?_) | (refine wpl_call0 S rfl rfl rfl rfl rfl rfl (manyCt 32 97 _ (by decide)) rfl ?_) | (refine wpl_call0 S rfl rfl rfl rfl rfl rfl (manyCt 32 98 _ (by decide)) rfl ?_) | (refine wpl_call0 S rfl rfl rfl rfl rfl rfl (manyCt 200 57 _ (by decide)) rfl ?_) | (refine wpl_call0 S rfl rfl rfl rfl rfl rfl (manyCt 65536 32 _ (by decide)) rfl ?_)); clear S a; intro v a w hv S; subst hv)
      (refine wpl_v S rfl rfl rfl (sv_build S rfl rfl rfl) ?_; clear S a; intro a S)
      (refine wpl_buildSlice S rfl rfl rfl rfl rfl rfl (by rfl) (by simp [Value.cells, splice, splice, exC, sxC]) rfl (by rfl) (by rfl) ?_; clear S a; intro b142 a w hown S)
      (have hown2 : OwnS 38 2 (.slice (some ⟨b142, 0, none⟩) 18 18) 18 (rowsS.flatMap sxC) [(b142, .cells ⟨rowsS.flatMap sxC⟩ 38 (0, 0))] := hown; replace S : St _ _ _ _ _ F2 [[(b142, .cells ⟨rowsS.flatMap sxC⟩ 38 (0, 0))]] _ _ := S; clear hown; have hcs := own_cels F2 hown2 (by decide); have hle := add_le (G1 := []) S; replace S := St.freeze (G1 := []) S; (simp only [List.nil_append] at S hle); have hsp := (hsp.mono hF2).mono hle; generalize F2.add _ = F5 at S hcs hle hsp)
      (refine wpl_v S rfl rfl rfl (sv_lenSl S rfl rfl) ?_; clear S a; intro a S)
      (refine wpl_v S rfl rfl rfl (sv_pure S rfl) ?_; clear S a; intro a S)
      refine wpList_nil ?_
      (refine hKq9 _ _ ?_; try (clear hKq9 Kq9))
      refine wp_block ?_
      refine wpc_loop (fun m a w' => ∃ (i : Nat) (F2 : Heap), m = 18 - i ∧ i ≤ 18 ∧ (∀ b o, F5 b = some o → F2 b = some o) ∧ St 167 [(142, .slice (some ⟨b142, 0, none⟩) 18 18), (143, .int .i64 18), (144, .int .i64 (i : Int))] w0 F [] F2 [] a w') ?_ ?_
      · (refine ⟨18, 0, F5, rfl, Nat.zero_le _, fun _ _ h => h, ?_⟩; refine S.keep ?_; repeat (first | exact trivial | refine ⟨rfl, ?_⟩))
      · (clear S; rintro m a w ⟨i, F2, rfl, hi, hF2, S⟩)
        (refine wp_seq_k ?_; intro Kq10 hKq10)
        refine wp_region_lit ?_
        (refine wpl_v S rfl rfl rfl (sv_pure S rfl) ?_; clear S a; intro a S)
        refine wpList_nil ?_
        (refine hKq10 _ _ ?_; try (clear hKq10 Kq10))
        (refine wp_seq_k ?_; intro Kq11 hKq11)
        refine wpc_split S rfl (fun h => ?_) (fun h => ?_)
        · (skip; (try simp only [decide_eq_true_eq, decide_eq_false_iff_not, beq_iff_eq, bne_iff_ne, bne_eq_false_iff_eq, beq_eq_false_iff_ne, ne_eq, Bool.not_eq_true', Bool.not_eq_false', Bool.not_eq_true, Bool.not_eq_false, Bool.not_true, Bool.not_false, Int.ofNat_lt, Int.ofNat_le, Nat.not_lt, Nat.not_le] at h))
          refine wp_skip ?_
          (refine hKq11 _ _ ?_; try (clear hKq11 Kq11))
          (refine wp_seq_k ?_; intro Kq12 hKq12)
          refine wp_block ?_
          (refine wp_seq_k ?_; intro Kq13 hKq13)
          (obtain ⟨x, hok, hca⟩ := rowS_at (i := i) (Cels.mono hF2 hcs) (by omega); have hlen := hok.2.2; have htt := tot_tokens x.t; have htl := tokens_len x.t)
          refine wp_region_lit ?_
          (refine wpl_v S rfl rfl rfl (sv_indexAddrSl S rfl rfl rfl (by first | omega | (simp only [List.length_append, List.length_cons, List.length_nil, rep_len]; omega))) ?_; clear S a; intro a S)
          first | (refine wpl_v S rfl rfl rfl (sv_loadAO S rfl rfl (by rfl)) ?_; clear S a; intro a S) | (refine wpl_v S rfl rfl rfl (sv_loadAF S rfl rfl (by assumption) (by rfl)) ?_; clear S a; intro a S)
          (refine wpl_alloc S rfl rfl rfl rfl ?_; clear S a; intro b7 a w S)
          (refine wpl_storeO S rfl rfl rfl rfl rfl (by rfl) (by simp [Value.cells, Value.oneCell', splice, exC, sxC]) (by rfl) ?_; clear S; intro w S)
          refine wpList_nil ?_
          (refine hKq13 _ _ ?_; try (clear hKq13 Kq13))
          (refine wp_seq_k ?_; intro Kq14 hKq14)
          refine wp_region_lit ?_
          (refine wpl_v S rfl rfl rfl (sv_fieldAddr S rfl rfl rfl inferInstance rfl) ?_; clear S a; intro a S)
          first | (refine wpl_v S rfl rfl rfl (sv_loadO S rfl rfl (by rfl)) ?_; clear S a; intro a S) | (refine wpl_v S rfl rfl rfl (sv_loadF S rfl rfl (by assumption)) ?_; clear S a; intro a S)
          (refine wpl_callF S rfl rfl rfl rfl rfl rfl (tokensCt x.t F2 (hsp.mono hF2) (by omega)) rfl ?_; clear S a; intro v F3 a w hv hF3 S; obtain ⟨vt, rfl, hvt⟩ := hv; have hvt2 := hvt; (first | rw [hok.1] at S hvt2 | rw [hok.1] at S); obtain ⟨ao, cap, rfl, hcap, -⟩ := hvt2)
          (refine wpl_v S rfl rfl rfl (sv_pure S rfl) ?_; clear S a; intro a S)
          (refine wpl_v S rfl rfl rfl (sv_pure S rfl) ?_; clear S a; intro a S)
          (refine wpl_v S rfl rfl rfl (sv_pure S rfl) ?_; clear S a; intro a S)
          (refine wpl_v S rfl rfl rfl (sv_pure S rfl) ?_; clear S a; intro a S)
          (refine wpl_alloc S rfl rfl rfl rfl ?_; clear S a; intro b9 a w S)
          (refine wpl_v S rfl rfl rfl (sv_pure S rfl) ?_; clear S a; intro a S)
          (refine wpl_storeO S rfl rfl rfl rfl rfl (by rfl) (by simp [Value.cells, Value.oneCell', splice, exC, sxC]) (by rfl) ?_; clear S; intro w S)
          (refine wpl_v S rfl rfl rfl (sv_pure S rfl) ?_; clear S a; intro a S)
          refine wpList_nil ?_
          (refine hKq14 _ _ ?_; try (clear hKq14 Kq14))
          (refine wp_seq_k ?_; intro Kq15 hKq15)
          (refine wpc_mixM [0, 1, 2, 3, 5, 6, 7, 8] [6] [] (.one 0 (.one 1 (.one 2 (.one 3 (.one 5 (.one 6 (.one 4 (.one 7 (.one 8 .nil))))))))) [b7] S mixed (by kernel_rfl) ?_; clear S; intro w S)
          (refine wpm_v S rfl rfl rfl (want_none _ rfl) rfl rfl (fun w' S => sv_pure S rfl) ?_; clear S a; intro a S)
          (refine wpm_v S rfl rfl rfl (want_none _ rfl) rfl rfl (fun w' S => sv_lit (c := false) (sv_pure S rfl) (by simp)) ?_; clear S a; intro a S)
          (refine wpm_v S rfl rfl rfl (want_none _ rfl) rfl rfl (fun w' S => sv_pure S rfl) ?_; clear S a; intro a S)
          (refine wpm_v S rfl rfl rfl (want_yes S rfl rfl rfl) rfl rfl (fun w' S => sv_pure S rfl) ?_; clear S a; intro a S)
          (refine wpm_v S rfl rfl rfl (want_yes S rfl rfl rfl) rfl rfl (fun w' S => sv_fieldAddr S rfl rfl rfl inferInstance rfl) ?_; clear S a; intro a S)
          first | (refine wpm_lateO b7 S rfl rfl rfl (want_yes S rfl rfl rfl) rfl rfl (fun w' S => sv_loadO S rfl rfl (by rfl)) ?_; clear S a; intro a S) | (refine wpm_lateO b7 S rfl rfl rfl (want_yes S rfl rfl rfl) rfl rfl (fun w' S => sv_loadAO S rfl rfl (by rfl)) ?_; clear S a; intro a S)
          refine wpm_eff rfl rfl (fun _ => ⟨fun b o h => S.tr.frz b o (by first | exact h | solve_by_elim), S.has inferInstance, trivial⟩) ?_
          refine wpl_take S rfl rfl rfl ?_
          (refine wpl_call0 S rfl rfl rfl rfl rfl rfl (lexShowCt (tokens x.t).1 _ F3 (by omega) (by omega) hvt) rfl ?_; clear S a; intro v a w hv S; rw [hok.2.1] at hv; subst hv)
          refine wpList_nil ?_
          (refine wpm_v S rfl rfl rfl (want_yes S rfl rfl rfl) rfl rfl (fun w' S => sv_lit (c := false) (sv_pure S rfl) (by simp)) ?_; clear S a; intro a S)
          first | (refine wpm_v S rfl rfl rfl (want_none _ rfl) rfl rfl (fun w' S => sv_pure S rfl) ?_; clear S a; intro a S) | (refine wpm_v S rfl rfl rfl (want_none _ rfl) rfl rfl (fun w' S => sv_pickB S rfl rfl rfl rfl) ?_; clear S a; intro a S)
          refine wpm_nil (fun _ => ⟨fun b o h => S.tr.frz b o (by first | exact h | solve_by_elim), S.has inferInstance, trivial⟩) ?_
          (refine hKq15 _ _ ?_; try (clear hKq15 Kq15))
          refine wpc_false S rfl ?_
          refine wp_skip ?_
          (refine hKq12 _ _ ?_; try (clear hKq12 Kq12))
          refine wp_region_lit ?_
          (refine wpl_v S rfl rfl rfl (sv_add S rfl rfl rfl (by first | omega | (simp only [List.length_append, List.length_cons, List.length_nil, rep_len]; omega))) ?_; clear S a; intro a S)
          (refine wpl_v S rfl rfl rfl (sv_pure S rfl) ?_; clear S a; intro a S)
          refine wpList_nil ?_
          change ∃ m', _ ∧ _
          (replace S := S.drop1; replace S := S.drop1; refine ⟨18 - (i + 1), by omega, i + 1, F3, rfl, by omega, fun b o h => hF3 _ _ (hF2 _ _ h), ?_⟩; refine S.keep ?_; repeat (first | exact trivial | refine ⟨rfl, ?_⟩))
        · (skip; (try simp only [decide_eq_true_eq, decide_eq_false_iff_not, beq_iff_eq, bne_iff_ne, bne_eq_false_iff_eq, beq_eq_false_iff_ne, ne_eq, Bool.not_eq_true', Bool.not_eq_false', Bool.not_eq_true, Bool.not_eq_false, Bool.not_true, Bool.not_false, Int.ofNat_lt, Int.ofNat_le, Nat.not_lt, Nat.not_le] at h))
          refine wp_exit ?_
          (refine hKq8 _ _ ?_; try (clear hKq8 Kq8))
          (refine wp_seq_k ?_; intro Kq12 hKq12)
          refine wp_region_lit ?_
          (refine wpl_call0 S rfl rfl rfl rfl rfl rfl (lexQuote [0, 127, 32, 97] _ (by decide)) rfl ?_; clear S a; intro v a w hv S; subst hv)
          (refine wpl_v S rfl rfl rfl (sv_pure S rfl) ?_; clear S a; intro a S)
          (refine wpl_v S rfl rfl rfl (sv_pure S rfl) ?_; clear S a; intro a S)
          refine wpList_nil ?_
          (refine hKq12 _ _ ?_; try (clear hKq12 Kq12))
          refine wp_ret ?_
          refine fin_ret S (results1 Tryd.results4 (RV.tmp S rfl)) ?_
          (first | rfl | exact congrArg _ (by decide))
end Go.Proofs.YtpgnmnacfilnkaaDoor
