/- The walk of the lexer's table of words: a map that holds just the words of the language. -/
import Derived.Test.YtpgnmnacfilnkaaDoorLxA
import Derived.Test.YtpgnmnacfilnkaaDoorShelf
namespace Go.Proofs.YtpgnmnacfilnkaaDoor
open Go Go.Wk Go.Lx
set_option linter.unusedSimpArgs false
set_option linter.unusedVariables false
attribute [local irreducible] Go.wpList Go.Code.wp Go.wpStill Go.Wk.wpPre Go.bodyPost Go.Calls Go.Wk.Ct Go.Wk.OwnS
attribute [local irreducible] Go.Wk.wpG Go.Wk.wpM

/-- Go's table of blanks lies in memory. -/
def SpF (F : Heap) : Prop := ∀ w : World, (∀ b o, F b = some o → w.heap[b]? = some o) → Lib.TabIs Tryd.prog w "strings.asciiSpace" .u8 Lib.asciiSpaceTab
theorem SpF.mono {F F' : Heap} (h : SpF F) (hF : ∀ b o, F b = some o → F' b = some o) : SpF F' := fun w hw => h w fun b o hb => hw b o (hF b o hb)

def wordsT : List UInt8 := [109, 111, 100, 117, 108, 101, 32, 105, 109, 112, 111, 114, 116, 32, 112, 117, 98, 32, 116, 121, 112, 101, 32, 105, 110, 112, 117, 116, 32, 114, 101, 108, 32, 110, 101, 118, 101, 114, 32, 110, 111, 116, 32, 97, 110, 100, 32, 111, 114, 32, 105, 102, 32, 116, 104, 101, 110, 32, 101, 108, 115, 101, 32, 116, 114, 117, 101, 32, 102, 97, 108, 115, 101, 32, 99, 111, 117, 110, 116, 32, 115, 117, 109, 32, 109, 105, 110, 32, 109, 97, 120]
theorem fields_words : Lib.fields wordsT = wordsL := by decide +kernel
theorem words_ascii : ∀ b ∈ wordsT, b.toNat < 128 := by decide +kernel

theorem fieldsCt (F : Heap) (hF : SpF F) : Ct Tryd.prog 23 [.string (bs wordsT)] F [] (fun _ G' u => ∃ b, u = .slice (some ⟨b, 0, none⟩) 19 19 ∧ G' = [[(b, .cells ⟨wordsL.map fun l => Value.string (bs l)⟩ 9 (0, 0))]]) := by
  refine ct_of fun w hw => ?_
  have h := Tryd.strings_Fields (bs wordsT) w (by decide) (fun j b hb => words_ascii b (List.mem_of_getElem? hb)) (hF w hw.frz)
  refine h.mono fun e w' ⟨he, hw'⟩ => ?_
  have e0 : Lib.fields (bs wordsT).data.toList = wordsL := fields_words
  rw [e0] at he hw'
  subst hw'
  exact ⟨_, F, _, he, hw.tr.alloc _, _, rfl, rfl⟩

def wmap (i : Nat) : List (List UInt8 × Value) := (wordsL.take i).foldl (fun e k => mSet e k (.agg ⟨[]⟩)) []
def wordsM : List (List UInt8 × Value) := wmap 19
theorem wmap_succ {i : Nat} (h : i < wordsL.length) : wmap (i + 1) = mSet (wmap i) wordsL[i] (.agg ⟨[]⟩) := by
  unfold wmap
  rw [List.take_succ_eq_append_getElem h, List.foldl_append]; rfl
theorem wfold (k : List UInt8) : ∀ (l : List (List UInt8)) (es : List (List UInt8 × Value)), (mGet (l.foldl (fun e k => mSet e k (.agg ⟨[]⟩)) es) k).isSome = (l.contains k || (mGet es k).isSome)
  | [], es => by simp
  | x :: l, es => by
    rw [List.foldl_cons, wfold k l, mGet_set, List.contains_cons]
    by_cases h : k = x
    · subst h; simp
    · rw [if_neg h]
      simp [beq_eq_false_iff_ne.2 h]
theorem wordsM_get (k : List UInt8) : (mGet wordsM k).isSome = isWord k := by
  unfold wordsM wmap
  rw [wfold, show wordsL.take 19 = wordsL from rfl]
  simp [mGet, isWord]

set_option maxHeartbeats 1000000 in
theorem wordsCt (F : Heap) (hF : SpF F) : Ct Tryd.prog 16 [] F [] (fun _ G' u => ∃ mb, u = .map (some mb) ∧ G' = [[(mb, mObj kS wordsM)]]) := by
  refine Ct.enter Tryd.func16 rfl Tryd.ntmps16 rfl fun w0 a S => ?_
  (refine wp_seq_k ?_; intro Kq1 hKq1)
  refine wp_region_lit ?_
  (refine wpl_v S rfl rfl rfl (sv_pure S rfl) ?_; clear S a; intro a S)
  refine wpList_nil ?_
  (refine hKq1 _ _ ?_; try (clear hKq1 Kq1))
  (refine wp_seq_k ?_; intro Kq2 hKq2)
  refine wp_region_lit ?_
  (refine wpl_makeMap kS S rfl rfl rfl rfl ?_; clear S a; intro b a w S)
  (refine wpl_v S rfl rfl rfl (sv_pure S rfl) ?_; clear S a; intro a S)
  refine wpList_nil ?_
  (refine hKq2 _ _ ?_; try (clear hKq2 Kq2))
  (refine wp_seq_k ?_; intro Kq3 hKq3)
  (refine wp_seq_k ?_; intro Kq4 hKq4)
  refine wp_region_lit ?_
  (refine wpl_callFrz (B := fun b => .slice (some ⟨b, 0, none⟩) 19 19) (C := fun _ => wordsL.map fun l => Value.string (bs l)) S rfl rfl rfl rfl rfl rfl (fieldsCt F hF) rfl ?_; clear S a; intro fb F1 a w hF1 hcel S)
  (refine wpl_v S rfl rfl rfl (sv_lenSl S rfl rfl) ?_; clear S a; intro a S)
  (refine wpl_v S rfl rfl rfl (sv_pure S rfl) ?_; clear S a; intro a S)
  refine wpList_nil ?_
  (refine hKq4 _ _ ?_; try (clear hKq4 Kq4))
  refine wp_block ?_
  refine wpc_loop (fun m a w' => ∃ (i : Nat), m = 19 - i ∧ i ≤ 19 ∧ St 16 [(1, .map (some b)), (5, .slice (some ⟨fb, 0, none⟩) 19 19), (6, .int .i64 (19 : Nat)), (7, .int .i64 i)] w0 F [] F1 [[(b, mObj kS (wmap i))]] a w') ?_ ?_
  · (refine ⟨19, 0, by simp, Nat.zero_le _, ?_⟩; refine S.keep ?_; repeat (first | exact trivial | refine ⟨rfl, ?_⟩))
  · (clear S; rintro m a w ⟨i, rfl, hi, S⟩)
    (refine wp_seq_k ?_; intro Kq5 hKq5)
    refine wp_region_lit ?_
    (refine wpl_v S rfl rfl rfl (sv_pure S rfl) ?_; clear S a; intro a S)
    refine wpList_nil ?_
    (refine hKq5 _ _ ?_; try (clear hKq5 Kq5))
    (refine wp_seq_k ?_; intro Kq6 hKq6)
    refine wpc_split S rfl (fun h => ?_) (fun h => ?_)
    · (skip; (try simp only [decide_eq_true_eq, decide_eq_false_iff_not, beq_iff_eq, bne_iff_ne, bne_eq_false_iff_eq, beq_eq_false_iff_ne, ne_eq, Bool.not_eq_true', Bool.not_eq_false', Bool.not_eq_true, Bool.not_eq_false, Bool.not_true, Bool.not_false, Int.ofNat_lt, Int.ofNat_le, Nat.not_lt, Nat.not_le] at h))
      refine wp_skip ?_
      (refine hKq6 _ _ ?_; try (clear hKq6 Kq6))
      (refine wp_seq_k ?_; intro Kq7 hKq7)
      refine wp_block ?_
      (refine wp_seq_k ?_; intro Kq8 hKq8)
      (have hi19 : i < 19 := (by omega); have hc : Cel F1 fb (0 + i * 1) (.string (bs (wordsL[i]'hi19))) := (by rw [Nat.zero_add, Nat.mul_one]; refine hcel i _ ?_; rw [List.getElem?_map, List.getElem?_eq_getElem (show i < wordsL.length from hi19)]; rfl))
      refine wp_region_lit ?_
      (refine wpl_v S rfl rfl rfl (sv_indexAddrSl S rfl rfl rfl (by first | omega | (simp only [List.length_append, List.length_cons, List.length_nil]; omega))) ?_; clear S a; intro a S)
      first | (refine wpl_v S rfl rfl rfl (sv_loadO S rfl rfl (by rfl)) ?_; clear S a; intro a S) | (refine wpl_v S rfl rfl rfl (sv_loadF S rfl rfl (by assumption)) ?_; clear S a; intro a S)
      (refine wpl_v S rfl rfl rfl (sv_pure S rfl) ?_; clear S a; intro a S)
      refine wpList_nil ?_
      (refine hKq8 _ _ ?_; try (clear hKq8 Kq8))
      refine wp_region_lit ?_
      (refine wpl_v S rfl rfl rfl (sv_pure S rfl) ?_; clear S a; intro a S)
      (refine wpl_v S rfl rfl rfl (sv_pure S rfl) ?_; clear S a; intro a S)
      (refine wpl_v S rfl rfl rfl (sv_build S rfl rfl rfl) ?_; clear S a; intro a S)
      (refine wpl_mapSet (enc := kS) S rfl rfl rfl rfl rfl rfl ?_; clear S; intro w S)
      refine wpList_nil ?_
      (refine hKq7 _ _ ?_; try (clear hKq7 Kq7))
      refine wp_region_lit ?_
      (refine wpl_v S rfl rfl rfl (sv_add S rfl rfl rfl (by first | omega | (simp only [List.length_append, List.length_cons, List.length_nil]; omega))) ?_; clear S a; intro a S)
      (refine wpl_v S rfl rfl rfl (sv_pure S rfl) ?_; clear S a; intro a S)
      refine wpList_nil ?_
      change ∃ m', _ ∧ _
      (refine ⟨19 - (i + 1), by omega, i + 1, rfl, by omega, ?_⟩; rw [wmap_succ (show i < wordsL.length from hi19)]; refine S.keep ?_; repeat (first | exact trivial | refine ⟨rfl, ?_⟩))
    · (skip; (try simp only [decide_eq_true_eq, decide_eq_false_iff_not, beq_iff_eq, bne_iff_ne, bne_eq_false_iff_eq, beq_eq_false_iff_ne, ne_eq, Bool.not_eq_true', Bool.not_eq_false', Bool.not_eq_true, Bool.not_eq_false, Bool.not_true, Bool.not_false, Int.ofNat_lt, Int.ofNat_le, Nat.not_lt, Nat.not_le] at h))
      refine wp_exit ?_
      (refine hKq3 _ _ ?_; try (clear hKq3 Kq3))
      (refine wp_seq_k ?_; intro Kq7 hKq7)
      refine wp_region_lit ?_
      (refine wpl_v S rfl rfl rfl (sv_pure S rfl) ?_; clear S a; intro a S)
      (refine wpl_v S rfl rfl rfl (sv_pure S rfl) ?_; clear S a; intro a S)
      refine wpList_nil ?_
      (refine hKq7 _ _ ?_; try (clear hKq7 Kq7))
      refine wp_ret ?_
      have hi2 : i = 19 := by omega
      subst hi2
      refine fin_ret S (results1 Tryd.results16 (RV.tmp S rfl)) ?_
      exact ⟨_, rfl, rfl⟩
end Go.Proofs.YtpgnmnacfilnkaaDoor
