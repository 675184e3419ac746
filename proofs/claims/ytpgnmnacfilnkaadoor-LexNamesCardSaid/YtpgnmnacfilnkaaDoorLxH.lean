/- The walk of the lexer's next: what stands ahead, by the first try that takes it. -/
import Derived.Test.YtpgnmnacfilnkaaDoorLxG
namespace Go.Proofs.YtpgnmnacfilnkaaDoor
open Go Go.Wk Go.Lx
set_option linter.unusedSimpArgs false
set_option linter.unusedVariables false
attribute [local irreducible] Go.wpList Go.Code.wp Go.wpStill Go.Wk.wpPre Go.bodyPost Go.Calls Go.Wk.Ct Go.Wk.OwnS
attribute [local irreducible] Go.Wk.wpG Go.Wk.wpM

def tryN (i : Nat) : List UInt8 → Option Fnd := match i with
  | 0 => nameO | 1 => varF | 2 => numF | 3 => quoO | 4 => fieldF | 5 => signO | _ => fun _ => none
def nextO (r : List UInt8) : Fnd := match nameO r with
  | some f => f
  | none => match varF r with
    | some f => f
    | none => match numF r with
      | some f => f
      | none => match quoO r with
        | some f => f
        | none => match fieldF r with
          | some f => f
          | none => match signO r with
            | some f => f
            | none => bad 4
def fnOf (i : Nat) : Nat := match i with
  | 0 => 28 | 1 => 29 | 2 => 30 | 3 => 31 | 4 => 32 | _ => 33
def fnsV (X : Nat) : List Value := [.func (.func 28) ⟨[ptr X]⟩ ⟨[]⟩, .func (.func 29) ⟨[ptr X]⟩ ⟨[]⟩, .func (.func 30) ⟨[ptr X]⟩ ⟨[]⟩, .func (.func 31) ⟨[ptr X]⟩ ⟨[]⟩, .func (.func 32) ⟨[ptr X]⟩ ⟨[]⟩, .func (.func 33) ⟨[ptr X]⟩ ⟨[]⟩]
theorem fnsV_at (X : Nat) {i : Nat} (h : i < 6) : (fnsV X)[i]? = some (.func (.func (fnOf i)) ⟨[ptr X]⟩ ⟨[]⟩) := by
  rcases (by omega : i = 0 ∨ i = 1 ∨ i = 2 ∨ i = 3 ∨ i = 4 ∨ i = 5) with rfl | rfl | rfl | rfl | rfl | rfl <;> rfl
theorem hasFnOf {i : Nat} (h : i < 6) : HasFn Tryd.prog (fnOf i) := by
  rcases (by omega : i = 0 ∨ i = 1 ∨ i = 2 ∨ i = 3 ∨ i = 4 ∨ i = 5) with rfl | rfl | rfl | rfl | rfl | rfl <;> (simp only [fnOf]; infer_instance)
theorem tryCt (F : Heap) (X mb : Nat) (r : List UInt8) (hL : LexAt F X mb r) (hs : r.length ≤ 1000000000) {i : Nat} (h : i < 6) : Ct Tryd.prog (fnOf i) [ptr X] F [] (fun _ _ u => Tried (tryN i r) u) := by
  rcases (by omega : i = 0 ∨ i = 1 ∨ i = 2 ∨ i = 3 ∨ i = 4 ∨ i = 5) with rfl | rfl | rfl | rfl | rfl | rfl
  · exact nameCt F X mb r hL hs
  · exact variableCt F X mb r hL hs
  · exact numberCt F X mb r hL hs
  · exact quotedCt F X mb r hL hs
  · exact fieldCt F X mb r hL hs
  · exact signCt F X mb r hL hs
theorem nextO_some {r : List UInt8} {i : Nat} {g : Fnd} (h : i < 6) (h1 : ∀ j, j < i → tryN j r = none) (h2 : tryN i r = some g) : nextO r = g := by
  unfold nextO
  rcases (by omega : i = 0 ∨ i = 1 ∨ i = 2 ∨ i = 3 ∨ i = 4 ∨ i = 5) with rfl | rfl | rfl | rfl | rfl | rfl
  · have h2 : nameO r = some g := h2
    rw [h2]
  · have a0 : nameO r = none := h1 0 (by omega)
    have h2 : varF r = some g := h2
    rw [a0, h2]
  · have a0 : nameO r = none := h1 0 (by omega)
    have a1 : varF r = none := h1 1 (by omega)
    have h2 : numF r = some g := h2
    rw [a0, a1, h2]
  · have a0 : nameO r = none := h1 0 (by omega)
    have a1 : varF r = none := h1 1 (by omega)
    have a2 : numF r = none := h1 2 (by omega)
    have h2 : quoO r = some g := h2
    rw [a0, a1, a2, h2]
  · have a0 : nameO r = none := h1 0 (by omega)
    have a1 : varF r = none := h1 1 (by omega)
    have a2 : numF r = none := h1 2 (by omega)
    have a3 : quoO r = none := h1 3 (by omega)
    have h2 : fieldF r = some g := h2
    rw [a0, a1, a2, a3, h2]
  · have a0 : nameO r = none := h1 0 (by omega)
    have a1 : varF r = none := h1 1 (by omega)
    have a2 : numF r = none := h1 2 (by omega)
    have a3 : quoO r = none := h1 3 (by omega)
    have a4 : fieldF r = none := h1 4 (by omega)
    have h2 : signO r = some g := h2
    rw [a0, a1, a2, a3, a4, h2]
theorem nextO_none {r : List UInt8} (h1 : ∀ j, j < 6 → tryN j r = none) : nextO r = bad 4 := by
  have a0 : nameO r = none := h1 0 (by omega)
  have a1 : varF r = none := h1 1 (by omega)
  have a2 : numF r = none := h1 2 (by omega)
  have a3 : quoO r = none := h1 3 (by omega)
  have a4 : fieldF r = none := h1 4 (by omega)
  have a5 : signO r = none := h1 5 (by omega)
  unfold nextO
  rw [a0, a1, a2, a3, a4, a5]

set_option maxHeartbeats 2000000 in
theorem nextCt (F : Heap) (X mb : Nat) (r : List UInt8) (hL : LexAt F X mb r) (hs : r.length ≤ 1000000000) :
    Ct Tryd.prog 18 [ptr X] F [] (fun _ _ u => ∃ f, u = fdV f ∧ sameF f (nextO r)) := by
  refine Ct.enter Tryd.func18 rfl Tryd.ntmps18 rfl fun w0 a S => ?_
  (refine wp_seq_k ?_; intro Kq1 hKq1)
  refine wp_region_lit ?_
  (refine wpl_alloc S rfl rfl rfl rfl ?_; clear S a; intro b2 a w S)
  refine wpList_nil ?_
  (refine hKq1 _ _ ?_; try (clear hKq1 Kq1))
  (refine wp_seq_k ?_; intro Kq2 hKq2)
  (refine wp_seq_k ?_; intro Kq3 hKq3)
  refine wp_region_lit ?_
  (refine wpl_v S rfl rfl rfl (sv_pure S rfl) ?_; clear S a; intro a S)
  (refine wpl_v S rfl rfl rfl (sv_pure S rfl) ?_; clear S a; intro a S)
  (refine wpl_v S rfl rfl rfl (sv_pure S rfl) ?_; clear S a; intro a S)
  (refine wpl_v S rfl rfl rfl (sv_pure S rfl) ?_; clear S a; intro a S)
  (refine wpl_v S rfl rfl rfl (sv_pure S rfl) ?_; clear S a; intro a S)
  (refine wpl_v S rfl rfl rfl (sv_pure S rfl) ?_; clear S a; intro a S)
  (refine wpl_v S rfl rfl rfl (sv_pure S rfl) ?_; clear S a; intro a S)
  (refine wpl_v S rfl rfl rfl (sv_pure S rfl) ?_; clear S a; intro a S)
  (refine wpl_v S rfl rfl rfl (sv_pure S rfl) ?_; clear S a; intro a S)
  (refine wpl_v S rfl rfl rfl (sv_pure S rfl) ?_; clear S a; intro a S)
  (refine wpl_v S rfl rfl rfl (sv_pure S rfl) ?_; clear S a; intro a S)
  (refine wpl_v S rfl rfl rfl (sv_pure S rfl) ?_; clear S a; intro a S)
  (refine wpl_v S rfl rfl rfl (sv_buildA S rfl rfl rfl (by simp [Value.cells]) rfl) ?_; clear S a; intro a S)
  (refine wpl_v S rfl rfl rfl (sv_pure S rfl) ?_; clear S a; intro a S)
  refine wpList_nil ?_
  (refine hKq3 _ _ ?_; try (clear hKq3 Kq3))
  refine wp_block ?_
  refine wpc_loop (fun m a w' => ∃ (i : Nat), m = 6 - i ∧ i ≤ 6 ∧ (∀ j, j < i → tryN j r = none) ∧ St 32 [(0, ptr X), (2, .pointer (some ⟨b2, 0, none⟩)), (19, .agg ⟨fnsV X⟩), (20, .int .i64 i)] w0 F [] F [[(b2, .cells ⟨[.int .u8 0, .int .i64 0, .string (bs []), .int .i64 0]⟩ 52 (0, 0))]] a w') ?_ ?_
  · (refine ⟨6, 0, by simp, Nat.zero_le _, fun j hj => by omega, ?_⟩; refine S.keep ?_; repeat (first | exact trivial | refine ⟨rfl, ?_⟩))
  · (clear S; rintro m a w ⟨i, rfl, hi, hall, S⟩)
    (refine wp_seq_k ?_; intro Kq4 hKq4)
    refine wp_region_lit ?_
    (refine wpl_v S rfl rfl rfl (sv_pure S rfl) ?_; clear S a; intro a S)
    refine wpList_nil ?_
    (refine hKq4 _ _ ?_; try (clear hKq4 Kq4))
    (refine wp_seq_k ?_; intro Kq5 hKq5)
    refine wpc_split S rfl (fun h => ?_) (fun h => ?_)
    · (skip; (try simp only [decide_eq_true_eq, decide_eq_false_iff_not, beq_iff_eq, bne_iff_ne, bne_eq_false_iff_eq, beq_eq_false_iff_ne, ne_eq, Bool.not_eq_true', Bool.not_eq_false', Bool.not_eq_true, Bool.not_eq_false, Bool.not_true, Bool.not_false, Int.ofNat_lt, Int.ofNat_le, Nat.not_lt, Nat.not_le] at h))
      refine wp_skip ?_
      (refine hKq5 _ _ ?_; try (clear hKq5 Kq5))
      (refine wp_seq_k ?_; intro Kq6 hKq6)
      refine wp_block ?_
      (refine wp_seq_k ?_; intro Kq7 hKq7)
      (have hi6 : i < 6 := (by omega); have hx := fnsV_at X hi6; haveI hfn := hasFnOf hi6)
      refine wp_region_lit ?_
      (refine wpl_v S rfl rfl rfl (sv_indexA S rfl rfl rfl (by omega) hx) ?_; clear S a; intro a S)
      (refine wpl_v S rfl rfl rfl (sv_pure S rfl) ?_; clear S a; intro a S)
      refine wpList_nil ?_
      (refine hKq7 _ _ ?_; try (clear hKq7 Kq7))
      (refine wp_seq_k ?_; intro Kq8 hKq8)
      refine wp_region_lit ?_
      (refine wpl_v S rfl rfl rfl (sv_pure S rfl) ?_; clear S a; intro a S)
      (refine wpl_call0 S rfl rfl rfl rfl rfl rfl (tryCt F X mb r hL hs hi6) rfl ?_; clear S a; intro v a w hv S; obtain ⟨f, ok, rfl, hok, hsame⟩ := hv)
      (refine wpl_v S rfl rfl rfl (sv_pure S rfl) ?_; clear S a; intro a S)
      (refine wpl_v S rfl rfl rfl (sv_pure S rfl) ?_; clear S a; intro a S)
      (refine wpl_v S rfl rfl rfl (sv_pure S rfl) ?_; clear S a; intro a S)
      (refine wpl_alloc S rfl rfl rfl rfl ?_; clear S a; intro b5 a w S)
      (refine wpl_storeO S rfl rfl rfl rfl rfl (by rfl) (by simp [Value.cells, Value.oneCell', fdV, splice]) (by rfl) ?_; clear S; intro w S)
      (refine wpl_v S rfl rfl rfl (sv_pure S rfl) ?_; clear S a; intro a S)
      refine wpList_nil ?_
      (refine hKq8 _ _ ?_; try (clear hKq8 Kq8))
      (refine wp_seq_k ?_; intro Kq9 hKq9)
      refine wp_region_lit ?_
      (refine wpl_v S rfl rfl rfl (sv_pure S rfl) ?_; clear S a; intro a S)
      refine wpList_nil ?_
      (refine hKq9 _ _ ?_; try (clear hKq9 Kq9))
      refine wpc_split S rfl (fun h => ?_) (fun h => ?_)
      · (skip; (try simp only [decide_eq_true_eq, decide_eq_false_iff_not, beq_iff_eq, bne_iff_ne, bne_eq_false_iff_eq, beq_eq_false_iff_ne, ne_eq, Bool.not_eq_true', Bool.not_eq_false', Bool.not_eq_true, Bool.not_eq_false, Bool.not_true, Bool.not_false, Int.ofNat_lt, Int.ofNat_le, Nat.not_lt, Nat.not_le] at h))
        (refine wp_seq_k ?_; intro Kq10 hKq10)
        refine wp_region_lit ?_
        first | (refine wpl_v S rfl rfl rfl (sv_loadAO S rfl rfl (by rfl)) ?_; clear S a; intro a S) | (refine wpl_v S rfl rfl rfl (sv_loadAF S rfl rfl (by assumption) (by rfl)) ?_; clear S a; intro a S)
        (refine wpl_storeO S rfl rfl rfl rfl rfl (by rfl) (by simp [Value.cells, Value.oneCell', fdV, splice]) (by rfl) ?_; clear S; intro w S)
        refine wpList_nil ?_
        (refine hKq10 _ _ ?_; try (clear hKq10 Kq10))
        refine wp_ret ?_
        refine fin_ret S (results1 Tryd.results18 (RV.cellO S rfl (by rfl))) ?_
        (first | (refine ⟨⟨4, 0, 0, []⟩, rfl, ?_⟩; rw [nextO_none (fun j hj => hall j (by omega))]; exact sameF.refl _) | (refine ⟨f, rfl, ?_⟩; cases hT : tryN i r with | none => (rw [hT] at hok; simp_all) | some g => (rw [nextO_some hi6 hall hT]; exact hsame g hT)))
      · (skip; (try simp only [decide_eq_true_eq, decide_eq_false_iff_not, beq_iff_eq, bne_iff_ne, bne_eq_false_iff_eq, beq_eq_false_iff_ne, ne_eq, Bool.not_eq_true', Bool.not_eq_false', Bool.not_eq_true, Bool.not_eq_false, Bool.not_true, Bool.not_false, Int.ofNat_lt, Int.ofNat_le, Nat.not_lt, Nat.not_le] at h))
        refine wp_skip ?_
        (refine hKq6 _ _ ?_; try (clear hKq6 Kq6))
        refine wp_region_lit ?_
        (refine wpl_v S rfl rfl rfl (sv_add S rfl rfl rfl (by first | omega | (simp only [List.length_append, List.length_cons, List.length_nil]; omega))) ?_; clear S a; intro a S)
        (refine wpl_v S rfl rfl rfl (sv_pure S rfl) ?_; clear S a; intro a S)
        refine wpList_nil ?_
        change ∃ m', _ ∧ _
        (have S := S.drop1; refine ⟨6 - (i + 1), by omega, i + 1, rfl, by omega, fun j hj => (by rcases Nat.lt_or_eq_of_le (Nat.le_of_lt_succ hj) with h9 | h9; exact hall j h9; subst h9; cases hT : tryN j r with | none => rfl | some g => (rw [hT] at hok; simp_all)), ?_⟩; refine S.keep ?_; repeat (first | exact trivial | refine ⟨rfl, ?_⟩))
    · (skip; (try simp only [decide_eq_true_eq, decide_eq_false_iff_not, beq_iff_eq, bne_iff_ne, bne_eq_false_iff_eq, beq_eq_false_iff_ne, ne_eq, Bool.not_eq_true', Bool.not_eq_false', Bool.not_eq_true, Bool.not_eq_false, Bool.not_true, Bool.not_false, Int.ofNat_lt, Int.ofNat_le, Nat.not_lt, Nat.not_le] at h))
      refine wp_exit ?_
      (refine hKq2 _ _ ?_; try (clear hKq2 Kq2))
      (refine wp_seq_k ?_; intro Kq6 hKq6)
      refine wp_region_lit ?_
      (refine wpl_v S rfl rfl rfl (sv_build S rfl rfl rfl) ?_; clear S a; intro a S)
      (refine wpl_storeO S rfl rfl rfl rfl rfl (by rfl) (by simp [Value.cells, Value.oneCell', fdV, splice]) (by rfl) ?_; clear S; intro w S)
      refine wpList_nil ?_
      (refine hKq6 _ _ ?_; try (clear hKq6 Kq6))
      refine wp_ret ?_
      refine fin_ret S (results1 Tryd.results18 (RV.cellO S rfl (by rfl))) ?_
      (first | (refine ⟨⟨4, 0, 0, []⟩, rfl, ?_⟩; rw [nextO_none (fun j hj => hall j (by omega))]; exact sameF.refl _) | (refine ⟨f, rfl, ?_⟩; cases hT : tryN i r with | none => (rw [hT] at hok; simp_all) | some g => (rw [nextO_some hi6 hall hT]; exact hsame g hT)))
end Go.Proofs.YtpgnmnacfilnkaaDoor
