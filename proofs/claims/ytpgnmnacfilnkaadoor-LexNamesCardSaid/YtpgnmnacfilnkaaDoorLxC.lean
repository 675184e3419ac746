/- The walks of the lexer's methods that look at what stands ahead: part, variable, number, field, name. -/
import Derived.Test.YtpgnmnacfilnkaaDoorLxB
namespace Go.Proofs.YtpgnmnacfilnkaaDoor
open Go Go.Wk Go.Lx
set_option linter.unusedSimpArgs false
set_option linter.unusedVariables false
attribute [local irreducible] Go.wpList Go.Code.wp Go.wpStill Go.Wk.wpPre Go.bodyPost Go.Calls Go.Wk.Ct Go.Wk.OwnS
attribute [local irreducible] Go.Wk.wpG Go.Wk.wpM

/-- A lexer that lies in memory: its words, its rest. -/
structure LexAt (F : Heap) (X mb : Nat) (r : List UInt8) : Prop where
  m : Cel F X 0 (.map (some mb))
  s : Cel F X 1 (.string (bs r))
  w : F mb = some (mObj kS wordsM)
abbrev ptr (X : Nat) : Value := .pointer (some ⟨X, 0, none⟩)
def partN (s : List UInt8) : Nat := if low (s.getD 0 0) = true then run within s else 0
def partW (s : List UInt8) : Bool := if low (s.getD 0 0) = true then isWord (s.take (run within s)) else false
theorem partN_le (s : List UInt8) : partN s ≤ s.length := by unfold partN; split; exact run_le _ _; exact Nat.zero_le _

theorem wfold_val (k : List UInt8) : ∀ (l : List (List UInt8)) (es : List (List UInt8 × Value)), (∀ v, mGet es k = some v → v = .agg #[]) → ∀ v, mGet (l.foldl (fun e k => mSet e k (.agg ⟨[]⟩)) es) k = some v → v = .agg #[]
  | [], es, h => h
  | x :: l, es, h => by
    rw [List.foldl_cons]
    refine wfold_val k l _ fun v hv => ?_
    rw [mGet_set] at hv
    by_cases hx : k = x
    · rw [if_pos hx] at hv; cases hv; rfl
    · rw [if_neg hx] at hv; exact h v hv
theorem wordsM_val (k : List UInt8) : (mGet wordsM k).getD (.agg #[]) = .agg #[] := by
  cases h : mGet wordsM k with
  | none => rfl
  | some v => exact wfold_val k _ [] (fun v h => by simp [mGet] at h) v h
theorem low0 : low 0 = false := by decide
set_option maxHeartbeats 1000000 in
theorem partCt (F : Heap) (X mb : Nat) (r s : List UInt8) (hL : LexAt F X mb r) (hs : s.length ≤ 1000000000) :
    Ct Tryd.prog 48 [ptr X, .string (bs s)] F [] (fun _ _ u => u = .tuple ⟨[.int .i64 (partN s : Nat), .bool (partW s)]⟩) := by
  have hm := hL.m
  have hw := hL.w
  have hrl := run_le within s
  refine Ct.enter Tryd.func48 rfl Tryd.ntmps48 rfl fun w0 a S => ?_
  (refine wp_seq_k ?_; intro Kq1 hKq1)
  refine wp_region_lit ?_
  (refine wpl_v S rfl rfl rfl (sv_pure S rfl) ?_; clear S a; intro a S)
  (refine wpl_v S rfl rfl rfl (sv_pure S rfl) ?_; clear S a; intro a S)
  refine wpList_nil ?_
  (refine hKq1 _ _ ?_; try (clear hKq1 Kq1))
  (refine wp_seq_k ?_; intro Kq2 hKq2)
  (refine wp_seq_k ?_; intro Kq3 hKq3)
  refine wp_region_lit ?_
  (refine wpl_v S rfl rfl rfl (sv_pure S rfl) ?_; clear S a; intro a S)
  (refine wpl_v S rfl rfl rfl (sv_pure S rfl) ?_; clear S a; intro a S)
  (refine wpl_v S rfl rfl rfl (sv_pure S rfl) ?_; clear S a; intro a S)
  refine wpl_guard S rfl rfl rfl rfl rfl ?_ ?_
  · (intro h S'; clear S; have S := S'; clear S'; (try simp only [decide_eq_true_eq, decide_eq_false_iff_not, beq_iff_eq, bne_iff_ne, bne_eq_false_iff_eq, beq_eq_false_iff_ne, ne_eq, Bool.not_eq_true', Bool.not_eq_false', Bool.not_eq_true, Bool.not_eq_false, Bool.not_true, Bool.not_false, Int.ofNat_lt, Int.ofNat_le, Nat.not_lt, Nat.not_le] at h))
    (refine wpl_v S rfl rfl rfl (sv_pure S rfl) ?_; clear S a; intro a S)
    refine wpl_take S rfl rfl rfl ?_
    (refine wpl_v S rfl rfl rfl (sv_indexSN (i := 0) S rfl rfl rfl (by first | omega | exact List.length_pos_iff.2 (by assumption))) ?_; clear S a; intro a S)
    refine wpl_take S rfl rfl rfl ?_
    (refine wpl_call0 S rfl rfl rfl rfl rfl rfl (lowCt (s.getD 0 0) F) rfl ?_; clear S a; intro v a w hv S; subst hv)
    refine wpl_take S rfl rfl rfl ?_
    (refine wpl_v S rfl rfl rfl (sv_pure S rfl) ?_; clear S a; intro a S)
    first | (refine wpl_v S rfl rfl rfl (sv_pure S rfl) ?_; clear S a; intro a S) | (refine wpl_v S rfl rfl rfl (sv_pickB S rfl rfl rfl rfl) ?_; clear S a; intro a S)
    refine wpList_nil ?_
    (refine hKq3 _ _ ?_; try (clear hKq3 Kq3))
    refine wpc_split S rfl (fun h => ?_) (fun h => ?_)
    · (skip; (try simp only [decide_eq_true_eq, decide_eq_false_iff_not, beq_iff_eq, bne_iff_ne, bne_eq_false_iff_eq, beq_eq_false_iff_ne, ne_eq, Bool.not_eq_true', Bool.not_eq_false', Bool.not_eq_true, Bool.not_eq_false, Bool.not_true, Bool.not_false, Int.ofNat_lt, Int.ofNat_le, Nat.not_lt, Nat.not_le] at h))
      (refine wp_seq_k ?_; intro Kq4 hKq4)
      refine wp_region_lit ?_
      (refine wpl_v S rfl rfl rfl (sv_pure S rfl) ?_; clear S a; intro a S)
      (refine wpl_v S rfl rfl rfl (sv_pure S rfl) ?_; clear S a; intro a S)
      refine wpList_nil ?_
      (refine hKq4 _ _ ?_; try (clear hKq4 Kq4))
      refine wp_ret ?_
      refine fin_ret S (results2 Tryd.results48 (RV.tmp S rfl) (RV.tmp S rfl)) ?_
      (simp [partN, partW, wordsM_get, low0, *, -List.getD_eq_getElem?_getD])
    · (skip; (try simp only [decide_eq_true_eq, decide_eq_false_iff_not, beq_iff_eq, bne_iff_ne, bne_eq_false_iff_eq, beq_eq_false_iff_ne, ne_eq, Bool.not_eq_true', Bool.not_eq_false', Bool.not_eq_true, Bool.not_eq_false, Bool.not_true, Bool.not_false, Int.ofNat_lt, Int.ofNat_le, Nat.not_lt, Nat.not_le] at h))
      refine wp_skip ?_
      (refine hKq2 _ _ ?_; try (clear hKq2 Kq2))
      (refine wp_seq_k ?_; intro Kq4 hKq4)
      refine wp_region_lit ?_
      (refine wpl_v S rfl rfl rfl (sv_pure S rfl) ?_; clear S a; intro a S)
      (refine wpl_call0 S rfl rfl rfl rfl rfl rfl (runCt 49 within F (fun c => withinCt c F) s hs) rfl ?_; clear S a; intro v a w hv S; subst hv)
      (refine wpl_v S rfl rfl rfl (sv_pure S rfl) ?_; clear S a; intro a S)
      refine wpList_nil ?_
      (refine hKq4 _ _ ?_; try (clear hKq4 Kq4))
      (refine wp_seq_k ?_; intro Kq5 hKq5)
      (refine wpc_mixM [0, 1, 2, 3, 4, 5, 6, 7, 8, 9, 10] [3, 7] [] (.one 0 (.one 1 (.one 2 (.one 3 (.one 4 (.one 5 (.one 6 (.one 7 (.one 8 (.one 9 (.one 10 (.one 11 (.one 12 (.one 13 .nil)))))))))))))) [] S mixed (by kernel_rfl) ?_; clear S; intro w S)
      (refine wpm_v S rfl rfl rfl (want_none _ rfl) rfl rfl (fun w' S => sv_pure S rfl) ?_; clear S a; intro a S)
      (refine wpm_v S rfl rfl rfl (want_none _ rfl) rfl rfl (fun w' S => sv_nilCheck S rfl rfl) ?_; clear S a; intro a S)
      (refine wpm_v S rfl rfl rfl (want_none _ rfl) rfl rfl (fun w' S => sv_fieldAddr S rfl rfl rfl inferInstance rfl) ?_; clear S a; intro a S)
      first | (refine wpm_lateF S rfl rfl rfl (want_none _ rfl) rfl rfl (fun w' S => sv_loadF S rfl rfl (by assumption)) ?_; clear S a; intro a S) | (refine wpm_lateF S rfl rfl rfl (want_none _ rfl) rfl rfl (fun w' S => sv_loadAF S rfl rfl (by assumption) (by rfl)) ?_; clear S a; intro a S)
      (refine wpm_v S rfl rfl rfl (want_none _ rfl) rfl rfl (fun w' S => sv_pure S rfl) ?_; clear S a; intro a S)
      (refine wpm_v S rfl rfl rfl (want_none _ rfl) rfl rfl (fun w' S => sv_pure S rfl) ?_; clear S a; intro a S)
      (refine wpm_v S rfl rfl rfl (want_none _ rfl) rfl rfl (fun w' S => sv_sliceS_hi S rfl rfl rfl (by first | omega | exact List.length_pos_iff.2 (by assumption))) ?_; clear S a; intro a S)
      (refine wpm_lateF S rfl rfl rfl (want_none _ rfl) rfl rfl (fun w' S => sv_lookupF (enc := kS) S rfl rfl rfl (by assumption)) ?_; clear S a; intro a S)
      (refine wpm_v S rfl rfl rfl (want_none _ rfl) rfl rfl (fun w' S => sv_pure S rfl) ?_; clear S a; intro a S)
      (refine wpm_v S rfl rfl rfl (want_none _ rfl) rfl rfl (fun w' S => sv_pure S rfl) ?_; clear S a; intro a S)
      (simp only [wordsM_val] at S)
      (refine wpm_v S rfl rfl rfl (want_none _ rfl) rfl rfl (fun w' S => sv_pure S rfl) ?_; clear S a; intro a S)
      refine wpm_eff rfl rfl (fun _ => ⟨fun b o h => S.tr.frz b o (by first | exact h | solve_by_elim), trivial⟩) ?_
      (refine wpl_alloc S rfl rfl rfl rfl ?_; clear S a; intro b7 a w S)
      refine wpList_nil ?_
      refine wpm_eff rfl rfl (fun _ => ⟨fun b o h => S.tr.frz b o (by first | exact h | solve_by_elim), trivial⟩) ?_
      (refine wpl_storeO S rfl rfl rfl rfl rfl (by rfl) (by simp [Value.cells, Value.oneCell']) (by rfl) ?_; clear S; intro w S)
      refine wpList_nil ?_
      refine wpm_eff rfl rfl (fun _ => ⟨fun b o h => S.tr.frz b o (by first | exact h | solve_by_elim), trivial⟩) ?_
      (refine wpl_v S rfl rfl rfl (sv_pure S rfl) ?_; clear S a; intro a S)
      refine wpList_nil ?_
      refine wpm_nil (fun _ => ⟨fun b o h => S.tr.frz b o (by first | exact h | solve_by_elim), trivial⟩) ?_
      (refine hKq5 _ _ ?_; try (clear hKq5 Kq5))
      (refine wp_seq_k ?_; intro Kq6 hKq6)
      refine wp_region_lit ?_
      (refine wpl_v S rfl rfl rfl (sv_pure S rfl) ?_; clear S a; intro a S)
      (refine wpl_v S rfl rfl rfl (sv_pure S rfl) ?_; clear S a; intro a S)
      (refine wpl_v S rfl rfl rfl (sv_pure S rfl) ?_; clear S a; intro a S)
      (refine wpl_v S rfl rfl rfl (sv_pure S rfl) ?_; clear S a; intro a S)
      refine wpList_nil ?_
      (refine hKq6 _ _ ?_; try (clear hKq6 Kq6))
      refine wp_ret ?_
      refine fin_ret S (results2 Tryd.results48 (RV.tmp S rfl) (RV.tmp S rfl)) ?_
      (simp [partN, partW, wordsM_get, low0, *, -List.getD_eq_getElem?_getD])
  · (intro h; clear S a; intro a S; (try simp only [decide_eq_true_eq, decide_eq_false_iff_not, beq_iff_eq, bne_iff_ne, bne_eq_false_iff_eq, beq_eq_false_iff_ne, ne_eq, Bool.not_eq_true', Bool.not_eq_false', Bool.not_eq_true, Bool.not_eq_false, Bool.not_true, Bool.not_false, Int.ofNat_lt, Int.ofNat_le, Nat.not_lt, Nat.not_le] at h))
    (refine wpl_skip S rfl rfl rfl rfl rfl ?_; clear S a; intro a S)
    (refine wpl_skip S rfl rfl rfl rfl rfl ?_; clear S a; intro a S)
    (refine wpl_skip S rfl rfl rfl rfl rfl ?_; clear S a; intro a S)
    first | (refine wpl_v S rfl rfl rfl (sv_pure S rfl) ?_; clear S a; intro a S) | (refine wpl_v S rfl rfl rfl (sv_pickB S rfl rfl rfl rfl) ?_; clear S a; intro a S)
    refine wpList_nil ?_
    (refine hKq3 _ _ ?_; try (clear hKq3 Kq3))
    refine wpc_true S rfl ?_
    (refine wp_seq_k ?_; intro Kq4 hKq4)
    refine wp_region_lit ?_
    (refine wpl_v S rfl rfl rfl (sv_pure S rfl) ?_; clear S a; intro a S)
    (refine wpl_v S rfl rfl rfl (sv_pure S rfl) ?_; clear S a; intro a S)
    refine wpList_nil ?_
    (refine hKq4 _ _ ?_; try (clear hKq4 Kq4))
    refine wp_ret ?_
    refine fin_ret S (results2 Tryd.results48 (RV.tmp S rfl) (RV.tmp S rfl)) ?_
    (simp [partN, partW, wordsM_get, low0, *, -List.getD_eq_getElem?_getD])

theorem prefixCt (s p : List UInt8) (F : Heap) : Ct Tryd.prog 26 [.string (bs s), .string (bs p)] F [] (fun _ _ u => u = .bool (Lib.hasPrefix s p)) := by
  refine ct_of_below fun w hw => ?_
  exact (Tryd.strings_HasPrefix (bs s) (bs p) w).mono fun e w' ⟨h1, h2⟩ => ⟨h1, by subst h2; exact RowKit.Below.refl _ _⟩
theorem prefix1 (s : List UInt8) (c : UInt8) (k : Nat) (hk : c.toNat = k) (h0 : k ≠ 0) : Lib.hasPrefix s [c] = decide ((s.getD 0 0).toNat = k) := by
  subst hk
  have hc : c ≠ 0 := fun h => h0 (by rw [h]; rfl)
  have e : ∀ a : UInt8, (c == a) = decide (a.toNat = c.toNat) := fun a => by
    rw [Bool.eq_iff_iff, beq_iff_eq, decide_eq_true_eq, UInt8.toNat_inj, eq_comm]
  cases s with
  | nil => rw [List.getD_nil, ← e]; simp [Lib.hasPrefix, hc]
  | cons a r => rw [List.getD_cons_zero, ← e]; simp [Lib.hasPrefix, List.isPrefixOf]
theorem i64_add1 (n : Nat) : (n : Int) + 1 = ((n + 1 : Nat) : Int) := by omega

def fdV (f : Fnd) : Value := .agg ⟨[.int .u8 f.kind, .int .i64 f.size, .string (bs f.text), .int .i64 f.e]⟩
/-- The same, or with the same error. -/
def sameF (f g : Fnd) : Prop := f.e = g.e ∧ (g.e = 0 → f = g)
theorem sameF.refl (f : Fnd) : sameF f f := ⟨rfl, fun _ => rfl⟩
/-- What a try comes to. -/
def Tried (o : Option Fnd) (u : Value) : Prop := ∃ f b, u = .tuple ⟨[fdV f, .bool b]⟩ ∧ b = o.isSome ∧ ∀ g, o = some g → sameF f g
theorem Tried.no {o : Option Fnd} {u : Value} (f : Fnd) (hu : u = .tuple ⟨[fdV f, .bool false]⟩) (h : o = none) : Tried o u := ⟨f, false, hu, by rw [h]; rfl, fun g hg => by rw [h] at hg; cases hg⟩
theorem Tried.yes {o : Option Fnd} {u : Value} (f : Fnd) (hu : u = .tuple ⟨[fdV f, .bool true]⟩) (h : ∃ g, o = some g ∧ sameF f g) : Tried o u := by
  obtain ⟨g, h1, h2⟩ := h
  exact ⟨f, true, hu, by rw [h1]; rfl, fun k hk => by rw [h1] at hk; cases hk; exact h2⟩
def varF (r : List UInt8) : Option Fnd :=
  let n := run within r
  if n = 1 ∧ (r.getD 0 0).toNat = 95 then some ⟨0, 4, 1, [95]⟩ else if n = 0 ∨ high (r.getD 0 0) = false then none else if 32 < n then some (bad 63) else some ⟨0, 3, n, r.take n⟩
def numF (r : List UInt8) : Option Fnd := if run digit r = 0 then none else some (numberF r)
def fieldF (r : List UInt8) : Option Fnd :=
  if (r.getD 0 0).toNat ≠ 46 then none else if partN (r.drop 1) = 0 ∨ partW (r.drop 1) = true then none else if 32 < partN (r.drop 1) then some (bad 63) else some ⟨0, 9, partN (r.drop 1) + 1, (r.take (partN (r.drop 1) + 1)).drop 1⟩
def nameO (r : List UInt8) : Option Fnd :=
  if partN r = 0 then none else if partW r = true then some ⟨0, 1, partN r, r.take (partN r)⟩
  else if ((r.drop (partN r)).getD 0 0).toNat = 46 ∧ 0 < partN (r.drop (partN r + 1)) ∧ partW (r.drop (partN r + 1)) = false then
    (if 32 < partN r ∨ 32 < partN (r.drop (partN r + 1)) then some (bad 63) else some ⟨0, 2, partN r + (1 + partN (r.drop (partN r + 1))), r.take (partN r + (1 + partN (r.drop (partN r + 1))))⟩)
  else if 32 < partN r then some (bad 63) else some ⟨0, 2, partN r, r.take (partN r)⟩
def quoO (r : List UInt8) : Option Fnd := if (r.getD 0 0).toNat ≠ 34 then none else some (quotedF r)

set_option maxHeartbeats 1000000 in
theorem variableCt (F : Heap) (X mb : Nat) (r : List UInt8) (hL : LexAt F X mb r) (hs : r.length ≤ 1000000000) :
    Ct Tryd.prog 29 [ptr X] F [] (fun _ _ u => Tried (varF r) u) := by
  have hr := hL.s
  have hrl := run_le within r
  refine Ct.enter Tryd.func29 rfl Tryd.ntmps29 rfl fun w0 a S => ?_
  (refine wp_seq_k ?_; intro Kq1 hKq1)
  refine wp_region_lit ?_
  (refine wpl_alloc S rfl rfl rfl rfl ?_; clear S a; intro b2 a w S)
  (refine wpl_v S rfl rfl rfl (sv_pure S rfl) ?_; clear S a; intro a S)
  refine wpList_nil ?_
  (refine hKq1 _ _ ?_; try (clear hKq1 Kq1))
  (refine wp_seq_k ?_; intro Kq2 hKq2)
  refine wp_region_lit ?_
  (refine wpl_v S rfl rfl rfl (sv_pure S rfl) ?_; clear S a; intro a S)
  (refine wpl_v S rfl rfl rfl (sv_nilCheck S rfl rfl) ?_; clear S a; intro a S)
  (refine wpl_v S rfl rfl rfl (sv_fieldAddr S rfl rfl rfl inferInstance rfl) ?_; clear S a; intro a S)
  first | (refine wpl_v S rfl rfl rfl (sv_loadO S rfl rfl (by rfl)) ?_; clear S a; intro a S) | (refine wpl_v S rfl rfl rfl (sv_loadF S rfl rfl (by assumption)) ?_; clear S a; intro a S)
  (refine wpl_call0 S rfl rfl rfl rfl rfl rfl (runCt 49 within F (fun c => withinCt c F) r hs) rfl ?_; clear S a; intro v a w hv S; subst hv)
  (refine wpl_v S rfl rfl rfl (sv_pure S rfl) ?_; clear S a; intro a S)
  refine wpList_nil ?_
  (refine hKq2 _ _ ?_; try (clear hKq2 Kq2))
  (refine wp_seq_k ?_; intro Kq3 hKq3)
  refine wp_block ?_
  (refine wp_seq_k ?_; intro Kq4 hKq4)
  refine wp_region_lit ?_
  (refine wpl_v S rfl rfl rfl (sv_pure S rfl) ?_; clear S a; intro a S)
  (refine wpl_v S rfl rfl rfl (sv_pure S rfl) ?_; clear S a; intro a S)
  (refine wpl_v S rfl rfl rfl (sv_pure S rfl) ?_; clear S a; intro a S)
  refine wpl_guard S rfl rfl rfl rfl rfl ?_ ?_
  · (intro h S'; clear S; have S := S'; clear S'; (try simp only [decide_eq_true_eq, decide_eq_false_iff_not, beq_iff_eq, bne_iff_ne, bne_eq_false_iff_eq, beq_eq_false_iff_ne, ne_eq, Bool.not_eq_true', Bool.not_eq_false', Bool.not_eq_true, Bool.not_eq_false, Bool.not_true, Bool.not_false, Int.ofNat_lt, Int.ofNat_le, Nat.not_lt, Nat.not_le] at h))
    (refine wpl_v S rfl rfl rfl (sv_pure S rfl) ?_; clear S a; intro a S)
    refine wpl_take S rfl rfl rfl ?_
    (refine wpl_v S rfl rfl rfl (sv_nilCheck S rfl rfl) ?_; clear S a; intro a S)
    refine wpl_take S rfl rfl rfl ?_
    (refine wpl_v S rfl rfl rfl (sv_fieldAddr S rfl rfl rfl inferInstance rfl) ?_; clear S a; intro a S)
    refine wpl_take S rfl rfl rfl ?_
    first | (refine wpl_v S rfl rfl rfl (sv_loadO S rfl rfl (by rfl)) ?_; clear S a; intro a S) | (refine wpl_v S rfl rfl rfl (sv_loadF S rfl rfl (by assumption)) ?_; clear S a; intro a S)
    refine wpl_take S rfl rfl rfl ?_
    (refine wpl_v S rfl rfl rfl (sv_indexSN (i := 0) S rfl rfl rfl (by omega)) ?_; clear S a; intro a S)
    refine wpl_take S rfl rfl rfl ?_
    (refine wpl_v S rfl rfl rfl (sv_pure S rfl) ?_; clear S a; intro a S)
    first | (refine wpl_v S rfl rfl rfl (sv_pure S rfl) ?_; clear S a; intro a S) | (refine wpl_v S rfl rfl rfl (sv_pickB S rfl rfl rfl rfl) ?_; clear S a; intro a S)
    (refine wpl_v S rfl rfl rfl (sv_pure S rfl) ?_; clear S a; intro a S)
    refine wpList_nil ?_
    (refine hKq4 _ _ ?_; try (clear hKq4 Kq4))
    refine wpc_split S rfl (fun h => ?_) (fun h => ?_)
    · (skip; (try simp only [decide_eq_true_eq, decide_eq_false_iff_not, beq_iff_eq, bne_iff_ne, bne_eq_false_iff_eq, beq_eq_false_iff_ne, ne_eq, Bool.not_eq_true', Bool.not_eq_false', Bool.not_eq_true, Bool.not_eq_false, Bool.not_true, Bool.not_false, Int.ofNat_lt, Int.ofNat_le, Nat.not_lt, Nat.not_le] at h))
      (refine wp_seq_k ?_; intro Kq5 hKq5)
      refine wp_region_lit ?_
      (refine wpl_v S rfl rfl rfl (sv_build S rfl rfl rfl) ?_; clear S a; intro a S)
      (refine wpl_storeO S rfl rfl rfl rfl rfl (by rfl) (by simp [Value.cells, Value.oneCell', fdV, splice]) (by rfl) ?_; clear S; intro w S)
      (refine wpl_v S rfl rfl rfl (sv_pure S rfl) ?_; clear S a; intro a S)
      refine wpList_nil ?_
      (refine hKq5 _ _ ?_; try (clear hKq5 Kq5))
      refine wp_ret ?_
      refine fin_ret S (results2 Tryd.results29 (RV.cellO S rfl (by rfl)) (RV.tmp S rfl)) ?_
      (first | (refine Tried.no ⟨_, _, _, _⟩ rfl ?_; unfold varF; simp only []; (repeat' split) <;> first | rfl | (exfalso; omega) | (exfalso; simp_all; done) | (exfalso; simp_all; omega)) | (refine Tried.yes ⟨_, _, _, _⟩ rfl ?_; unfold varF; simp only []; (repeat' split) <;> first | exact ⟨_, rfl, rfl, fun _ => rfl⟩ | exact ⟨_, rfl, rfl, fun h => absurd h (by decide)⟩ | (exfalso; omega) | (exfalso; simp_all; done) | (exfalso; simp_all; omega)))
    · (skip; (try simp only [decide_eq_true_eq, decide_eq_false_iff_not, beq_iff_eq, bne_iff_ne, bne_eq_false_iff_eq, beq_eq_false_iff_ne, ne_eq, Bool.not_eq_true', Bool.not_eq_false', Bool.not_eq_true, Bool.not_eq_false, Bool.not_true, Bool.not_false, Int.ofNat_lt, Int.ofNat_le, Nat.not_lt, Nat.not_le] at h))
      (refine wp_seq_k ?_; intro Kq5 hKq5)
      refine wp_region_lit ?_
      (refine wpl_v S rfl rfl rfl (sv_pure S rfl) ?_; clear S a; intro a S)
      (refine wpl_v S rfl rfl rfl (sv_pure S rfl) ?_; clear S a; intro a S)
      (refine wpl_v S rfl rfl rfl (sv_pure S rfl) ?_; clear S a; intro a S)
      refine wpl_guard S rfl rfl rfl rfl rfl ?_ ?_
      · (intro h S'; clear S; have S := S'; clear S'; (try simp only [decide_eq_true_eq, decide_eq_false_iff_not, beq_iff_eq, bne_iff_ne, bne_eq_false_iff_eq, beq_eq_false_iff_ne, ne_eq, Bool.not_eq_true', Bool.not_eq_false', Bool.not_eq_true, Bool.not_eq_false, Bool.not_true, Bool.not_false, Int.ofNat_lt, Int.ofNat_le, Nat.not_lt, Nat.not_le] at h))
        (refine wpl_v S rfl rfl rfl (sv_pure S rfl) ?_; clear S a; intro a S)
        refine wpl_take S rfl rfl rfl ?_
        (refine wpl_v S rfl rfl rfl (sv_nilCheck S rfl rfl) ?_; clear S a; intro a S)
        refine wpl_take S rfl rfl rfl ?_
        (refine wpl_v S rfl rfl rfl (sv_fieldAddr S rfl rfl rfl inferInstance rfl) ?_; clear S a; intro a S)
        refine wpl_take S rfl rfl rfl ?_
        first | (refine wpl_v S rfl rfl rfl (sv_loadO S rfl rfl (by rfl)) ?_; clear S a; intro a S) | (refine wpl_v S rfl rfl rfl (sv_loadF S rfl rfl (by assumption)) ?_; clear S a; intro a S)
        refine wpl_take S rfl rfl rfl ?_
        (refine wpl_v S rfl rfl rfl (sv_indexSN (i := 0) S rfl rfl rfl (by omega)) ?_; clear S a; intro a S)
        refine wpl_take S rfl rfl rfl ?_
        (refine wpl_call0 S rfl rfl rfl rfl rfl rfl (highCt (r.getD 0 0) F) rfl ?_; clear S a; intro v a w hv S; subst hv)
        refine wpl_take S rfl rfl rfl ?_
        (refine wpl_v S rfl rfl rfl (sv_pure S rfl) ?_; clear S a; intro a S)
        first | (refine wpl_v S rfl rfl rfl (sv_pure S rfl) ?_; clear S a; intro a S) | (refine wpl_v S rfl rfl rfl (sv_pickB S rfl rfl rfl rfl) ?_; clear S a; intro a S)
        (refine wpl_v S rfl rfl rfl (sv_pure S rfl) ?_; clear S a; intro a S)
        refine wpList_nil ?_
        (refine hKq5 _ _ ?_; try (clear hKq5 Kq5))
        refine wpc_split S rfl (fun h => ?_) (fun h => ?_)
        · (skip; (try simp only [decide_eq_true_eq, decide_eq_false_iff_not, beq_iff_eq, bne_iff_ne, bne_eq_false_iff_eq, beq_eq_false_iff_ne, ne_eq, Bool.not_eq_true', Bool.not_eq_false', Bool.not_eq_true, Bool.not_eq_false, Bool.not_true, Bool.not_false, Int.ofNat_lt, Int.ofNat_le, Nat.not_lt, Nat.not_le] at h))
          (refine wp_seq_k ?_; intro Kq6 hKq6)
          refine wp_region_lit ?_
          (refine wpl_v S rfl rfl rfl (sv_build S rfl rfl rfl) ?_; clear S a; intro a S)
          (refine wpl_storeO S rfl rfl rfl rfl rfl (by rfl) (by simp [Value.cells, Value.oneCell', fdV, splice]) (by rfl) ?_; clear S; intro w S)
          (refine wpl_v S rfl rfl rfl (sv_pure S rfl) ?_; clear S a; intro a S)
          refine wpList_nil ?_
          (refine hKq6 _ _ ?_; try (clear hKq6 Kq6))
          refine wp_ret ?_
          refine fin_ret S (results2 Tryd.results29 (RV.cellO S rfl (by rfl)) (RV.tmp S rfl)) ?_
          (first | (refine Tried.no ⟨_, _, _, _⟩ rfl ?_; unfold varF; simp only []; (repeat' split) <;> first | rfl | (exfalso; omega) | (exfalso; simp_all; done) | (exfalso; simp_all; omega)) | (refine Tried.yes ⟨_, _, _, _⟩ rfl ?_; unfold varF; simp only []; (repeat' split) <;> first | exact ⟨_, rfl, rfl, fun _ => rfl⟩ | exact ⟨_, rfl, rfl, fun h => absurd h (by decide)⟩ | (exfalso; omega) | (exfalso; simp_all; done) | (exfalso; simp_all; omega)))
        · (skip; (try simp only [decide_eq_true_eq, decide_eq_false_iff_not, beq_iff_eq, bne_iff_ne, bne_eq_false_iff_eq, beq_eq_false_iff_ne, ne_eq, Bool.not_eq_true', Bool.not_eq_false', Bool.not_eq_true, Bool.not_eq_false, Bool.not_true, Bool.not_false, Int.ofNat_lt, Int.ofNat_le, Nat.not_lt, Nat.not_le] at h))
          (refine wp_seq_k ?_; intro Kq6 hKq6)
          refine wp_region_lit ?_
          (refine wpl_v S rfl rfl rfl (sv_pure S rfl) ?_; clear S a; intro a S)
          (refine wpl_v S rfl rfl rfl (sv_pure S rfl) ?_; clear S a; intro a S)
          (refine wpl_v S rfl rfl rfl (sv_pure S rfl) ?_; clear S a; intro a S)
          refine wpList_nil ?_
          (refine hKq6 _ _ ?_; try (clear hKq6 Kq6))
          refine wpc_split S rfl (fun h => ?_) (fun h => ?_)
          · (skip; (try simp only [decide_eq_true_eq, decide_eq_false_iff_not, beq_iff_eq, bne_iff_ne, bne_eq_false_iff_eq, beq_eq_false_iff_ne, ne_eq, Bool.not_eq_true', Bool.not_eq_false', Bool.not_eq_true, Bool.not_eq_false, Bool.not_true, Bool.not_false, Int.ofNat_lt, Int.ofNat_le, Nat.not_lt, Nat.not_le] at h))
            (refine wp_seq_k ?_; intro Kq7 hKq7)
            refine wp_region_lit ?_
            (refine wpl_v S rfl rfl rfl (sv_build S rfl rfl rfl) ?_; clear S a; intro a S)
            (refine wpl_storeO S rfl rfl rfl rfl rfl (by rfl) (by simp [Value.cells, Value.oneCell', fdV, splice]) (by rfl) ?_; clear S; intro w S)
            (refine wpl_v S rfl rfl rfl (sv_pure S rfl) ?_; clear S a; intro a S)
            refine wpList_nil ?_
            (refine hKq7 _ _ ?_; try (clear hKq7 Kq7))
            refine wp_ret ?_
            refine fin_ret S (results2 Tryd.results29 (RV.cellO S rfl (by rfl)) (RV.tmp S rfl)) ?_
            (first | (refine Tried.no ⟨_, _, _, _⟩ rfl ?_; unfold varF; simp only []; (repeat' split) <;> first | rfl | (exfalso; omega) | (exfalso; simp_all; done) | (exfalso; simp_all; omega)) | (refine Tried.yes ⟨_, _, _, _⟩ rfl ?_; unfold varF; simp only []; (repeat' split) <;> first | exact ⟨_, rfl, rfl, fun _ => rfl⟩ | exact ⟨_, rfl, rfl, fun h => absurd h (by decide)⟩ | (exfalso; omega) | (exfalso; simp_all; done) | (exfalso; simp_all; omega)))
          · (skip; (try simp only [decide_eq_true_eq, decide_eq_false_iff_not, beq_iff_eq, bne_iff_ne, bne_eq_false_iff_eq, beq_eq_false_iff_ne, ne_eq, Bool.not_eq_true', Bool.not_eq_false', Bool.not_eq_true, Bool.not_eq_false, Bool.not_true, Bool.not_false, Int.ofNat_lt, Int.ofNat_le, Nat.not_lt, Nat.not_le] at h))
            refine wp_skip ?_
            (refine hKq3 _ _ ?_; try (clear hKq3 Kq3))
            (refine wp_seq_k ?_; intro Kq7 hKq7)
            refine wp_region_lit ?_
            (refine wpl_v S rfl rfl rfl (sv_pure S rfl) ?_; clear S a; intro a S)
            (refine wpl_v S rfl rfl rfl (sv_pure S rfl) ?_; clear S a; intro a S)
            (refine wpl_v S rfl rfl rfl (sv_nilCheck S rfl rfl) ?_; clear S a; intro a S)
            (refine wpl_v S rfl rfl rfl (sv_fieldAddr S rfl rfl rfl inferInstance rfl) ?_; clear S a; intro a S)
            first | (refine wpl_v S rfl rfl rfl (sv_loadO S rfl rfl (by rfl)) ?_; clear S a; intro a S) | (refine wpl_v S rfl rfl rfl (sv_loadF S rfl rfl (by assumption)) ?_; clear S a; intro a S)
            (refine wpl_v S rfl rfl rfl (sv_pure S rfl) ?_; clear S a; intro a S)
            (refine wpl_v S rfl rfl rfl (sv_sliceS_hi S rfl rfl rfl (by first | omega | (simp only [List.length_append, List.length_cons, List.length_nil]; omega))) ?_; clear S a; intro a S)
            (refine wpl_v S rfl rfl rfl (sv_build S rfl rfl rfl) ?_; clear S a; intro a S)
            (refine wpl_storeO S rfl rfl rfl rfl rfl (by rfl) (by simp [Value.cells, Value.oneCell', fdV, splice]) (by rfl) ?_; clear S; intro w S)
            (refine wpl_v S rfl rfl rfl (sv_pure S rfl) ?_; clear S a; intro a S)
            refine wpList_nil ?_
            (refine hKq7 _ _ ?_; try (clear hKq7 Kq7))
            refine wp_ret ?_
            refine fin_ret S (results2 Tryd.results29 (RV.cellO S rfl (by rfl)) (RV.tmp S rfl)) ?_
            (first | (refine Tried.no ⟨_, _, _, _⟩ rfl ?_; unfold varF; simp only []; (repeat' split) <;> first | rfl | (exfalso; omega) | (exfalso; simp_all; done) | (exfalso; simp_all; omega)) | (refine Tried.yes ⟨_, _, _, _⟩ rfl ?_; unfold varF; simp only []; (repeat' split) <;> first | exact ⟨_, rfl, rfl, fun _ => rfl⟩ | exact ⟨_, rfl, rfl, fun h => absurd h (by decide)⟩ | (exfalso; omega) | (exfalso; simp_all; done) | (exfalso; simp_all; omega)))
      · (intro h; clear S a; intro a S; (try simp only [decide_eq_true_eq, decide_eq_false_iff_not, beq_iff_eq, bne_iff_ne, bne_eq_false_iff_eq, beq_eq_false_iff_ne, ne_eq, Bool.not_eq_true', Bool.not_eq_false', Bool.not_eq_true, Bool.not_eq_false, Bool.not_true, Bool.not_false, Int.ofNat_lt, Int.ofNat_le, Nat.not_lt, Nat.not_le] at h))
        (refine wpl_skip S rfl rfl rfl rfl rfl ?_; clear S a; intro a S)
        (refine wpl_skip S rfl rfl rfl rfl rfl ?_; clear S a; intro a S)
        (refine wpl_skip S rfl rfl rfl rfl rfl ?_; clear S a; intro a S)
        (refine wpl_skip S rfl rfl rfl rfl rfl ?_; clear S a; intro a S)
        (refine wpl_skip S rfl rfl rfl rfl rfl ?_; clear S a; intro a S)
        (refine wpl_skip S rfl rfl rfl rfl rfl ?_; clear S a; intro a S)
        first | (refine wpl_v S rfl rfl rfl (sv_pure S rfl) ?_; clear S a; intro a S) | (refine wpl_v S rfl rfl rfl (sv_pickB S rfl rfl rfl rfl) ?_; clear S a; intro a S)
        (refine wpl_v S rfl rfl rfl (sv_pure S rfl) ?_; clear S a; intro a S)
        refine wpList_nil ?_
        (refine hKq5 _ _ ?_; try (clear hKq5 Kq5))
        refine wpc_true S rfl ?_
        (refine wp_seq_k ?_; intro Kq6 hKq6)
        refine wp_region_lit ?_
        (refine wpl_v S rfl rfl rfl (sv_build S rfl rfl rfl) ?_; clear S a; intro a S)
        (refine wpl_storeO S rfl rfl rfl rfl rfl (by rfl) (by simp [Value.cells, Value.oneCell', fdV, splice]) (by rfl) ?_; clear S; intro w S)
        (refine wpl_v S rfl rfl rfl (sv_pure S rfl) ?_; clear S a; intro a S)
        refine wpList_nil ?_
        (refine hKq6 _ _ ?_; try (clear hKq6 Kq6))
        refine wp_ret ?_
        refine fin_ret S (results2 Tryd.results29 (RV.cellO S rfl (by rfl)) (RV.tmp S rfl)) ?_
        (first | (refine Tried.no ⟨_, _, _, _⟩ rfl ?_; unfold varF; simp only []; (repeat' split) <;> first | rfl | (exfalso; omega) | (exfalso; simp_all; done) | (exfalso; simp_all; omega)) | (refine Tried.yes ⟨_, _, _, _⟩ rfl ?_; unfold varF; simp only []; (repeat' split) <;> first | exact ⟨_, rfl, rfl, fun _ => rfl⟩ | exact ⟨_, rfl, rfl, fun h => absurd h (by decide)⟩ | (exfalso; omega) | (exfalso; simp_all; done) | (exfalso; simp_all; omega)))
  · (intro h; clear S a; intro a S; (try simp only [decide_eq_true_eq, decide_eq_false_iff_not, beq_iff_eq, bne_iff_ne, bne_eq_false_iff_eq, beq_eq_false_iff_ne, ne_eq, Bool.not_eq_true', Bool.not_eq_false', Bool.not_eq_true, Bool.not_eq_false, Bool.not_true, Bool.not_false, Int.ofNat_lt, Int.ofNat_le, Nat.not_lt, Nat.not_le] at h))
    (refine wpl_skip S rfl rfl rfl rfl rfl ?_; clear S a; intro a S)
    (refine wpl_skip S rfl rfl rfl rfl rfl ?_; clear S a; intro a S)
    (refine wpl_skip S rfl rfl rfl rfl rfl ?_; clear S a; intro a S)
    (refine wpl_skip S rfl rfl rfl rfl rfl ?_; clear S a; intro a S)
    (refine wpl_skip S rfl rfl rfl rfl rfl ?_; clear S a; intro a S)
    first | (refine wpl_v S rfl rfl rfl (sv_pure S rfl) ?_; clear S a; intro a S) | (refine wpl_v S rfl rfl rfl (sv_pickB S rfl rfl rfl rfl) ?_; clear S a; intro a S)
    (refine wpl_v S rfl rfl rfl (sv_pure S rfl) ?_; clear S a; intro a S)
    refine wpList_nil ?_
    (refine hKq4 _ _ ?_; try (clear hKq4 Kq4))
    refine wpc_false S rfl ?_
    (refine wp_seq_k ?_; intro Kq5 hKq5)
    refine wp_region_lit ?_
    (refine wpl_v S rfl rfl rfl (sv_pure S rfl) ?_; clear S a; intro a S)
    (refine wpl_v S rfl rfl rfl (sv_pure S rfl) ?_; clear S a; intro a S)
    (refine wpl_v S rfl rfl rfl (sv_pure S rfl) ?_; clear S a; intro a S)
    refine wpl_guard S rfl rfl rfl rfl rfl ?_ ?_
    · (intro h S'; clear S; have S := S'; clear S'; (try simp only [decide_eq_true_eq, decide_eq_false_iff_not, beq_iff_eq, bne_iff_ne, bne_eq_false_iff_eq, beq_eq_false_iff_ne, ne_eq, Bool.not_eq_true', Bool.not_eq_false', Bool.not_eq_true, Bool.not_eq_false, Bool.not_true, Bool.not_false, Int.ofNat_lt, Int.ofNat_le, Nat.not_lt, Nat.not_le] at h))
      (refine wpl_v S rfl rfl rfl (sv_pure S rfl) ?_; clear S a; intro a S)
      refine wpl_take S rfl rfl rfl ?_
      (refine wpl_v S rfl rfl rfl (sv_nilCheck S rfl rfl) ?_; clear S a; intro a S)
      refine wpl_take S rfl rfl rfl ?_
      (refine wpl_v S rfl rfl rfl (sv_fieldAddr S rfl rfl rfl inferInstance rfl) ?_; clear S a; intro a S)
      refine wpl_take S rfl rfl rfl ?_
      first | (refine wpl_v S rfl rfl rfl (sv_loadO S rfl rfl (by rfl)) ?_; clear S a; intro a S) | (refine wpl_v S rfl rfl rfl (sv_loadF S rfl rfl (by assumption)) ?_; clear S a; intro a S)
      refine wpl_take S rfl rfl rfl ?_
      (refine wpl_v S rfl rfl rfl (sv_indexSN (i := 0) S rfl rfl rfl (by omega)) ?_; clear S a; intro a S)
      refine wpl_take S rfl rfl rfl ?_
      (refine wpl_call0 S rfl rfl rfl rfl rfl rfl (highCt (r.getD 0 0) F) rfl ?_; clear S a; intro v a w hv S; subst hv)
      refine wpl_take S rfl rfl rfl ?_
      (refine wpl_v S rfl rfl rfl (sv_pure S rfl) ?_; clear S a; intro a S)
      first | (refine wpl_v S rfl rfl rfl (sv_pure S rfl) ?_; clear S a; intro a S) | (refine wpl_v S rfl rfl rfl (sv_pickB S rfl rfl rfl rfl) ?_; clear S a; intro a S)
      (refine wpl_v S rfl rfl rfl (sv_pure S rfl) ?_; clear S a; intro a S)
      refine wpList_nil ?_
      (refine hKq5 _ _ ?_; try (clear hKq5 Kq5))
      refine wpc_split S rfl (fun h => ?_) (fun h => ?_)
      · (skip; (try simp only [decide_eq_true_eq, decide_eq_false_iff_not, beq_iff_eq, bne_iff_ne, bne_eq_false_iff_eq, beq_eq_false_iff_ne, ne_eq, Bool.not_eq_true', Bool.not_eq_false', Bool.not_eq_true, Bool.not_eq_false, Bool.not_true, Bool.not_false, Int.ofNat_lt, Int.ofNat_le, Nat.not_lt, Nat.not_le] at h))
        (refine wp_seq_k ?_; intro Kq6 hKq6)
        refine wp_region_lit ?_
        (refine wpl_v S rfl rfl rfl (sv_build S rfl rfl rfl) ?_; clear S a; intro a S)
        (refine wpl_storeO S rfl rfl rfl rfl rfl (by rfl) (by simp [Value.cells, Value.oneCell', fdV, splice]) (by rfl) ?_; clear S; intro w S)
        (refine wpl_v S rfl rfl rfl (sv_pure S rfl) ?_; clear S a; intro a S)
        refine wpList_nil ?_
        (refine hKq6 _ _ ?_; try (clear hKq6 Kq6))
        refine wp_ret ?_
        refine fin_ret S (results2 Tryd.results29 (RV.cellO S rfl (by rfl)) (RV.tmp S rfl)) ?_
        (first | (refine Tried.no ⟨_, _, _, _⟩ rfl ?_; unfold varF; simp only []; (repeat' split) <;> first | rfl | (exfalso; omega) | (exfalso; simp_all; done) | (exfalso; simp_all; omega)) | (refine Tried.yes ⟨_, _, _, _⟩ rfl ?_; unfold varF; simp only []; (repeat' split) <;> first | exact ⟨_, rfl, rfl, fun _ => rfl⟩ | exact ⟨_, rfl, rfl, fun h => absurd h (by decide)⟩ | (exfalso; omega) | (exfalso; simp_all; done) | (exfalso; simp_all; omega)))
      · (skip; (try simp only [decide_eq_true_eq, decide_eq_false_iff_not, beq_iff_eq, bne_iff_ne, bne_eq_false_iff_eq, beq_eq_false_iff_ne, ne_eq, Bool.not_eq_true', Bool.not_eq_false', Bool.not_eq_true, Bool.not_eq_false, Bool.not_true, Bool.not_false, Int.ofNat_lt, Int.ofNat_le, Nat.not_lt, Nat.not_le] at h))
        (refine wp_seq_k ?_; intro Kq6 hKq6)
        refine wp_region_lit ?_
        (refine wpl_v S rfl rfl rfl (sv_pure S rfl) ?_; clear S a; intro a S)
        (refine wpl_v S rfl rfl rfl (sv_pure S rfl) ?_; clear S a; intro a S)
        (refine wpl_v S rfl rfl rfl (sv_pure S rfl) ?_; clear S a; intro a S)
        refine wpList_nil ?_
        (refine hKq6 _ _ ?_; try (clear hKq6 Kq6))
        refine wpc_split S rfl (fun h => ?_) (fun h => ?_)
        · (skip; (try simp only [decide_eq_true_eq, decide_eq_false_iff_not, beq_iff_eq, bne_iff_ne, bne_eq_false_iff_eq, beq_eq_false_iff_ne, ne_eq, Bool.not_eq_true', Bool.not_eq_false', Bool.not_eq_true, Bool.not_eq_false, Bool.not_true, Bool.not_false, Int.ofNat_lt, Int.ofNat_le, Nat.not_lt, Nat.not_le] at h))
          (refine wp_seq_k ?_; intro Kq7 hKq7)
          refine wp_region_lit ?_
          (refine wpl_v S rfl rfl rfl (sv_build S rfl rfl rfl) ?_; clear S a; intro a S)
          (refine wpl_storeO S rfl rfl rfl rfl rfl (by rfl) (by simp [Value.cells, Value.oneCell', fdV, splice]) (by rfl) ?_; clear S; intro w S)
          (refine wpl_v S rfl rfl rfl (sv_pure S rfl) ?_; clear S a; intro a S)
          refine wpList_nil ?_
          (refine hKq7 _ _ ?_; try (clear hKq7 Kq7))
          refine wp_ret ?_
          refine fin_ret S (results2 Tryd.results29 (RV.cellO S rfl (by rfl)) (RV.tmp S rfl)) ?_
          (first | (refine Tried.no ⟨_, _, _, _⟩ rfl ?_; unfold varF; simp only []; (repeat' split) <;> first | rfl | (exfalso; omega) | (exfalso; simp_all; done) | (exfalso; simp_all; omega)) | (refine Tried.yes ⟨_, _, _, _⟩ rfl ?_; unfold varF; simp only []; (repeat' split) <;> first | exact ⟨_, rfl, rfl, fun _ => rfl⟩ | exact ⟨_, rfl, rfl, fun h => absurd h (by decide)⟩ | (exfalso; omega) | (exfalso; simp_all; done) | (exfalso; simp_all; omega)))
        · (skip; (try simp only [decide_eq_true_eq, decide_eq_false_iff_not, beq_iff_eq, bne_iff_ne, bne_eq_false_iff_eq, beq_eq_false_iff_ne, ne_eq, Bool.not_eq_true', Bool.not_eq_false', Bool.not_eq_true, Bool.not_eq_false, Bool.not_true, Bool.not_false, Int.ofNat_lt, Int.ofNat_le, Nat.not_lt, Nat.not_le] at h))
          refine wp_skip ?_
          (refine hKq3 _ _ ?_; try (clear hKq3 Kq3))
          (refine wp_seq_k ?_; intro Kq7 hKq7)
          refine wp_region_lit ?_
          (refine wpl_v S rfl rfl rfl (sv_pure S rfl) ?_; clear S a; intro a S)
          (refine wpl_v S rfl rfl rfl (sv_pure S rfl) ?_; clear S a; intro a S)
          (refine wpl_v S rfl rfl rfl (sv_nilCheck S rfl rfl) ?_; clear S a; intro a S)
          (refine wpl_v S rfl rfl rfl (sv_fieldAddr S rfl rfl rfl inferInstance rfl) ?_; clear S a; intro a S)
          first | (refine wpl_v S rfl rfl rfl (sv_loadO S rfl rfl (by rfl)) ?_; clear S a; intro a S) | (refine wpl_v S rfl rfl rfl (sv_loadF S rfl rfl (by assumption)) ?_; clear S a; intro a S)
          (refine wpl_v S rfl rfl rfl (sv_pure S rfl) ?_; clear S a; intro a S)
          (refine wpl_v S rfl rfl rfl (sv_sliceS_hi S rfl rfl rfl (by first | omega | (simp only [List.length_append, List.length_cons, List.length_nil]; omega))) ?_; clear S a; intro a S)
          (refine wpl_v S rfl rfl rfl (sv_build S rfl rfl rfl) ?_; clear S a; intro a S)
          (refine wpl_storeO S rfl rfl rfl rfl rfl (by rfl) (by simp [Value.cells, Value.oneCell', fdV, splice]) (by rfl) ?_; clear S; intro w S)
          (refine wpl_v S rfl rfl rfl (sv_pure S rfl) ?_; clear S a; intro a S)
          refine wpList_nil ?_
          (refine hKq7 _ _ ?_; try (clear hKq7 Kq7))
          refine wp_ret ?_
          refine fin_ret S (results2 Tryd.results29 (RV.cellO S rfl (by rfl)) (RV.tmp S rfl)) ?_
          (first | (refine Tried.no ⟨_, _, _, _⟩ rfl ?_; unfold varF; simp only []; (repeat' split) <;> first | rfl | (exfalso; omega) | (exfalso; simp_all; done) | (exfalso; simp_all; omega)) | (refine Tried.yes ⟨_, _, _, _⟩ rfl ?_; unfold varF; simp only []; (repeat' split) <;> first | exact ⟨_, rfl, rfl, fun _ => rfl⟩ | exact ⟨_, rfl, rfl, fun h => absurd h (by decide)⟩ | (exfalso; omega) | (exfalso; simp_all; done) | (exfalso; simp_all; omega)))
    · (intro h; clear S a; intro a S; (try simp only [decide_eq_true_eq, decide_eq_false_iff_not, beq_iff_eq, bne_iff_ne, bne_eq_false_iff_eq, beq_eq_false_iff_ne, ne_eq, Bool.not_eq_true', Bool.not_eq_false', Bool.not_eq_true, Bool.not_eq_false, Bool.not_true, Bool.not_false, Int.ofNat_lt, Int.ofNat_le, Nat.not_lt, Nat.not_le] at h))
      (refine wpl_skip S rfl rfl rfl rfl rfl ?_; clear S a; intro a S)
      (refine wpl_skip S rfl rfl rfl rfl rfl ?_; clear S a; intro a S)
      (refine wpl_skip S rfl rfl rfl rfl rfl ?_; clear S a; intro a S)
      (refine wpl_skip S rfl rfl rfl rfl rfl ?_; clear S a; intro a S)
      (refine wpl_skip S rfl rfl rfl rfl rfl ?_; clear S a; intro a S)
      (refine wpl_skip S rfl rfl rfl rfl rfl ?_; clear S a; intro a S)
      first | (refine wpl_v S rfl rfl rfl (sv_pure S rfl) ?_; clear S a; intro a S) | (refine wpl_v S rfl rfl rfl (sv_pickB S rfl rfl rfl rfl) ?_; clear S a; intro a S)
      (refine wpl_v S rfl rfl rfl (sv_pure S rfl) ?_; clear S a; intro a S)
      refine wpList_nil ?_
      (refine hKq5 _ _ ?_; try (clear hKq5 Kq5))
      refine wpc_true S rfl ?_
      (refine wp_seq_k ?_; intro Kq6 hKq6)
      refine wp_region_lit ?_
      (refine wpl_v S rfl rfl rfl (sv_build S rfl rfl rfl) ?_; clear S a; intro a S)
      (refine wpl_storeO S rfl rfl rfl rfl rfl (by rfl) (by simp [Value.cells, Value.oneCell', fdV, splice]) (by rfl) ?_; clear S; intro w S)
      (refine wpl_v S rfl rfl rfl (sv_pure S rfl) ?_; clear S a; intro a S)
      refine wpList_nil ?_
      (refine hKq6 _ _ ?_; try (clear hKq6 Kq6))
      refine wp_ret ?_
      refine fin_ret S (results2 Tryd.results29 (RV.cellO S rfl (by rfl)) (RV.tmp S rfl)) ?_
      (first | (refine Tried.no ⟨_, _, _, _⟩ rfl ?_; unfold varF; simp only []; (repeat' split) <;> first | rfl | (exfalso; omega) | (exfalso; simp_all; done) | (exfalso; simp_all; omega)) | (refine Tried.yes ⟨_, _, _, _⟩ rfl ?_; unfold varF; simp only []; (repeat' split) <;> first | exact ⟨_, rfl, rfl, fun _ => rfl⟩ | exact ⟨_, rfl, rfl, fun h => absurd h (by decide)⟩ | (exfalso; omega) | (exfalso; simp_all; done) | (exfalso; simp_all; omega)))
end Go.Proofs.YtpgnmnacfilnkaaDoor
