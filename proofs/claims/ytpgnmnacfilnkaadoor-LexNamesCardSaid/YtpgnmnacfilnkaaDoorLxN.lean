/- What the lexer's tries come to, together, is what stands ahead; a token that was told has a byte at least, and no more than the text has. No walk. -/
import Derived.Test.YtpgnmnacfilnkaaDoorLxH
namespace Go.Proofs.YtpgnmnacfilnkaaDoor
open Go Go.Wk Go.Lx
set_option linter.unusedSimpArgs false
set_option linter.unusedVariables false

theorem run_pos {p : UInt8 → Bool} {r : List UInt8} (hr : r ≠ []) (h : p (r.getD 0 0) = true) : 1 ≤ run p r := by
  cases r with
  | nil => exact absurd rfl hr
  | cons c t =>
    unfold run
    rw [if_pos (by simpa using h)]; omega
theorem run_zero {p : UInt8 → Bool} {r : List UInt8} (h : p (r.getD 0 0) = false) : run p r = 0 := by
  cases r with
  | nil => rfl
  | cons c t =>
    unfold run
    rw [if_neg (by simp at h; simp [h])]
theorem ne_of_low {r : List UInt8} (h : low (r.getD 0 0) = true) : r ≠ [] := fun e => by rw [e] at h; exact absurd h (by decide)
theorem low_within {c : UInt8} (h : low c = true) : within c = true := by simp [within, h]
theorem high_within {c : UInt8} (h : high c = true) : within c = true := by simp [within, h]
theorem partN_zero (r : List UInt8) : partN r = 0 ↔ low (r.getD 0 0) = false := by
  unfold partN
  constructor
  · intro h
    cases hl : low (r.getD 0 0) with
    | false => rfl
    | true =>
      rw [hl, if_pos rfl] at h
      have := run_pos (ne_of_low hl) (low_within hl); omega
  · intro h; rw [h]; rfl
theorem nameO_eq (r : List UInt8) : nameO r = if low (r.getD 0 0) = true then some (nameF r) else none := by
  by_cases hl : low (r.getD 0 0) = true
  · rw [if_pos hl]
    have hp : partN r = run within r := by unfold partN; rw [if_pos hl]
    have hw : partW r = isWord (r.take (run within r)) := by unfold partW; rw [if_pos hl]
    have h0 : ¬ partN r = 0 := by rw [partN_zero]; simpa using hl
    unfold nameO nameF
    rw [if_neg h0, hp, hw]
    by_cases h1 : isWord (r.take (run within r)) = true
    · simp only [if_pos h1]
    · simp only [if_neg h1]
      have hg : (r.drop (run within r)).getD 0 0 = r.getD (run within r) 0 := by simp only [List.getD_eq_getElem?_getD, List.getElem?_drop, Nat.add_zero]
      rw [hg]
      generalize hq : r.drop (run within r + 1) = q
      by_cases hlq : low (q.getD 0 0) = true
      · have hp2 : partN q = run within q := by unfold partN; rw [if_pos hlq]
        have hw2 : partW q = isWord (q.take (run within q)) := by unfold partW; rw [if_pos hlq]
        have h02 : 0 < run within q := run_pos (ne_of_low hlq) (low_within hlq)
        rw [hp2, hw2]
        have e9 : run within r + (1 + run within q) = run within r + 1 + run within q := by omega
        by_cases h5 : (r.getD (run within r) 0).toNat = 46 ∧ isWord (q.take (run within q)) = false
        · have hA : ((r.getD (run within r) 0).toNat = 46 ∧ 0 < run within q ∧ isWord (q.take (run within q)) = false) := ⟨h5.1, h02, h5.2⟩
          have hB : ((r.getD (run within r) 0).toNat = 46 ∧ low (q.getD 0 0) = true ∧ isWord (q.take (run within q)) = false) := ⟨h5.1, hlq, h5.2⟩
          simp only [if_pos hA, if_pos hB, e9]
          split <;> rfl
        · have hA : ¬ ((r.getD (run within r) 0).toNat = 46 ∧ 0 < run within q ∧ isWord (q.take (run within q)) = false) := fun h => h5 ⟨h.1, h.2.2⟩
          have hB : ¬ ((r.getD (run within r) 0).toNat = 46 ∧ low (q.getD 0 0) = true ∧ isWord (q.take (run within q)) = false) := fun h => h5 ⟨h.1, h.2.2⟩
          simp only [if_neg hA, if_neg hB]
          split <;> rfl
      · have hp2 : partN q = 0 := (partN_zero q).2 (by simpa using hlq)
        have hA : ¬ ((r.getD (run within r) 0).toNat = 46 ∧ 0 < partN q ∧ partW q = false) := fun h => by have := h.2.1; omega
        have hB : ¬ ((r.getD (run within r) 0).toNat = 46 ∧ low (q.getD 0 0) = true ∧ isWord (q.take (run within q)) = false) := fun h => hlq h.2.1
        simp only [if_neg hA, if_neg hB]
        split <;> rfl
  · rw [if_neg hl]
    unfold nameO
    rw [if_pos ((partN_zero r).2 (by simpa using hl))]
theorem find_len (n : Nat) (r : List UInt8) : ∀ l : List (List UInt8), (∀ s ∈ l, s.length = n) → (l.find? fun s => Lib.hasPrefix r s) = if l.contains (r.take n) = true then some (r.take n) else none
  | [], _ => rfl
  | s :: l, h => by
    have hs : s.length = n := h s (by simp)
    have e : Lib.hasPrefix r s = (r.take n == s) := by
      unfold Lib.hasPrefix
      rw [Bool.eq_iff_iff, List.isPrefixOf_iff_prefix, List.prefix_iff_eq_take, hs, beq_iff_eq, eq_comm]
    rw [List.find?_cons, e, List.contains_cons, find_len n r l (fun s hs => h s (by simp [hs]))]
    by_cases h1 : r.take n = s
    · simp [h1]
    · have : (r.take n == s) = false := by simpa using h1
      rw [this]; simp
theorem signO_eq {r : List UInt8} (hr : r ≠ []) : signO r = if twos.contains (r.take 2) = true then some ⟨0, 8, 2, r.take 2⟩ else if ones.contains (r.getD 0 0) = true then some ⟨0, 8, 1, [r.getD 0 0]⟩ else none := by
  have e : signsL = twos ++ ones.map fun c => [c] := rfl
  unfold signO
  rw [e, List.find?_append, find_len 2 r twos (by decide), find_len 1 r (ones.map fun c => [c]) (by decide)]
  obtain ⟨c, t, rfl⟩ := List.exists_cons_of_ne_nil hr
  have e2 : (ones.map fun c => [c]).contains ((c :: t).take 1) = ones.contains c := by
    simp only [List.take_succ_cons, List.take_zero]
    rw [Bool.eq_iff_iff]; simp
  rw [e2]
  have e3 : (c :: t).getD 0 0 = c := rfl
  rw [e3]
  by_cases h : twos.contains ((c :: t).take 2) = true
  · rw [if_pos h, if_pos h]
    have hl : ((c :: t).take 2).length = 2 := by
      have : (c :: t).take 2 ∈ twos := by simpa using h
      exact (show ∀ s ∈ twos, s.length = 2 by decide) _ this
    simp [hl] at *
    exact hl
  · rw [if_neg h, if_neg h]
    by_cases h4 : ones.contains c = true
    · rw [if_pos h4, if_pos h4]; rfl
    · rw [if_neg h4, if_neg h4]; rfl

theorem low_iff (c : UInt8) : low c = true ↔ 97 ≤ c.toNat ∧ c.toNat ≤ 122 := by simp [low]
theorem high_iff (c : UInt8) : high c = true ↔ 65 ≤ c.toNat ∧ c.toNat ≤ 90 := by simp [high]
theorem digit_iff (c : UInt8) : digit c = true ↔ 48 ≤ c.toNat ∧ c.toNat ≤ 57 := by simp [digit]
theorem within_iff (c : UInt8) : within c = true ↔ low c = true ∨ high c = true ∨ digit c = true ∨ c.toNat = 95 := by simp [within, or_assoc]
theorem bfalse {b : Bool} (h : ¬ b = true) : b = false := by simpa using h
theorem twos_first {c : UInt8} {r : List UInt8} (h : twos.contains (r.take 2) = true) (hc : r.getD 0 0 = c) : c.toNat = 58 ∨ c.toNat = 61 ∨ c.toNat = 33 ∨ c.toNat = 60 ∨ c.toNat = 62 ∨ c.toNat = 43 := by
  have h1 : r.take 2 ∈ twos := by simpa using h
  have h2 : (r.take 2).getD 0 0 = r.getD 0 0 := by cases r <;> rfl
  rw [← hc, ← h2]
  exact (show ∀ s ∈ twos, (s.getD 0 0).toNat = 58 ∨ (s.getD 0 0).toNat = 61 ∨ (s.getD 0 0).toNat = 33 ∨ (s.getD 0 0).toNat = 60 ∨ (s.getD 0 0).toNat = 62 ∨ (s.getD 0 0).toNat = 43 by decide) _ h1
theorem ones_has {c : UInt8} (h : ones.contains c = true) : low c = false ∧ digit c = false ∧ high c = false ∧ c.toNat ≠ 95 ∧ c.toNat ≠ 34 := by
  have h1 : c ∈ ones := by simpa using h
  exact (show ∀ c ∈ ones, low c = false ∧ digit c = false ∧ high c = false ∧ c.toNat ≠ 95 ∧ c.toNat ≠ 34 by decide) _ h1
theorem fieldF_no {r : List UInt8} (h : ¬ (r.getD 0 0).toNat = 46) : fieldF r = none := by unfold fieldF; rw [if_pos h]
theorem quoO_no {r : List UInt8} (h : ¬ (r.getD 0 0).toNat = 34) : quoO r = none := by unfold quoO; rw [if_pos h]
theorem numF_no {r : List UInt8} (h : digit (r.getD 0 0) = false) : numF r = none := by unfold numF; rw [if_pos (run_zero h)]
theorem varF_no {r : List UInt8} (h : within (r.getD 0 0) = false) : varF r = none := by
  have h0 := run_zero h
  unfold varF
  simp only []
  rw [if_neg (by omega), if_pos (Or.inl h0)]
theorem nextO_eq {r : List UInt8} (hr : r ≠ []) : nextO r = nextF r := by
  have hlow := low_iff (r.getD 0 0)
  have hhigh := high_iff (r.getD 0 0)
  have hdig := digit_iff (r.getD 0 0)
  have hwit := within_iff (r.getD 0 0)
  unfold nextO
  rw [nameO_eq]
  unfold nextF
  simp only []
  by_cases h1 : low (r.getD 0 0) = true
  · rw [if_pos h1, if_pos h1]
  rw [if_neg h1, if_neg h1]
  by_cases h2 : digit (r.getD 0 0) = true
  · rw [if_pos h2]
    have e1 : varF r = none := by
      have := run_pos hr (digit_within _ h2)
      unfold varF
      simp only []
      rw [if_neg (by rw [hdig] at h2; omega), if_pos (Or.inr (bfalse (by rw [hhigh]; rw [hdig] at h2; omega)))]
    have e2 : numF r = some (numberF r) := by
      unfold numF
      rw [if_neg (by have := run_pos hr h2; omega)]
    rw [e1, e2]
  rw [if_neg h2]
  by_cases h3 : (r.getD 0 0).toNat = 34
  · rw [if_pos h3, varF_no (bfalse (by rw [hwit, hlow, hhigh, hdig]; omega)), numF_no (bfalse h2)]
    unfold quoO
    rw [if_neg (by omega)]
  rw [if_neg h3]
  by_cases h4 : high (r.getD 0 0) = true
  · rw [if_pos h4]
    have := run_pos hr (high_within h4)
    have e1 : varF r = some (if 32 < run within r then bad 63 else ⟨0, 3, run within r, r.take (run within r)⟩) := by
      unfold varF
      simp only []
      rw [if_neg (by rw [hhigh] at h4; omega), if_neg (by rw [h4]; simp; omega)]
      split <;> rfl
    rw [e1]
  rw [if_neg h4]
  by_cases h5 : (r.getD 0 0).toNat = 95
  · rw [if_pos h5]
    have h6 := run_pos hr ((within_iff _).2 (.inr (.inr (.inr h5))))
    by_cases h7 : 1 < run within r
    · have e1 : varF r = none := by
        unfold varF
        simp only []
        rw [if_neg (by omega), if_pos (Or.inr (bfalse h4))]
      have e2 : signO r = none := by
        rw [signO_eq hr, if_neg (fun h => by have := twos_first h rfl; omega), if_neg (fun h => (ones_has h).2.2.2.1 h5)]
      rw [if_pos h7, e1, numF_no (bfalse h2), quoO_no h3, fieldF_no (by omega), e2]
    · have e1 : varF r = some ⟨0, 4, 1, [95]⟩ := by
        unfold varF
        simp only []
        rw [if_pos ⟨by omega, h5⟩]
      rw [if_neg h7, e1]
  rw [if_neg h5, varF_no (bfalse (by rw [hwit]; intro h; rcases h with h | h | h | h <;> contradiction)), numF_no (bfalse h2), quoO_no h3]
  simp only []
  by_cases h6 : twos.contains (r.take 2) = true
  · have := twos_first h6 rfl
    rw [if_pos h6, fieldF_no (by omega), signO_eq hr, if_pos h6]
  rw [if_neg h6]
  have eS : signO r = if ones.contains (r.getD 0 0) = true then some ⟨0, 8, 1, [r.getD 0 0]⟩ else none := by rw [signO_eq hr, if_neg h6]
  have hg : (r.drop 1).getD 0 0 = r.getD 1 0 := by simp only [List.getD_eq_getElem?_getD, List.getElem?_drop]
  by_cases h7 : (r.getD 0 0).toNat = 46 ∧ low (r.getD 1 0) = true ∧ isWord ((r.drop 1).take (run within (r.drop 1))) = false
  · have hp : partN (r.drop 1) = run within (r.drop 1) := by unfold partN; rw [hg, if_pos h7.2.1]
    have hw : partW (r.drop 1) = false := by unfold partW; rw [hg, if_pos h7.2.1]; exact h7.2.2
    have hq : low ((r.drop 1).getD 0 0) = true := by rw [hg]; exact h7.2.1
    have h8 := run_pos (ne_of_low hq) (low_within hq)
    have e1 : fieldF r = some (if 32 < run within (r.drop 1) then bad 63 else ⟨0, 9, run within (r.drop 1) + 1, (r.drop 1).take (run within (r.drop 1))⟩) := by
      unfold fieldF
      rw [if_neg (by omega), hp, hw, if_neg (fun h => h.elim (fun h => by omega) (fun h => by cases h))]
      have : (r.take (run within (r.drop 1) + 1)).drop 1 = (r.drop 1).take (run within (r.drop 1)) := by rw [List.drop_take]; rfl
      rw [this]
      split <;> rfl
    rw [if_pos h7, e1]
  · rw [if_neg h7, eS]
    have e1 : fieldF r = none := by
      unfold fieldF
      by_cases h8 : (r.getD 0 0).toNat = 46
      · rw [if_neg (by omega)]
        by_cases h9 : low (r.getD 1 0) = true
        · have hw : partW (r.drop 1) = true := by
            unfold partW
            rw [hg, if_pos h9]
            cases hw : isWord ((r.drop 1).take (run within (r.drop 1))) with
            | true => rfl
            | false => exact absurd ⟨h8, h9, hw⟩ h7
          rw [if_pos (Or.inr hw)]
        · rw [if_pos (Or.inl ((partN_zero _).2 (by rw [hg]; exact bfalse h9)))]
      · rw [if_pos h8]
    rw [e1]
    by_cases h8 : ones.contains (r.getD 0 0) = true
    · rw [if_pos h8, if_pos h8]
    · rw [if_neg h8, if_neg h8]
theorem isWord_nil : isWord [] = false := by decide
/-- What was told without an error has a byte at least, and no more than there are. -/
theorem nextF_size {r : List UInt8} (hr : r ≠ []) (h : (nextF r).e = 0) : 1 ≤ (nextF r).size ∧ (nextF r).size ≤ r.length := by
  have hl : 1 ≤ r.length := by cases r <;> simp_all
  have hrl := run_le within r
  have hrl1 := run_le within (r.drop 1)
  have hdl : (r.drop 1).length = r.length - 1 := List.length_drop
  have b63 : (bad 63).e = 63 := rfl
  have b4 : (bad 4).e = 4 := rfl
  have b80 : (bad 80).e = 80 := rfl
  have b40 : (bad 40).e = 40 := rfl
  revert h
  unfold nextF
  simp only []
  by_cases h1 : low (r.getD 0 0) = true
  · rw [if_pos h1]
    have hp := run_pos hr (low_within h1)
    have hq := run_le within (r.drop (run within r + 1))
    rw [List.length_drop] at hq
    unfold nameF
    simp only []
    by_cases h7 : (r.getD (run within r) 0).toNat = 46 ∧ low ((r.drop (run within r + 1)).getD 0 0) = true ∧ isWord ((r.drop (run within r + 1)).take (run within (r.drop (run within r + 1)))) = false
    · have := pos_of_getD' h7.1 (by decide)
      rw [if_pos h7]
      (repeat' split) <;> intro h <;> first | (exfalso; omega) | (simp only []; omega)
    · rw [if_neg h7]
      (repeat' split) <;> intro h <;> first | (exfalso; omega) | (simp only []; omega)
  rw [if_neg h1]
  by_cases h2 : digit (r.getD 0 0) = true
  · rw [if_pos h2]
    have hp := run_pos hr h2
    have hm := run_mono digit_within r
    unfold numberF
    simp only []
    (repeat' split) <;> intro h <;> first | (exfalso; omega) | (simp only []; omega)
  rw [if_neg h2]
  by_cases h3 : (r.getD 0 0).toNat = 34
  · rw [if_pos h3]
    unfold quotedF
    simp only []
    have hq := qmarks_le _ (r.drop 1) (Nat.le_refl _)
    by_cases h4 : ((r.drop 1).getD (qmarks (r.drop 1)).2 0).toNat = 34
    · have := pos_of_getD' h4 (by decide)
      rw [if_pos h4]
      (repeat' split) <;> intro h <;> first | (exfalso; omega) | (simp only []; omega)
    · rw [if_neg h4]; intro h; omega
  rw [if_neg h3]
  by_cases h4 : high (r.getD 0 0) = true
  · have hp := run_pos hr (high_within h4)
    rw [if_pos h4]
    (repeat' split) <;> intro h <;> first | (exfalso; omega) | (simp only []; omega)
  rw [if_neg h4]
  by_cases h5 : (r.getD 0 0).toNat = 95
  · rw [if_pos h5]
    (repeat' split) <;> intro h <;> first | (exfalso; omega) | (simp only []; omega)
  rw [if_neg h5]
  by_cases h6 : twos.contains (r.take 2) = true
  · rw [if_pos h6]
    intro _
    have h7 : r.take 2 ∈ twos := by simpa using h6
    have h8 := (show ∀ s ∈ twos, s.length = 2 by decide) _ h7
    rw [List.length_take] at h8
    simp only []; omega
  rw [if_neg h6]
  (repeat' split) <;> intro h <;> first | (exfalso; omega) | (simp only []; omega)

theorem toks_end {n : Nat} {p : Int × Int} {r : List UInt8} (h : r.drop (skipB r) = []) : toks n p r = ([], (0, 0), 0) := by
  cases n with
  | zero => rfl
  | succ n => unfold toks; simp only [if_pos h]
theorem toks_bad {n : Nat} {p : Int × Int} {r : List UInt8} (h : r.drop (skipB r) ≠ []) (he : (nextF (r.drop (skipB r))).e ≠ 0) : toks (n + 1) p r = ([], place p (r.take (skipB r)), (nextF (r.drop (skipB r))).e) := by
  unfold toks; simp only [if_neg h, if_pos he]
theorem toks_ok {n : Nat} {p : Int × Int} {r : List UInt8} (h : r.drop (skipB r) ≠ []) (he : (nextF (r.drop (skipB r))).e = 0) :
    toks (n + 1) p r = (let x := toks n (place (place p (r.take (skipB r))) ((r.drop (skipB r)).take (nextF (r.drop (skipB r))).size)) ((r.drop (skipB r)).drop (nextF (r.drop (skipB r))).size)
      if x.2.2 ≠ 0 then x else (⟨(place p (r.take (skipB r))).1, (place p (r.take (skipB r))).2, (nextF (r.drop (skipB r))).kind, (nextF (r.drop (skipB r))).text⟩ :: x.1, x.2)) := by
  conv => lhs; unfold toks
  simp only [if_neg h, he]
  simp
section
variable {r : List UInt8}
theorem nextF_low (h1 : low (r.getD 0 0) = true) : nextF r = nameF r := by unfold nextF; simp only []; rw [if_pos h1]
theorem nextF_dig (h1 : low (r.getD 0 0) = false) (h2 : digit (r.getD 0 0) = true) : nextF r = numberF r := by unfold nextF; simp only []; rw [if_neg (by rw [h1]; decide), if_pos h2]
theorem nextF_quo (h1 : low (r.getD 0 0) = false) (h2 : digit (r.getD 0 0) = false) (h3 : (r.getD 0 0).toNat = 34) : nextF r = quotedF r := by
  unfold nextF; simp only []; rw [if_neg (by rw [h1]; decide), if_neg (by rw [h2]; decide), if_pos h3]
theorem nextF_high (h1 : low (r.getD 0 0) = false) (h2 : digit (r.getD 0 0) = false) (h3 : ¬ (r.getD 0 0).toNat = 34) (h4 : high (r.getD 0 0) = true) :
    nextF r = if 32 < run within r then bad 63 else ⟨0, 3, run within r, r.take (run within r)⟩ := by
  unfold nextF; simp only []; rw [if_neg (by rw [h1]; decide), if_neg (by rw [h2]; decide), if_neg h3, if_pos h4]
theorem nextF_any (h1 : low (r.getD 0 0) = false) (h2 : digit (r.getD 0 0) = false) (h3 : ¬ (r.getD 0 0).toNat = 34) (h4 : high (r.getD 0 0) = false) (h5 : (r.getD 0 0).toNat = 95) :
    nextF r = if 1 < run within r then bad 4 else ⟨0, 4, 1, [95]⟩ := by
  unfold nextF; simp only []; rw [if_neg (by rw [h1]; decide), if_neg (by rw [h2]; decide), if_neg h3, if_neg (by rw [h4]; decide), if_pos h5]
theorem nextF_two (h1 : low (r.getD 0 0) = false) (h2 : digit (r.getD 0 0) = false) (h3 : ¬ (r.getD 0 0).toNat = 34) (h4 : high (r.getD 0 0) = false) (h5 : ¬ (r.getD 0 0).toNat = 95) (h6 : twos.contains (r.take 2) = true) :
    nextF r = ⟨0, 8, 2, r.take 2⟩ := by
  unfold nextF; simp only []; rw [if_neg (by rw [h1]; decide), if_neg (by rw [h2]; decide), if_neg h3, if_neg (by rw [h4]; decide), if_neg h5, if_pos h6]
theorem nextF_field (h1 : low (r.getD 0 0) = false) (h2 : digit (r.getD 0 0) = false) (h3 : ¬ (r.getD 0 0).toNat = 34) (h4 : high (r.getD 0 0) = false) (h5 : ¬ (r.getD 0 0).toNat = 95) (h6 : twos.contains (r.take 2) = false)
    (h7 : (r.getD 0 0).toNat = 46) (h8 : low (r.getD 1 0) = true) (h9 : isWord ((r.drop 1).take (run within (r.drop 1))) = false) :
    nextF r = if 32 < run within (r.drop 1) then bad 63 else ⟨0, 9, run within (r.drop 1) + 1, (r.drop 1).take (run within (r.drop 1))⟩ := by
  unfold nextF; simp only []; rw [if_neg (by rw [h1]; decide), if_neg (by rw [h2]; decide), if_neg h3, if_neg (by rw [h4]; decide), if_neg h5, if_neg (by rw [h6]; decide), if_pos ⟨h7, h8, h9⟩]
theorem nextF_rest (h1 : low (r.getD 0 0) = false) (h2 : digit (r.getD 0 0) = false) (h3 : ¬ (r.getD 0 0).toNat = 34) (h4 : high (r.getD 0 0) = false) (h5 : ¬ (r.getD 0 0).toNat = 95) (h6 : twos.contains (r.take 2) = false)
    (h7 : ¬ ((r.getD 0 0).toNat = 46 ∧ low (r.getD 1 0) = true ∧ isWord ((r.drop 1).take (run within (r.drop 1))) = false)) :
    nextF r = if ones.contains (r.getD 0 0) = true then ⟨0, 8, 1, [r.getD 0 0]⟩ else bad 4 := by
  unfold nextF; simp only []; rw [if_neg (by rw [h1]; decide), if_neg (by rw [h2]; decide), if_neg h3, if_neg (by rw [h4]; decide), if_neg h5, if_neg (by rw [h6]; decide), if_neg h7]
end
end Go.Proofs.YtpgnmnacfilnkaaDoor
