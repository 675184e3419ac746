/- What the lexer does, in plain lists of bytes: kinds of bytes, runs, what stands at a place, places, tokens. -/
import Derived.Test.YtpgnmnacfilnkaaDoorWk13
namespace Go.Lx
open Go Go.Wk
set_option linter.unusedSimpArgs false
set_option linter.unusedVariables false

def low (c : UInt8) : Bool := decide (97 ≤ c.toNat) && decide (c.toNat ≤ 122)
def high (c : UInt8) : Bool := decide (65 ≤ c.toNat) && decide (c.toNat ≤ 90)
def digit (c : UInt8) : Bool := decide (48 ≤ c.toNat) && decide (c.toNat ≤ 57)
def within (c : UInt8) : Bool := low c || high c || digit c || decide (c.toNat = 95)
def blankB (c : UInt8) : Bool := decide (c.toNat = 32) || decide (c.toNat = 9) || decide (c.toNat = 10) || decide (c.toNat = 13)
def notNl (c : UInt8) : Bool := decide (c.toNat ≠ 10)

/-- How many bytes of a kind stand ahead. -/
def run (p : UInt8 → Bool) : List UInt8 → Nat
  | [] => 0
  | c :: r => if p c = true then run p r + 1 else 0
theorem run_le (p : UInt8 → Bool) : ∀ r, run p r ≤ r.length
  | [] => Nat.le_refl _
  | c :: r => by unfold run; split <;> simp [run_le p r]
theorem run_ins {p : UInt8 → Bool} : ∀ {r : List UInt8} {i : Nat}, i < run p r → p (r.getD i 0) = true
  | [], i, h => by simp [run] at h
  | c :: r, i, h => by
    unfold run at h
    split at h
    · rename_i hc
      cases i with
      | zero => simpa using hc
      | succ i => simpa using run_ins (p := p) (r := r) (i := i) (by omega)
    · omega
theorem run_outs {p : UInt8 → Bool} : ∀ {r : List UInt8}, run p r < r.length → p (r.getD (run p r) 0) = false
  | [], h => by simp [run] at h
  | c :: r, h => by
    unfold run at h ⊢
    split at h
    · rename_i hc
      rw [if_pos hc]
      simpa using run_outs (p := p) (r := r) (by simpa using h)
    · rename_i hc
      rw [if_neg hc]
      simpa using hc
theorem run_eq {p : UInt8 → Bool} {r : List UInt8} {i : Nat} (hi : i ≤ r.length) (h1 : ∀ j, j < i → p (r.getD j 0) = true) (h2 : i = r.length ∨ p (r.getD i 0) = false) : run p r = i := by
  rcases Nat.lt_trichotomy (run p r) i with h | h | h
  · have h3 := run_outs (p := p) (r := r) (by omega)
    rw [h1 _ h] at h3; cases h3
  · exact h
  · have h3 := run_ins (p := p) h
    rcases h2 with h2 | h2
    · have := run_le p r; omega
    · rw [h2] at h3; cases h3
theorem run_drop {p : UInt8 → Bool} {r : List UInt8} {i : Nat} (h : i ≤ run p r) : run p (r.drop i) = run p r - i := by
  have hl := run_le p r
  refine run_eq (by rw [List.length_drop]; omega) (fun j hj => ?_) ?_
  · have := run_ins (p := p) (r := r) (i := i + j) (by omega)
    rwa [List.getD_eq_getElem?_getD, List.getElem?_drop, ← List.getD_eq_getElem?_getD]
  · by_cases h2 : run p r = r.length
    · left; rw [List.length_drop]; omega
    · right
      have := run_outs (p := p) (r := r) (by omega)
      rw [List.getD_eq_getElem?_getD, List.getElem?_drop, ← List.getD_eq_getElem?_getD]
      rwa [show i + (run p r - i) = run p r by omega]

def signsL : List (List UInt8) := [[58, 45], [61, 61], [33, 61], [60, 61], [62, 61], [43, 43], [40], [41], [44], [46], [58], [61], [124], [60], [62], [43], [45], [42], [47], [37], [39]]
theorem find_at {α : Type} {p : α → Bool} : ∀ {l : List α} {i : Nat} (h : i < l.length), (∀ j, (hj : j < i) → p (l[j]'(by omega)) = false) → p l[i] = true → l.find? p = some l[i]
  | a :: l, 0, _, _, h2 => by simp only [List.getElem_cons_zero] at h2 ⊢; rw [List.find?_cons_of_pos h2]
  | a :: l, i + 1, h, h1, h2 => by
    have h0 : p a = false := h1 0 (by omega)
    rw [List.find?_cons_of_neg (by rw [h0]; decide)]
    exact find_at (l := l) (i := i) (by simpa using h) (fun j hj => h1 (j + 1) (by omega)) (by simpa using h2)
theorem find_no {α : Type} {p : α → Bool} {l : List α} (h1 : ∀ j, (hj : j < l.length) → p (l[j]'hj) = false) : l.find? p = none := by
  rw [List.find?_eq_none]
  intro x hx
  obtain ⟨j, hj, rfl⟩ := List.getElem_of_mem hx
  rw [h1 j hj]; decide
theorem run_mono {p q : UInt8 → Bool} (h : ∀ c, p c = true → q c = true) : ∀ r, run p r ≤ run q r
  | [] => Nat.le_refl _
  | c :: r => by
    unfold run
    split
    · rename_i hc; rw [if_pos (h c hc)]; exact Nat.succ_le_succ (run_mono h r)
    · exact Nat.zero_le _
theorem digit_within (c : UInt8) (h : digit c = true) : within c = true := by simp [within, h]
/-- The words of the language. -/
def wordsL : List (List UInt8) := [
  [109, 111, 100, 117, 108, 101], [105, 109, 112, 111, 114, 116], [112, 117, 98], [116, 121, 112, 101], [105, 110, 112, 117, 116], [114, 101, 108], [110, 101, 118, 101, 114], [110, 111, 116], [97, 110, 100], [111, 114], [105, 102], [116, 104, 101, 110], [101, 108, 115, 101], [116, 114, 117, 101], [102, 97, 108, 115, 101], [99, 111, 117, 110, 116], [115, 117, 109], [109, 105, 110], [109, 97, 120]]
def isWord (s : List UInt8) : Bool := wordsL.contains s
/-- What stands ahead: its error, its kind, how many bytes it has, what it tells. -/
structure Fnd where
  e : Int
  kind : Int
  size : Nat
  text : List UInt8
  deriving DecidableEq
def bad (e : Int) : Fnd := ⟨e, 0, 0, []⟩
def hexv (c : UInt8) : Option Nat := if digit c = true then some (c.toNat - 48) else if 97 ≤ c.toNat ∧ c.toNat ≤ 102 then some (c.toNat - 87) else none
def hexI (c : UInt8) : Int := match hexv c with | some a => a | none => -1
theorem hexI_le (c : UInt8) : -1 ≤ hexI c ∧ hexI c ≤ 15 := by
  unfold hexI hexv digit
  have := c.toNat_lt
  split
  · rename_i a h
    split at h
    · rename_i h1; simp only [Bool.and_eq_true, decide_eq_true_eq] at h1; cases h; omega
    · split at h
      · cases h; omega
      · cases h
  · omega
/-- A mark of a text: what it tells, and how many bytes it has. -/
def markQ (r : List UInt8) : Option (UInt8 × Nat) :=
  if r = [] ∨ (r.getD 0 0).toNat < 32 ∨ (r.getD 0 0).toNat = 127 ∨ (r.getD 0 0).toNat = 34 then none
  else if (r.getD 0 0).toNat ≠ 92 then some (r.getD 0 0, 1)
  else if r.length < 2 then none
  else if (r.getD 1 0).toNat = 34 ∨ (r.getD 1 0).toNat = 92 then some (r.getD 1 0, 2)
  else if (r.getD 1 0).toNat = 110 then some (10, 2)
  else if (r.getD 1 0).toNat = 116 then some (9, 2)
  else if (r.getD 1 0).toNat = 120 ∧ 3 < r.length ∧ 0 ≤ hexI (r.getD 2 0) ∧ 0 ≤ hexI (r.getD 3 0) then some (UInt8.ofNat (16 * (hexI (r.getD 2 0)).toNat + (hexI (r.getD 3 0)).toNat), 4)
  else none
theorem mark_pos {r : List UInt8} {c : UInt8} {k : Nat} (h : markQ r = some (c, k)) : 0 < k ∧ k ≤ r.length := by
  unfold markQ at h
  rcases (show r = [] ∨ 0 < r.length by cases r <;> simp) with hl | hl
  · subst hl; simp at h
  · (repeat' split at h) <;> first | (cases h; done) | (cases h; omega)
/-- The marks ahead: what they tell, and how many bytes they have together. -/
def marks : Nat → List UInt8 → List UInt8 × Nat
  | 0, _ => ([], 0)
  | n + 1, r => match markQ r with
    | none => ([], 0)
    | some (c, k) => (c :: (marks n (r.drop k)).1, k + (marks n (r.drop k)).2)
theorem marks_more {n m : Nat} : ∀ {r : List UInt8}, r.length ≤ n → r.length ≤ m → marks n r = marks m r := by
  induction n generalizing m with
  | zero =>
    intro r h _
    have : r = [] := List.eq_nil_of_length_eq_zero (by omega)
    subst this
    cases m <;> rfl
  | succ n ih =>
    intro r h h2
    cases m with
    | zero =>
      have : r = [] := List.eq_nil_of_length_eq_zero (by omega)
      subst this; rfl
    | succ m =>
      unfold marks
      cases hm : markQ r with
      | none => rfl
      | some x =>
        obtain ⟨c, k⟩ := x
        have := mark_pos hm
        simp only
        rw [ih (m := m) (r := r.drop k) (by rw [List.length_drop]; omega) (by rw [List.length_drop]; omega)]
def qmarks (r : List UInt8) : List UInt8 × Nat := marks r.length r
theorem qmarks_some {r : List UInt8} {c : UInt8} {k : Nat} (h : markQ r = some (c, k)) : qmarks r = (c :: (qmarks (r.drop k)).1, k + (qmarks (r.drop k)).2) := by
  have hk := mark_pos h
  unfold qmarks
  cases hl : r.length with
  | zero => omega
  | succ n =>
    conv => lhs; unfold marks
    rw [h]
    simp only
    rw [marks_more (n := n) (m := (r.drop k).length) (by rw [List.length_drop]; omega) (Nat.le_refl _)]
theorem qmarks_none {r : List UInt8} (h : markQ r = none) : qmarks r = ([], 0) := by
  unfold qmarks
  cases hl : r.length with
  | zero => rfl
  | succ n => unfold marks; rw [h]
theorem qmarks_le : ∀ (n : Nat) (r : List UInt8), r.length ≤ n → (qmarks r).2 ≤ r.length ∧ (qmarks r).1.length ≤ (qmarks r).2 := by
  intro n
  induction n with
  | zero =>
    intro r h
    have : r = [] := List.eq_nil_of_length_eq_zero (by omega)
    subst this; exact ⟨Nat.le_refl _, Nat.le_refl _⟩
  | succ n ih =>
    intro r h
    cases hm : markQ r with
    | none => rw [qmarks_none hm]; simp
    | some x =>
      obtain ⟨c, k⟩ := x
      have hk := mark_pos hm
      rw [qmarks_some hm]
      have := ih (r.drop k) (by rw [List.length_drop]; omega)
      rw [List.length_drop] at this
      simp only [List.length_cons]
      omega
def nameF (r : List UInt8) : Fnd :=
  let n := run within r
  if isWord (r.take n) = true then ⟨0, 1, n, r.take n⟩
  else
    let q := r.drop (n + 1)
    let k := run within q
    if (r.getD n 0).toNat = 46 ∧ low (q.getD 0 0) = true ∧ isWord (q.take k) = false then
      if 32 < n ∨ 32 < k then bad 63 else ⟨0, 2, n + 1 + k, r.take (n + 1 + k)⟩
    else if 32 < n then bad 63 else ⟨0, 2, n, r.take n⟩
def numberF (r : List UInt8) : Fnd :=
  let n := run digit r
  let m := run within r
  if (1 < n ∧ (r.getD 0 0).toNat = 48) ∨ (n < m ∧ (r.take m).drop n ≠ [98]) then bad 4
  else if 200 < n then bad 80
  else if n < m then ⟨0, 6, m, r.take n⟩ else ⟨0, 5, m, r.take n⟩
def quotedF (r : List UInt8) : Fnd :=
  let q := r.drop 1
  let x := qmarks q
  if (q.getD x.2 0).toNat = 34 then (if 4096 < x.1.length then bad 40 else ⟨0, 7, x.2 + 2, x.1⟩) else bad 4
def twos : List (List UInt8) := [[58, 45], [61, 61], [33, 61], [60, 61], [62, 61], [43, 43]]
def ones : List UInt8 := [40, 41, 44, 46, 58, 61, 124, 60, 62, 43, 45, 42, 47, 37, 39]
/-- What stands ahead of a text that is not empty. -/
def nextF (r : List UInt8) : Fnd :=
  let c := r.getD 0 0
  if low c = true then nameF r
  else if digit c = true then numberF r
  else if c.toNat = 34 then quotedF r
  else if high c = true then (if 32 < run within r then bad 63 else ⟨0, 3, run within r, r.take (run within r)⟩)
  else if c.toNat = 95 then (if 1 < run within r then bad 4 else ⟨0, 4, 1, [95]⟩)
  else if twos.contains (r.take 2) = true then ⟨0, 8, 2, r.take 2⟩
  else if c.toNat = 46 ∧ low (r.getD 1 0) = true ∧ isWord ((r.drop 1).take (run within (r.drop 1))) = false then
    (if 32 < run within (r.drop 1) then bad 63 else ⟨0, 9, run within (r.drop 1) + 1, (r.drop 1).take (run within (r.drop 1))⟩)
  else if ones.contains c = true then ⟨0, 8, 1, [c]⟩
  else bad 4
/-- Behind blanks and remarks. -/
def gap : Nat → List UInt8 → Nat
  | 0, _ => 0
  | n + 1, r => match r with
    | [] => 0
    | c :: t => if blankB c = true then gap n t + 1 else if c.toNat = 35 then run notNl r + gap n (r.drop (run notNl r)) else 0
def skipB (r : List UInt8) : Nat := gap r.length r
/-- The place behind a text. -/
def stepP (p : Int × Int) (c : UInt8) : Int × Int := if c.toNat = 10 then (p.1 + 1, 1) else (p.1, p.2 + 1)
def place (p : Int × Int) (l : List UInt8) : Int × Int := l.foldl stepP p
theorem place_append (p : Int × Int) (l m : List UInt8) : place p (l ++ m) = place (place p l) m := List.foldl_append ..
theorem gap_more {n m : Nat} : ∀ {r : List UInt8}, r.length ≤ n → r.length ≤ m → gap n r = gap m r := by
  induction n generalizing m with
  | zero =>
    intro r h _
    have : r = [] := List.eq_nil_of_length_eq_zero (by omega)
    subst this
    cases m <;> rfl
  | succ n ih =>
    intro r h h2
    cases m with
    | zero =>
      have : r = [] := List.eq_nil_of_length_eq_zero (by omega)
      subst this; rfl
    | succ m =>
      cases r with
      | nil => rfl
      | cons c t =>
        simp only [List.length_cons] at h h2
        unfold gap
        by_cases hb : blankB c = true
        · simp only [if_pos hb]; rw [ih (m := m) (by omega) (by omega)]
        · simp only [if_neg hb]
          by_cases hc : c.toNat = 35
          · simp only [if_pos hc]
            have h1 : 1 ≤ run notNl (c :: t) := by
              unfold run
              rw [if_pos (by simp [notNl, hc])]; omega
            have h3 : ((c :: t).drop (run notNl (c :: t))).length ≤ t.length := by rw [List.length_drop, List.length_cons]; omega
            rw [ih (m := m) (by omega) (by omega)]
          · simp only [if_neg hc]
theorem skipB_nil : skipB [] = 0 := rfl
theorem skipB_blank {c : UInt8} {t : List UInt8} (h : blankB c = true) : skipB (c :: t) = skipB t + 1 := by
  unfold skipB
  rw [List.length_cons]
  conv => lhs; unfold gap
  simp only [if_pos h]
theorem notNl_hash {c : UInt8} {t : List UInt8} (h2 : c.toNat = 35) : 1 ≤ run notNl (c :: t) := by
  unfold run
  rw [if_pos (by simp [notNl, h2])]; omega
theorem skipB_hash {c : UInt8} {t : List UInt8} (h : blankB c = false) (h2 : c.toNat = 35) : skipB (c :: t) = run notNl (c :: t) + skipB ((c :: t).drop (run notNl (c :: t))) := by
  have h1 := notNl_hash (t := t) h2
  have h3 : ((c :: t).drop (run notNl (c :: t))).length ≤ t.length := by rw [List.length_drop, List.length_cons]; omega
  unfold skipB
  rw [List.length_cons]
  conv => lhs; unfold gap
  simp only [h, if_pos h2]
  rw [gap_more (n := t.length) (m := ((c :: t).drop (run notNl (c :: t))).length) h3 (Nat.le_refl _)]
  simp
theorem skipB_stop {c : UInt8} {t : List UInt8} (h : blankB c = false) (h2 : c.toNat ≠ 35) : skipB (c :: t) = 0 := by
  unfold skipB
  rw [List.length_cons]
  unfold gap
  simp only [h, if_neg h2]; simp
theorem skipB_run : ∀ r, skipB r = run blankB r + skipB (r.drop (run blankB r))
  | [] => rfl
  | c :: t => by
    by_cases h : blankB c = true
    · rw [skipB_blank h, skipB_run t]
      unfold run
      rw [if_pos h, List.drop_succ_cons]
      have e : (match t with | [] => 0 | c :: r => if blankB c = true then run blankB r + 1 else 0) = run blankB t := by cases t <;> rfl
      first | rw [e] | skip
      omega
    · unfold run
      rw [if_neg h]; simp
theorem skipB_le : ∀ (n : Nat) (r : List UInt8), r.length ≤ n → skipB r ≤ r.length := by
  intro n
  induction n with
  | zero =>
    intro r h
    have : r = [] := List.eq_nil_of_length_eq_zero (by omega)
    subst this; exact Nat.le_refl _
  | succ n ih =>
    intro r h
    cases r with
    | nil => exact Nat.le_refl _
    | cons c t =>
      simp only [List.length_cons] at h ⊢
      by_cases hb : blankB c = true
      · rw [skipB_blank hb]; have := ih t (by omega); omega
      · by_cases hc : c.toNat = 35
        · rw [skipB_hash (by simpa using hb) hc]
          have h1 := notNl_hash (t := t) hc
          have h2 := run_le notNl (c :: t)
          have h3 := ih ((c :: t).drop (run notNl (c :: t))) (by rw [List.length_drop, List.length_cons]; omega)
          rw [List.length_drop, List.length_cons] at h3
          rw [List.length_cons] at h2
          omega
        · rw [skipB_stop (by simpa using hb) hc]; omega
theorem place_succ (p : Int × Int) {r : List UInt8} {i : Nat} (h : i < r.length) : place p (r.take (i + 1)) = if (r.getD i 0).toNat = 10 then ((place p (r.take i)).1 + 1, 1) else ((place p (r.take i)).1, (place p (r.take i)).2 + 1) := by
  rw [List.take_succ_eq_append_getElem h, place_append, List.getD_eq_getElem?_getD, List.getElem?_eq_getElem h]
  rfl
theorem place_bd {p : Int × Int} (h1 : 0 ≤ p.1) (h2 : 0 ≤ p.2) : ∀ {l : List UInt8}, 0 ≤ (place p l).1 ∧ 0 ≤ (place p l).2 ∧ (place p l).1 ≤ p.1 + l.length ∧ (place p l).2 ≤ p.2 + l.length
  | [] => by simp [place, h1, h2]
  | c :: l => by
    have e : place p (c :: l) = place (stepP p c) l := rfl
    rw [e]
    have hs : 0 ≤ (stepP p c).1 ∧ 0 ≤ (stepP p c).2 ∧ (stepP p c).1 ≤ p.1 + 1 ∧ (stepP p c).2 ≤ p.2 + 1 := by unfold stepP; split <;> simp <;> omega
    have := place_bd hs.1 hs.2.1 (l := l)
    simp only [List.length_cons]
    omega
structure Tok where
  line : Int
  col : Int
  kind : Int
  text : List UInt8
  deriving DecidableEq
/-- The tokens of a text, from a place on: the tokens; where it went wrong, and how. -/
def toks : Nat → Int × Int → List UInt8 → List Tok × (Int × Int) × Int
  | 0, _, _ => ([], (0, 0), 0)
  | n + 1, p, r =>
    let r1 := r.drop (skipB r)
    let p1 := place p (r.take (skipB r))
    if r1 = [] then ([], (0, 0), 0)
    else
      let f := nextF r1
      if f.e ≠ 0 then ([], p1, f.e)
      else
        let x := toks n (place p1 (r1.take f.size)) (r1.drop f.size)
        if x.2.2 ≠ 0 then x else (⟨p1.1, p1.2, f.kind, f.text⟩ :: x.1, x.2)
def tokens (s : List UInt8) : List Tok × (Int × Int) × Int := if 65536 < s.length then ([], (1, 1), 40) else toks (s.length + 1) (1, 1) s
end Go.Lx
