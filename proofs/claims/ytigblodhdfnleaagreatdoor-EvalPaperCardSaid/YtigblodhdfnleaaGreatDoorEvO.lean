/- The plain law of EvalPaper: ints and bigs come to the same; sums, products, and, or, not, texts put together the other way about or otherwise. Walks: Same of values; what the law makes; comes. -/
import Derived.Test.YtigblodhdfnleaaGreatDoorFz
import Derived.Test.YtigblodhdfnleaaGreatDoorEvN
namespace Go.Proofs.YtigblodhdfnleaaGreatDoor
open Go Go.Wk Go.Un Go.De Go.Num
set_option linter.unusedSimpArgs false
set_option linter.unusedVariables false

abbrev Ex := EH × Ef
def litX (v : Vv) : Ex := (⟨1, 0, 0, [], v.1, v.2⟩, .nil)
def callH (s : List UInt8) : EH := ⟨6, 0, 0, s, ⟨0, 0, []⟩, .nil⟩
def callX1 (s : List UInt8) (x : Ex) : Ex := (callH s, .cons x.1 x.2 .nil)
def callX2 (s : List UInt8) (x y : Ex) : Ex := (callH s, .cons x.1 x.2 (.cons y.1 y.2 .nil))
def ifX (x y z : Ex) : Ex := (⟨8, 0, 0, [], ⟨0, 0, []⟩, .nil⟩, .cons x.1 x.2 (.cons y.1 y.2 (.cons z.1 z.2 .nil)))
def evX (x : Ex) : Ans := evE [] [] x.1 x.2
def Fm (x : Ex) : Prop := formE x.1 x.2 = true
theorem eval_ok {x : Ex} (h : Fm x) (hd : deepE x.2 1 = false) : evalO [] [] x.1 x.2 = evX x := by
  unfold evalO
  rw [if_neg (by rw [hd]; decide), if_neg (by rw [show formE x.1 x.2 = true from h]; decide), if_neg (by decide)]
  rfl
theorem evX_lit (v : Vv) : evX (litX v) = yesA v := rfl
theorem fm_lit {v : Vv} (h : checkV v.1 v.2 = 0) : Fm (litX v) := decide_eq_true h
theorem fm_call1 {s : List UInt8} {x : Ex} (hs : s ∈ ones) (hx : Fm x) : Fm (callX1 s x) := by
  show (formK (callH s) 1 && (formE x.1 x.2 && true)) = true
  rw [show formE x.1 x.2 = true from hx]
  unfold formK callH
  simp [hs]
theorem fm_call2 {s : List UInt8} {x y : Ex} (hs : (((op2 s).isSome || decide (s = sAnd)) || decide (s = sOr)) = true) (hx : Fm x) (hy : Fm y) : Fm (callX2 s x y) := by
  show (formK (callH s) 2 && (formE x.1 x.2 && (formE y.1 y.2 && true))) = true
  rw [show formE x.1 x.2 = true from hx, show formE y.1 y.2 = true from hy]
  unfold formK callH
  simp only [hs]
  rfl
theorem fm_if {x y z : Ex} (hx : Fm x) (hy : Fm y) (hz : Fm z) : Fm (ifX x y z) := by
  show (true && (formE x.1 x.2 && (formE y.1 y.2 && (formE z.1 z.2 && true)))) = true
  rw [show formE x.1 x.2 = true from hx, show formE y.1 y.2 = true from hy, show formE z.1 z.2 = true from hz]
  rfl
theorem listO1 (a : Ans) : listO [a] = if a.1 ≠ 0 then (a.1, []) else (0, [a.2]) := by
  show (if a.1 ≠ 0 then (a.1, []) else if (0 : Int) ≠ 0 then _ else (0, [a.2])) = _
  rw [if_neg (fun h : (0 : Int) ≠ 0 => h rfl)]
theorem listO2 (a b : Ans) : listO [a, b] = if a.1 ≠ 0 then (a.1, []) else if b.1 ≠ 0 then (b.1, []) else (0, [a.2, b.2]) := by
  show (if a.1 ≠ 0 then (a.1, []) else if (listO [b]).1 ≠ 0 then ((listO [b]).1, []) else (0, a.2 :: (listO [b]).2)) = _
  rw [listO1]
  by_cases hb : b.1 ≠ 0
  · rw [if_pos hb, if_pos hb]
    by_cases ha : a.1 ≠ 0
    · rw [if_pos ha, if_pos ha]
    · rw [if_neg ha, if_neg ha, if_pos hb]
  · rw [if_neg hb, if_neg hb]
    by_cases ha : a.1 ≠ 0
    · rw [if_pos ha, if_pos ha]
    · rw [if_neg ha, if_neg ha, if_neg (fun h : (0 : Int) ≠ 0 => h rfl)]
theorem evX_call1 {s : List UInt8} (h1 : s ≠ sAnd) (h2 : s ≠ sOr) (x : Ex) : evX (callX1 s x) = if (evX x).1 ≠ 0 then noA (evX x).1 else op1 s (evX x).2 := by
  show evK [] [] (callH s) [evX x] = _
  unfold evK callH
  rw [if_neg (show ¬ (6 : Nat) = 1 by decide), if_neg (show ¬ (6 : Nat) = 2 by decide), if_neg (show ¬ (6 : Nat) = 4 by decide), if_neg (show ¬ (6 : Nat) = 5 by decide), if_neg (show ¬ (6 : Nat) = 7 by decide), if_neg (show ¬ (6 : Nat) = 8 by decide), if_neg (by rintro (h | h); exact h1 h; exact h2 h), listO1]
  by_cases hx : (evX x).1 ≠ 0
  · rw [if_pos hx, if_pos hx, if_pos hx]
  · rw [if_neg hx, if_neg (fun h : (0 : Int) ≠ 0 => h rfl), if_neg hx]
theorem evX_call2 {s : List UInt8} {f : Vv → Vv → Ans} (h1 : s ≠ sAnd) (h2 : s ≠ sOr) (hf : op2 s = some f) (x y : Ex) : evX (callX2 s x y) = if (evX x).1 ≠ 0 then noA (evX x).1 else if (evX y).1 ≠ 0 then noA (evX y).1 else f (evX x).2 (evX y).2 := by
  show evK [] [] (callH s) [evX x, evX y] = _
  unfold evK callH
  rw [if_neg (show ¬ (6 : Nat) = 1 by decide), if_neg (show ¬ (6 : Nat) = 2 by decide), if_neg (show ¬ (6 : Nat) = 4 by decide), if_neg (show ¬ (6 : Nat) = 5 by decide), if_neg (show ¬ (6 : Nat) = 7 by decide), if_neg (show ¬ (6 : Nat) = 8 by decide), if_neg (by rintro (h | h); exact h1 h; exact h2 h), listO2]
  by_cases hx : (evX x).1 ≠ 0
  · rw [if_pos hx, if_pos hx, if_pos hx]
  · rw [if_neg hx, if_neg hx]
    by_cases hy : (evX y).1 ≠ 0
    · rw [if_pos hy, if_pos hy, if_pos hy]
    · rw [if_neg hy, if_neg (fun h : (0 : Int) ≠ 0 => h rfl), if_neg hy]
      simp only [hf]
/-! ### ints and bigs -/
def opn (k : Nat) : List UInt8 := if k = 0 then [43] else if k = 1 then [45] else if k = 2 then [42] else if k = 3 then [47] else [37]
theorem opn_ne {k : Nat} : opn k ≠ sAnd ∧ opn k ≠ sOr := by
  unfold opn
  refine ⟨?_, ?_⟩ <;> (repeat' split) <;> decide
theorem opn_op2 {k : Nat} (hk : k ≤ 4) : op2 (opn k) = some (numO k) := by
  match k, hk with
  | 0, _ => rfl
  | 1, _ => rfl
  | 2, _ => rfl
  | 3, _ => rfl
  | 4, _ => rfl
def zO (k : Nat) (a b : Int) : Int := if k = 0 then a + b else if k = 1 then a - b else if k = 2 then a * b else if k = 3 then a.tdiv b else a.tmod b
theorem tmod_in {a b : Int} (ha : in64 a) : in64 (a.tmod b) := by
  have h1 : (a.tmod b).natAbs ≤ a.natAbs := by rw [Int.natAbs_tmod]; exact Nat.mod_le _ _
  unfold in64 at *
  by_cases h0 : 0 ≤ a
  · have := Int.tmod_nonneg b h0
    omega
  · have h := Int.tmod_nonneg b (show 0 ≤ -a by omega)
    rw [Int.neg_tmod] at h
    omega
theorem intO_eq {k : Nat} (hk : k ≤ 4) {a b : Int} (ha : in64 a) : intO k a b = if 3 ≤ k ∧ b = 0 then (0, 81) else if in64 (zO k a b) then (zO k a b, 0) else (0, 80) := by
  match k, hk with
  | 0, _ => rfl
  | 1, _ => rfl
  | 2, _ => rfl
  | 3, _ =>
    show (if b = 0 then ((0 : Int), (81 : Int)) else if in64 (a.tdiv b) then (a.tdiv b, 0) else (0, 80)) = _
    by_cases h : b = 0
    · rw [if_pos h, if_pos ⟨by decide, h⟩]
    · rw [if_neg h, if_neg (show ¬ (3 ≤ 3 ∧ b = 0) from fun h9 => h h9.2)]; rfl
  | 4, _ =>
    show (if b = 0 then ((0 : Int), (81 : Int)) else (a.tmod b, 0)) = _
    by_cases h : b = 0
    · rw [if_pos h, if_pos ⟨by decide, h⟩]
    · rw [if_neg h, if_neg (fun h9 => h h9.2), show zO 4 a b = a.tmod b from rfl, if_pos (tmod_in ha)]
theorem numO_int (k : Nat) (a b : Int) : numO k (intV a) (intV b) = if (intO k a b).2 ≠ 0 then noA (intO k a b).2 else yesA (intV (intO k a b).1) := rfl
theorem numO_big (k : Nat) (s t : List UInt8) : numO k (bigV s) (bigV t) = if (doA k s t).2 ≠ 0 then noA (doA k s t).2 else yesA (bigV (doA k s t).1) := rfl
theorem numO_ok {k : Nat} (hk : k ≤ 4) {a b : Int} (ha : in64 a) (h : (numO k (intV a) (intV b)).1 = 0) : numO k (intV a) (intV b) = yesA (intV (zO k a b)) ∧ in64 (zO k a b) ∧ (3 ≤ k → b ≠ 0) := by
  rw [numO_int, intO_eq hk ha] at h ⊢
  by_cases h1 : 3 ≤ k ∧ b = 0
  · rw [if_pos h1] at h; exact absurd h (by decide)
  rw [if_neg h1] at h ⊢
  by_cases h2 : in64 (zO k a b)
  · rw [if_pos h2, if_neg (fun h : (0 : Int) ≠ 0 => h rfl)]
    exact ⟨rfl, h2, fun h3 h4 => h1 ⟨h3, h4⟩⟩
  · rw [if_neg h2] at h; exact absurd h (by decide)
theorem show_in {z : Int} (h : z.natAbs ≤ 340282366920938463463374607431768211456) : (showZ z).2 = 0 :=
  (showZ_err z 200 rfl).2 (Nat.lt_of_le_of_lt h (by decide))
theorem in64_abs {z : Int} (h : in64 z) : z.natAbs ≤ 9223372036854775808 := by unfold in64 at h; omega
theorem show64 {z : Int} (h : in64 z) : (showZ z).2 = 0 := show_in (Nat.le_trans (in64_abs h) (by decide))
theorem zO_abs {k : Nat} (hk : k ≤ 4) {a b : Int} (ha : in64 a) (hb : in64 b) : (zO k a b).natAbs ≤ 340282366920938463463374607431768211456 := by
  have h1 := in64_abs ha
  have h2 := in64_abs hb
  match k, hk with
  | 0, _ => show (a + b).natAbs ≤ _; omega
  | 1, _ => show (a - b).natAbs ≤ _; omega
  | 2, _ =>
    show (a * b).natAbs ≤ _
    rw [Int.natAbs_mul]
    exact Nat.le_trans (Nat.mul_le_mul h1 h2) (by decide)
  | 3, _ =>
    show (a.tdiv b).natAbs ≤ _
    rw [Int.natAbs_tdiv]
    exact Nat.le_trans (Nat.div_le_self _ _) (Nat.le_trans h1 (by decide))
  | 4, _ =>
    show (a.tmod b).natAbs ≤ _
    rw [Int.natAbs_tmod]
    exact Nat.le_trans (Nat.mod_le _ _) (Nat.le_trans h1 (by decide))
theorem both_show {a b : Int} (ha : in64 a) (hb : in64 b) : bothE (showZ a).1 (showZ b).1 = 0 := by
  unfold bothE
  rw [if_pos (show_ok (show64 ha)).1, (show_ok (show64 hb)).1]
theorem doA_show {k : Nat} (hk : k ≤ 4) {a b : Int} (ha : in64 a) (hb : in64 b) : doA k (showZ a).1 (showZ b).1 = if 3 ≤ k ∧ b = 0 then ([], 81) else showZ (zO k a b) := by
  have e1 := (show_ok (show64 ha)).2
  have e2 := (show_ok (show64 hb)).2
  have hbo := both_show ha hb
  have hnz : decV (bodyS (showZ b).1) = 0 ↔ b = 0 := by
    have := val_nz (t := (showZ b).1)
    rw [e2] at this
    exact this
  have hdv : divE (showZ a).1 (showZ b).1 = if b = 0 then 81 else 0 := by
    unfold divE
    rw [if_pos hbo]
    by_cases h : b = 0
    · rw [if_pos h, if_pos (hnz.2 h)]
    · rw [if_neg h, if_neg (fun h9 => h (hnz.1 h9))]
  match k, hk with
  | 0, _ => simp only [doA, ansZ, if_pos hbo, e1, e2]; rfl
  | 1, _ => simp only [doA, ansZ, if_pos hbo, e1, e2]; rfl
  | 2, _ => simp only [doA, ansZ, if_pos hbo, e1, e2]; rfl
  | 3, _ =>
    simp only [doA, ansZ, hdv, e1, e2]
    by_cases h : b = 0
    · rw [if_pos h, if_neg (by decide), if_pos ⟨by decide, h⟩]
    · rw [if_neg h, if_pos rfl, if_neg (fun h9 => h h9.2)]; rfl
  | 4, _ =>
    simp only [doA, ansZ, hdv, e1, e2]
    by_cases h : b = 0
    · rw [if_pos h, if_neg (by decide), if_pos ⟨by decide, h⟩]
    · rw [if_neg h, if_pos rfl, if_neg (fun h9 => h h9.2)]; rfl
theorem if_yes {α : Type} (v : Vv) (x y : α) : (if (yesA v).1 ≠ 0 then x else y) = y := if_neg (fun h => h rfl)
theorem ev_big {a : Int} : evX (callX1 sBig (litX (intV a))) = yesA (bigV (showZ a).1) := by
  rw [evX_call1 (by decide) (by decide), evX_lit, if_yes]
  rfl
theorem op1_int {z : Int} (h : (showZ z).2 = 0) : op1 sInt (bigV (showZ z).1) = if in64 z then yesA (intV z) else noA 80 := by
  obtain ⟨h1, h2⟩ := show_ok h
  show (if checkS (showZ z).1 = 0 ∧ in64 (valS (showZ z).1) then yesA (intV (valS (showZ z).1)) else noA 80) = _
  rw [h2]
  by_cases hz : in64 z
  · rw [if_pos ⟨h1, hz⟩, if_pos hz]
  · rw [if_neg (fun h9 => hz h9.2), if_neg hz]
/-- Ints and bigs come to the same. -/
theorem paper1 {k : Nat} (hk : k ≤ 4) {a b : Int} (ha : in64 a) (hb : in64 b) {x y z : Ans}
    (hx : x = evX (callX1 sBig (callX2 (opn k) (litX (intV a)) (litX (intV b)))))
    (hy : y = evX (callX2 (opn k) (callX1 sBig (litX (intV a))) (callX1 sBig (litX (intV b)))))
    (hz : z = evX (callX1 sInt (callX2 (opn k) (callX1 sBig (litX (intV a))) (callX1 sBig (litX (intV b)))))) :
    (x.1 = 0 → y.1 = 0 ∧ x.2 = y.2) ∧ (x.1 = 81 → y.1 = 81) ∧ (x.1 = 80 → z.1 = 80) ∧ (x.1 = 0 ∨ x.1 = 81 ∨ x.1 = 80) := by
  have n0 : ¬ ((0 : Int) ≠ 0) := fun h => h rfl
  have e1 : evX (callX2 (opn k) (litX (intV a)) (litX (intV b))) = numO k (intV a) (intV b) := by
    rw [evX_call2 opn_ne.1 opn_ne.2 (opn_op2 hk), evX_lit, evX_lit, if_yes, if_yes]; rfl
  have e2 : evX (callX2 (opn k) (callX1 sBig (litX (intV a))) (callX1 sBig (litX (intV b)))) = numO k (bigV (showZ a).1) (bigV (showZ b).1) := by
    rw [evX_call2 opn_ne.1 opn_ne.2 (opn_op2 hk), ev_big, ev_big, if_yes, if_yes]; rfl
  rw [evX_call1 (by decide) (by decide), e1, numO_int, intO_eq hk ha] at hx
  rw [e2, numO_big, doA_show hk ha hb] at hy
  rw [evX_call1 (by decide) (by decide), e2, numO_big, doA_show hk ha hb] at hz
  by_cases h1 : 3 ≤ k ∧ b = 0
  · rw [if_pos h1] at hx hy hz
    subst hx; subst hy; subst hz
    exact ⟨fun h => absurd h (by decide), fun _ => rfl, fun h => absurd h (by decide), .inr (.inl rfl)⟩
  rw [if_neg h1] at hx hy hz
  have hs := show_in (zO_abs hk ha hb)
  have eY : (if (showZ (zO k a b)).2 ≠ 0 then noA (showZ (zO k a b)).2 else yesA (bigV (showZ (zO k a b)).1)) = yesA (bigV (showZ (zO k a b)).1) := if_neg (fun h => h hs)
  rw [eY] at hy hz
  rw [if_yes, show (yesA (bigV (showZ (zO k a b)).1)).2 = bigV (showZ (zO k a b)).1 from rfl, op1_int hs] at hz
  by_cases h2 : in64 (zO k a b)
  · rw [if_pos h2, if_neg n0, if_yes] at hx
    have hx2 : x = yesA (bigV (showZ (zO k a b)).1) := hx
    rw [hx2, hy]
    exact ⟨fun _ => ⟨rfl, rfl⟩, fun h => absurd (show (0 : Int) = 81 from h) (by decide), fun h => absurd (show (0 : Int) = 80 from h) (by decide), .inl rfl⟩
  · rw [if_neg h2] at hx hz
    subst hx; subst hz
    exact ⟨fun h => absurd h (by decide), fun h => absurd h (by decide), fun _ => rfl, .inr (.inr rfl)⟩
/-! ### the same otherwise -/
def bo2 (f : Vv → Vv → Ans) (x y : Ans) : Ans := if x.1 ≠ 0 then noA x.1 else if y.1 ≠ 0 then noA y.1 else f x.2 y.2
def bo1 (s : List UInt8) (x : Ans) : Ans := if x.1 ≠ 0 then noA x.1 else op1 s x.2
theorem b2_ok {f : Vv → Vv → Ans} {x y : Ans} (h : (bo2 f x y).1 = 0) : x.1 = 0 ∧ y.1 = 0 ∧ bo2 f x y = f x.2 y.2 ∧ (f x.2 y.2).1 = 0 := by
  unfold bo2 at h ⊢
  by_cases hx : x.1 ≠ 0
  · rw [if_pos hx] at h; exact absurd h hx
  rw [if_neg hx] at h ⊢
  by_cases hy : y.1 ≠ 0
  · rw [if_pos hy] at h; exact absurd h hy
  rw [if_neg hy] at h ⊢
  exact ⟨by simpa using hx, by simpa using hy, rfl, h⟩
theorem b1_ok {s : List UInt8} {x : Ans} (h : (bo1 s x).1 = 0) : x.1 = 0 ∧ bo1 s x = op1 s x.2 ∧ (op1 s x.2).1 = 0 := by
  unfold bo1 at h ⊢
  by_cases hx : x.1 ≠ 0
  · rw [if_pos hx] at h; exact absurd h hx
  rw [if_neg hx] at h ⊢
  exact ⟨by simpa using hx, rfl, h⟩
/-- Of two ints that are known. -/
theorem n2_ok {k : Nat} (hk : k ≤ 4) {x y : Ans} {a b : Int} (hx : x.1 = 0 → x.2 = intV a ∧ in64 a) (hy : y.1 = 0 → y.2 = intV b ∧ in64 b) (h : (bo2 (numO k) x y).1 = 0) :
    x.1 = 0 ∧ y.1 = 0 ∧ (bo2 (numO k) x y).2 = intV (zO k a b) ∧ in64 (zO k a b) ∧ (3 ≤ k → b ≠ 0) := by
  obtain ⟨h1, h2, h3, h4⟩ := b2_ok h
  obtain ⟨e1, i1⟩ := hx h1
  obtain ⟨e2, i2⟩ := hy h2
  rw [e1, e2] at h4 h3
  obtain ⟨g1, g2, g3⟩ := numO_ok hk i1 h4
  exact ⟨h1, h2, by rw [h3, g1]; rfl, g2, g3⟩
def K (x : Ans) (a : Int) : Prop := x.1 = 0 → x.2 = intV a ∧ in64 a
theorem K.lit {a : Int} (ha : in64 a) : K (yesA (intV a)) a := fun _ => ⟨rfl, ha⟩
theorem K.num {k : Nat} (hk : k ≤ 4) {x y : Ans} {a b : Int} (hx : K x a) (hy : K y b) : K (bo2 (numO k) x y) (zO k a b) := fun h => ⟨(n2_ok hk hx hy h).2.2.1, (n2_ok hk hx hy h).2.2.2.1⟩
theorem K.neg {x : Ans} {a : Int} (hx : K x a) : K (bo1 sNeg x) (0 - a) := fun h => by
  obtain ⟨h1, h2, h3⟩ := b1_ok h
  obtain ⟨e1, i1⟩ := hx h1
  rw [e1] at h2 h3
  have e : op1 sNeg (intV a) = if in64 (0 - a) then yesA (intV (0 - a)) else noA 80 := rfl
  rw [e] at h2 h3
  by_cases hi : in64 (0 - a)
  · rw [if_pos hi] at h2
    rw [h2]
    exact ⟨rfl, hi⟩
  · rw [if_neg hi] at h3; exact absurd h3 (by decide)
theorem K.same {x y : Ans} {a b : Int} (hx : K x a) (hy : K y b) (e : a = b) (h1 : x.1 = 0) (h2 : y.1 = 0) : x.2 = y.2 := by rw [(hx h1).1, (hy h2).1, e]
theorem K.quo {x y : Ans} {a b : Int} (hx : K x a) (hy : K y b) (h : (bo2 (numO 3) x y).1 = 0) : b ≠ 0 := (n2_ok (by decide) hx hy h).2.2.2.2 (by decide)
/-! order -/
theorem may_int (a : Int) : mayV (intV a) = true := by
  unfold mayV; exact decide_eq_true rfl
theorem or2_zero (a : Int) : or2 a 0 = a := by
  unfold or2
  by_cases h : a ≠ 0
  · rw [if_pos h]
  · rw [if_neg h]; omega
theorem cmp_int (a b : Int) : cmpV2 (intV a) (intV b) = cI a b := by
  unfold cmpV2
  rw [may_int, may_int, if_pos ⟨rfl, rfl⟩]
  show or2 (cI a b) (or2 (cS [] []) (cmpL .nil .nil)) = _
  rw [show or2 (cS [] []) (cmpL .nil .nil) = 0 from rfl, or2_zero]
theorem lt_gt (a b : Int) : ordO 2 (intV a) (intV b) = ordO 4 (intV b) (intV a) := by
  unfold ordO
  rw [cmp_int, cmp_int]
  congr 2
  show decide (cI a b < 0) = decide (0 < cI b a)
  unfold cI
  by_cases h1 : a < b
  · rw [if_pos h1, if_neg (by omega), if_pos h1]; rfl
  · rw [if_neg h1]
    by_cases h2 : b < a
    · rw [if_pos h2, if_pos h2]; rfl
    · rw [if_neg h2, if_neg h2, if_neg h1]
theorem not_bool (b : Bool) : op1 sNot (boolV b) = yesA (boolV (!b)) := by cases b <;> rfl
theorem le_gt (a b : Int) : ordO 3 (intV a) (intV b) = bo1 sNot (ordO 4 (intV a) (intV b)) := by
  unfold ordO
  rw [cmp_int]
  show _ = op1 sNot (boolV (ordT 4 (cI a b)))
  rw [not_bool]
  congr 2
  show decide (cI a b ≤ 0) = !decide (0 < cI a b)
  rw [← decide_not]
  exact decide_eq_decide.2 (by omega)
theorem ne_eq2 (x y : Vv) : ordO 1 x y = bo1 sNot (ordO 0 x y) := by
  unfold ordO
  show _ = op1 sNot (boolV (ordT 0 (cmpV2 x y)))
  rw [not_bool]
  congr 2
  show decide (cmpV2 x y ≠ 0) = !decide (cmpV2 x y = 0)
  rw [← decide_not]
/-! the pairs -/
theorem ev_num {k : Nat} (hk : k ≤ 4) (x y : Ex) : evX (callX2 (opn k) x y) = bo2 (numO k) (evX x) (evX y) := evX_call2 opn_ne.1 opn_ne.2 (opn_op2 hk) x y
theorem ev_ord {s : List UInt8} {k : Nat} (h1 : s ≠ sAnd) (h2 : s ≠ sOr) (hf : op2 s = some (ordO k)) (x y : Ex) : evX (callX2 s x y) = bo2 (ordO k) (evX x) (evX y) := evX_call2 h1 h2 hf x y
theorem ev_cat (x y : Ex) : evX (callX2 [43, 43] x y) = bo2 catO (evX x) (evX y) := evX_call2 (by decide) (by decide) rfl x y
theorem ev_one {s : List UInt8} (h1 : s ≠ sAnd) (h2 : s ≠ sOr) (x : Ex) : evX (callX1 s x) = bo1 s (evX x) := evX_call1 h1 h2 x
section
variable {a b c : Int} (ha : in64 a) (hb : in64 b) (hc : in64 c)
include ha hb
theorem pair1 : ∃ z y, K (evX (callX2 [43] (litX (intV a)) (litX (intV b)))) z ∧ K (evX (callX2 [43] (litX (intV b)) (litX (intV a)))) y ∧ z = y :=
  ⟨a + b, b + a, by rw [show ([43] : List UInt8) = opn 0 from rfl, ev_num (by decide)]; exact K.num (by decide) (K.lit ha) (K.lit hb), by rw [show ([43] : List UInt8) = opn 0 from rfl, ev_num (by decide)]; exact K.num (by decide) (K.lit hb) (K.lit ha), Int.add_comm _ _⟩
theorem pair2 : ∃ z y, K (evX (callX2 [42] (litX (intV a)) (litX (intV b)))) z ∧ K (evX (callX2 [42] (litX (intV b)) (litX (intV a)))) y ∧ z = y :=
  ⟨a * b, b * a, by rw [show ([42] : List UInt8) = opn 2 from rfl, ev_num (by decide)]; exact K.num (by decide) (K.lit ha) (K.lit hb), by rw [show ([42] : List UInt8) = opn 2 from rfl, ev_num (by decide)]; exact K.num (by decide) (K.lit hb) (K.lit ha), Int.mul_comm _ _⟩
theorem pair4 : ∃ z y, K (evX (callX2 [45] (litX (intV a)) (litX (intV b)))) z ∧ K (evX (callX1 sNeg (callX2 [45] (litX (intV b)) (litX (intV a))))) y ∧ z = y :=
  ⟨a - b, 0 - (b - a), by rw [show ([45] : List UInt8) = opn 1 from rfl, ev_num (by decide)]; exact K.num (by decide) (K.lit ha) (K.lit hb), by rw [ev_one (by decide) (by decide), show ([45] : List UInt8) = opn 1 from rfl, ev_num (by decide)]; exact K.neg (K.num (by decide) (K.lit hb) (K.lit ha)), by omega⟩
include hc
theorem pair3 : ∃ z y, K (evX (callX2 [42] (litX (intV a)) (callX2 [43] (litX (intV b)) (litX (intV c))))) z ∧ K (evX (callX2 [43] (callX2 [42] (litX (intV a)) (litX (intV b))) (callX2 [42] (litX (intV a)) (litX (intV c))))) y ∧ z = y :=
  ⟨a * (b + c), a * b + a * c, by rw [show ([42] : List UInt8) = opn 2 from rfl, show ([43] : List UInt8) = opn 0 from rfl, ev_num (by decide), ev_num (by decide)]; exact K.num (by decide) (K.lit ha) (K.num (k := 0) (by decide) (K.lit hb) (K.lit hc)),
    by rw [show ([42] : List UInt8) = opn 2 from rfl, show ([43] : List UInt8) = opn 0 from rfl, ev_num (by decide), ev_num (by decide), ev_num (by decide)]; exact K.num (by decide) (K.num (k := 2) (by decide) (K.lit ha) (K.lit hb)) (K.num (k := 2) (by decide) (K.lit ha) (K.lit hc)), Int.mul_add _ _ _⟩
end
theorem pair5 {a b : Int} (ha : in64 a) (hb : in64 b) : K (evX (callX2 [43] (callX2 [42] (callX2 [47] (litX (intV a)) (litX (intV b))) (litX (intV b))) (callX2 [37] (litX (intV a)) (litX (intV b))))) a := by
  rw [show ([43] : List UInt8) = opn 0 from rfl, show ([42] : List UInt8) = opn 2 from rfl, show ([47] : List UInt8) = opn 3 from rfl, show ([37] : List UInt8) = opn 4 from rfl, ev_num (by decide), ev_num (by decide), ev_num (by decide), ev_num (by decide)]
  have h := K.num (k := 0) (by decide) (K.num (k := 2) (by decide) (K.num (k := 3) (by decide) (K.lit ha) (K.lit hb)) (K.lit hb)) (K.num (k := 4) (by decide) (K.lit ha) (K.lit hb))
  have e : zO 0 (zO 2 (zO 3 a b) b) (zO 4 a b) = a := by
    show a.tdiv b * b + a.tmod b = a
    rw [Int.mul_comm]; exact Int.mul_tdiv_add_tmod a b
  rw [e] at h
  exact h
theorem pair6 (p q : Bool) : evX (callX1 sNot (callX2 sAnd (litX (boolV p)) (litX (boolV q)))) = evX (callX2 sOr (callX1 sNot (litX (boolV p))) (callX1 sNot (litX (boolV q)))) := by cases p <;> cases q <;> rfl
theorem pair12 (p : Bool) (x y : Ex) : evX (ifX (litX (boolV p)) x y) = evX (ifX (callX1 sNot (litX (boolV p))) y x) := by
  have e1 : evX (ifX (litX (boolV p)) x y) = if p = true then evX x else evX y := by cases p <;> rfl
  have e2 : ∀ q : Ex, evX (ifX q y x) = if (truthO (evX q)).2 ≠ 0 then noA (truthO (evX q)).2 else if (truthO (evX q)).1 = true then evX y else evX x := fun q => rfl
  rw [e1, e2, ev_one (by decide) (by decide), evX_lit]
  cases p <;> rfl
theorem pair7 (a b : Int) : evX (callX2 [60] (litX (intV a)) (litX (intV b))) = evX (callX2 [62] (litX (intV b)) (litX (intV a))) := by
  rw [ev_ord (by decide) (by decide) (k := 2) rfl, ev_ord (by decide) (by decide) (k := 4) rfl, evX_lit, evX_lit]
  exact lt_gt a b
theorem pair8 (a b : Int) : evX (callX2 [60, 61] (litX (intV a)) (litX (intV b))) = evX (callX1 sNot (callX2 [62] (litX (intV a)) (litX (intV b)))) := by
  rw [ev_one (by decide) (by decide), ev_ord (by decide) (by decide) (k := 3) rfl, ev_ord (by decide) (by decide) (k := 4) rfl, evX_lit, evX_lit]
  exact le_gt a b
theorem pair9 (x y : Vv) : evX (callX2 [33, 61] (litX x) (litX y)) = evX (callX1 sNot (callX2 [61, 61] (litX x) (litX y))) := by
  rw [ev_one (by decide) (by decide), ev_ord (by decide) (by decide) (k := 1) rfl, ev_ord (by decide) (by decide) (k := 0) rfl, evX_lit, evX_lit]
  exact ne_eq2 x y
theorem cat_ok {s t : List UInt8} (h : (catO (textV s) (textV t)).1 = 0) : catO (textV s) (textV t) = yesA (textV (s ++ t)) ∧ s.length + t.length ≤ 4096 := by
  have e : catO (textV s) (textV t) = if 4096 < s.length + t.length then noA 80 else yesA (textV (s ++ t)) := rfl
  rw [e] at h ⊢
  by_cases hl : 4096 < s.length + t.length
  · rw [if_pos hl] at h; exact absurd h (by decide)
  · rw [if_neg hl]; exact ⟨rfl, by omega⟩
def KT (x : Ans) (s : List UInt8) : Prop := x.1 = 0 → x.2 = textV s
theorem KT.lit (s : List UInt8) : KT (yesA (textV s)) s := fun _ => rfl
theorem KT.cat {x y : Ans} {s t : List UInt8} (hx : KT x s) (hy : KT y t) : KT (bo2 catO x y) (s ++ t) := fun h => by
  obtain ⟨h1, h2, h3, h4⟩ := b2_ok h
  rw [hx h1, hy h2] at h3 h4
  rw [h3, (cat_ok h4).1]; rfl
theorem KT.len {x : Ans} {s : List UInt8} (hx : KT x s) (hl : s.length ≤ 1000000) : K (bo1 sLen x) s.length := fun h => by
  obtain ⟨h1, h2, h3⟩ := b1_ok h
  rw [hx h1] at h2 h3
  have e : op1 sLen (textV s) = yesA (intV s.length) := rfl
  rw [h2, e]
  exact ⟨rfl, by unfold in64; omega⟩
theorem pair10 {s t : List UInt8} (hs : s.length ≤ 100000) (ht : t.length ≤ 100000) : ∃ z y, K (evX (callX1 sLen (callX2 [43, 43] (litX (textV s)) (litX (textV t))))) z ∧ K (evX (callX2 [43] (callX1 sLen (litX (textV s))) (callX1 sLen (litX (textV t))))) y ∧ z = y :=
  ⟨((s ++ t).length : Nat), (s.length : Int) + (t.length : Int), by rw [ev_one (by decide) (by decide), ev_cat]; exact KT.len (KT.cat (KT.lit s) (KT.lit t)) (by rw [List.length_append]; omega),
    by rw [show ([43] : List UInt8) = opn 0 from rfl, ev_num (by decide), ev_one (by decide) (by decide), ev_one (by decide) (by decide)]; exact K.num (by decide) (KT.len (KT.lit s) (by omega)) (KT.len (KT.lit t) (by omega)), by rw [List.length_append]; omega⟩
theorem pair11 (s t : List UInt8) : KT (evX (callX2 [43, 43] (litX (textV s)) (callX2 [43, 43] (litX (textV t)) (litX (textV s))))) (s ++ (t ++ s)) ∧ KT (evX (callX2 [43, 43] (callX2 [43, 43] (litX (textV s)) (litX (textV t))) (litX (textV s)))) (s ++ (t ++ s)) := by
  refine ⟨?_, ?_⟩
  · rw [ev_cat, ev_cat]; exact KT.cat (KT.lit s) (KT.cat (KT.lit t) (KT.lit s))
  · rw [ev_cat, ev_cat, ← List.append_assoc]; exact KT.cat (KT.cat (KT.lit s) (KT.lit t)) (KT.lit s)
end Go.Proofs.YtigblodhdfnleaaGreatDoor
namespace Go.Proofs.YtigblodhdfnleaaGreatDoor
open Go Go.Wk Go.Un Go.De Go.Num
set_option linter.unusedSimpArgs false
set_option linter.unusedVariables false
attribute [local irreducible] Go.wpList Go.Code.wp Go.wpStill Go.Wk.wpPre Go.bodyPost Go.Calls Go.Wk.Ct Go.Wk.OwnS
attribute [local irreducible] Go.Wk.wpG Go.Wk.wpM

/-! ### the same -/
def sameH (h h2 : VH) : Bool := decide (h.k = h2.k) && (decide (h.n = h2.n) && decide (h.s = h2.s))
def sameL : Vf → Vf → Bool
  | .nil, .nil => true
  | .cons h L r, .cons h2 L2 r2 => (sameH h h2 && sameL L L2) && sameL r r2
  | _, _ => false
def sameV (x y : Vv) : Bool := sameH x.1 y.1 && sameL x.2 y.2
theorem sameH_iff {h h2 : VH} : sameH h h2 = true ↔ h = h2 := by
  unfold sameH
  simp only [Bool.and_eq_true, decide_eq_true_eq]
  obtain ⟨a, b, c⟩ := h
  obtain ⟨a2, b2, c2⟩ := h2
  simp
theorem sameL_iff : ∀ {l m : Vf}, sameL l m = true ↔ l = m
  | .nil, .nil => by simp [sameL]
  | .nil, .cons _ _ _ => by simp [sameL]
  | .cons _ _ _, .nil => by simp [sameL]
  | .cons h L r, .cons h2 L2 r2 => by
    unfold sameL
    rw [Bool.and_eq_true, Bool.and_eq_true, sameH_iff, sameL_iff (l := L), sameL_iff (l := r)]
    constructor
    · rintro ⟨⟨rfl, rfl⟩, rfl⟩; rfl
    · intro e; cases e; exact ⟨⟨rfl, rfl⟩, rfl⟩
theorem sameV_iff {x y : Vv} : sameV x y = true ↔ x = y := by
  unfold sameV
  rw [Bool.and_eq_true, sameH_iff, sameL_iff]
  exact ⟨fun h => Prod.ext h.1 h.2, fun h => by rw [h]; exact ⟨rfl, rfl⟩⟩
theorem sameL_len : ∀ {l m : Vf}, l.len ≠ m.len → sameL l m = false
  | .nil, .nil, h => absurd rfl h
  | .nil, .cons _ _ _, _ => rfl
  | .cons _ _ _, .nil, _ => rfl
  | .cons h L r, .cons h2 L2 r2, hn => by
    unfold sameL
    rw [sameL_len (l := r) (m := r2) (fun e => hn (by show r.len + 1 = r2.len + 1; rw [e])), Bool.and_false]
theorem sameL_drop {l m : Vf} {k : Nat} {x y : Vv} (hx : l.get? k = some x) (hy : m.get? k = some y) : sameL (l.drop k) (m.drop k) = (sameV x y && sameL (l.drop (k + 1)) (m.drop (k + 1))) := by
  rw [Rose.drop_get hx, Rose.drop_get hy]; rfl
def SmC (n : Nat) : Prop := ∀ (F : Heap) (x y : Vv) (cs cs2 : List Value), x.2.size < n → VaC F cs x.1 x.2 → VaC F cs2 y.1 y.2 → Ct Tryz.prog 10 [.agg ⟨cs⟩, .agg ⟨cs2⟩] F [] (fun _ _ u => u = .bool (sameV x y))
set_option maxHeartbeats 8000000 in
theorem sameRowCt {n : Nat} (hC : SmC n) (F : Heap) (l m : Vf) (v u : Value) (hn : l.size ≤ n) (hv : TrS F 4 VhR v l) (hu : TrS F 4 VhR u m) : Ct Tryz.prog 27 [v, u] F [] (fun _ _ u => u = .bool (sameL l m)) := by
  obtain ⟨ao, cap, rfl, hcap, hpos⟩ := hv
  obtain ⟨ao2, cap2, rfl, hcap2, hpos2⟩ := hu
  refine Ct.enter Tryz.func27 rfl Tryz.ntmps27 rfl fun w0 a S => ?_
  refine wp_sr fun Kq1 hKq1 => ?_
  (refine wpl_p S rfl rfl rfl ?_; clear S a; intro a S)
  (refine wpList_nil (hKq1 _ _ (wp_seq_k fun Kq2 hKq2 => ?_)); try clear hKq1 Kq1)
  refine wp_sr fun Kq3 hKq3 => ?_
  (refine wpl_p S rfl rfl rfl ?_; clear S a; intro a S)
  (refine wpl_n S rfl rfl rfl ?_; clear S a; intro a S)
  (refine wpl_p S rfl rfl rfl ?_; clear S a; intro a S)
  (refine wpl_n S rfl rfl rfl ?_; clear S a; intro a S)
  (refine wpl_p S rfl rfl rfl ?_; clear S a; intro a S)
  (refine wpList_nil (hKq3 _ _ ?_); try clear hKq3 Kq3)
  refine wpc_split S rfl (fun h => ?_) (fun h => ?_)
  · (skip; (try simp only [tq] at h))
    refine wp_sr fun Kq4 hKq4 => ?_
    (refine wpl_p S rfl rfl rfl ?_; clear S a; intro a S)
    (refine wpList_nil (hKq4 _ _ ?_); try clear hKq4 Kq4)
    refine wp_ret (fin_ret S (results1 Tryz.results27 (RV.tmp S rfl)) ?_)
    (congr 1; first | (rw [sameL_len (by omega)]; done) | (rw [← hfp, Rose.drop_len (by omega), Rose.drop_len (by omega)]; rfl) | (rw [← hfp, sameL_drop hx hy, (by assumption : sameV x y = false), Bool.false_and]; done) | trace_state)
  (skip; (try simp only [tq] at h))
  refine wp_skip ?_
  (refine hKq2 _ _ ?_; try (clear hKq2 Kq2))
  (refine wp_seq_k ?_; intro Kq4 hKq4)
  refine wp_sr fun Kq5 hKq5 => ?_
  (refine wpl_p S rfl rfl rfl ?_; clear S a; intro a S)
  (refine wpList_nil (hKq5 _ _ ?_); try clear hKq5 Kq5)
  refine wp_block ?_
  refine wpc_loop (fun q a w' => ∃ (k : Nat), q = l.len - k ∧ k ≤ l.len ∧ sameL (l.drop k) (m.drop k) = sameL l m ∧ St 27 [(0, .slice ao l.len cap), (1, .slice ao2 m.len cap2), (5, .int .i64 k)] w0 F [] F [] a w') ?_ ?_
  · (have hlm : l.len = m.len := (by omega); refine ⟨l.len, 0, by omega, Nat.zero_le _, rfl, ?_⟩; refine S.keep ?_; repeat (first | exact trivial | refine ⟨rfl, ?_⟩))
  (clear S; rintro q a w ⟨k, rfl, hkl, hfp, S⟩)
  (refine wp_seq_k ?_; intro Kq6 hKq6)
  refine wp_sr fun Kq7 hKq7 => ?_
  iterate 2 (refine wpl_p S rfl rfl rfl ?_; clear S a; intro a S)
  (refine wpl_n S rfl rfl rfl ?_; clear S a; intro a S)
  (refine wpl_p S rfl rfl rfl ?_; clear S a; intro a S)
  (refine wpList_nil (hKq7 _ _ ?_); try clear hKq7 Kq7)
  refine wpc_split S rfl (fun h => ?_) (fun h => ?_)
  · (skip; (try simp only [tq] at h))
    refine wp_skip ?_
    (refine hKq6 _ _ ?_; try (clear hKq6 Kq6))
    (refine wp_seq_k ?_; intro Kq8 hKq8)
    refine wp_block ?_
    (refine wp_seq_k ?_; intro Kq9 hKq9)
    (obtain ⟨b8, o8, hao, x, cs1, v1, hx, hc1, hw9, hT1⟩ := TrM.pos hpos (k := k) (by omega); rw [hao] at S; have hxs := Rose.size_get hx; have hT1c := hT1; obtain ⟨a91, c91, rfl, -⟩ := hT1c; have hw9c := hw9.1; subst hw9c; (simp only [List.cons_append, List.nil_append] at hc1); obtain ⟨b9, o9, hao2, y, cs2, v2, hy, hc2, hw8, hT2⟩ := TrM.pos hpos2 (k := k) (by omega); rw [hao2] at S; have hT2c := hT2; obtain ⟨a92, c92, rfl, -⟩ := hT2c; have hw8c := hw8.1; subst hw8c; (simp only [List.cons_append, List.nil_append] at hc2))
    (refine wpc_mixM [0, 1, 2, 3, 4, 5, 6, 7, 9] [3, 7] [] (.one 0 (.one 1 (.one 2 (.one 3 (.one 4 (.one 5 (.one 6 (.one 7 (.one 8 (.one 9 .nil)))))))))) [] S mixed (by kernel_rfl) ?_; clear S; intro w S)
    iterate 2 (refine wpm_p S rfl rfl rfl (want_none _ rfl) rfl rfl ?_; clear S a; intro a S)
    (refine wpm_i S rfl rfl rfl (want_none _ rfl) rfl rfl ?_; clear S a; intro a S)
    first | (refine wpm_lateF S rfl rfl rfl (want_none _ rfl) rfl rfl (fun w' S => sv_loadF S rfl rfl (by assumption)) ?_; clear S a; intro a S) | (refine wpm_lateF S rfl rfl rfl (want_none _ rfl) rfl rfl (fun w' S => sv_loadAF S rfl rfl (by assumption) (by rfl)) ?_; clear S a; intro a S)
    iterate 2 (refine wpm_p S rfl rfl rfl (want_none _ rfl) rfl rfl ?_; clear S a; intro a S)
    (refine wpm_i S rfl rfl rfl (want_none _ rfl) rfl rfl ?_; clear S a; intro a S)
    first | (refine wpm_lateF S rfl rfl rfl (want_none _ rfl) rfl rfl (fun w' S => sv_loadF S rfl rfl (by assumption)) ?_; clear S a; intro a S) | (refine wpm_lateF S rfl rfl rfl (want_none _ rfl) rfl rfl (fun w' S => sv_loadAF S rfl rfl (by assumption) (by rfl)) ?_; clear S a; intro a S)
    refine wpm_eff rfl rfl (kwa S) ?_
    (refine wpl_call0 S rfl rfl rfl rfl rfl rfl (hC F x y _ _ (by omega) ⟨_, rfl, hT1, hw9.2⟩ ⟨_, rfl, hT2, hw8.2⟩) rfl ?_; clear S a; intro v a w hv S; subst hv)
    refine wpList_nil ?_
    (refine wpm_p S rfl rfl rfl (want_none _ rfl) rfl rfl ?_; clear S a; intro a S)
    (refine wpm_nil (kwa S) (hKq9 _ _ ?_); try clear hKq9 Kq9)
    refine wpc_split S rfl (fun h => ?_) (fun h => ?_)
    · (skip; (try simp only [tq] at h))
      refine wp_sr fun Kq10 hKq10 => ?_
      (refine wpl_p S rfl rfl rfl ?_; clear S a; intro a S)
      (refine wpList_nil (hKq10 _ _ ?_); try clear hKq10 Kq10)
      refine wp_ret (fin_ret S (results1 Tryz.results27 (RV.tmp S rfl)) ?_)
      (congr 1; first | (rw [sameL_len (by omega)]; done) | (rw [← hfp, Rose.drop_len (by omega), Rose.drop_len (by omega)]; rfl) | (rw [← hfp, sameL_drop hx hy, (by assumption : sameV x y = false), Bool.false_and]; done) | trace_state)
    (skip; (try simp only [tq] at h))
    refine wp_skip ?_
    (refine hKq8 _ _ ?_; try (clear hKq8 Kq8))
    refine wp_region_lit ?_
    (refine wpl_p S rfl rfl rfl ?_; clear S a; intro a S)
    (refine wpl_a S rfl rfl rfl ?_; clear S a; intro a S)
    (refine wpl_p S rfl rfl rfl ?_; clear S a; intro a S)
    refine wpList_nil ?_
    change ∃ m', _ ∧ _
    (rw [← hao, ← hao2] at S; refine ⟨l.len - (k + 1), by omega, k + 1, rfl, by omega, ?_, ?_⟩; rotate_left 1; (refine S.keep ?_; repeat (first | exact trivial | refine ⟨rfl, ?_⟩)); rw [← hfp, sameL_drop hx hy, (by assumption : sameV x y = true), Bool.true_and])
  (skip; (try simp only [tq] at h))
  refine wp_exit ?_
  (refine hKq4 _ _ ?_; try (clear hKq4 Kq4))
  refine wp_sr fun Kq8 hKq8 => ?_
  (refine wpl_p S rfl rfl rfl ?_; clear S a; intro a S)
  (refine wpList_nil (hKq8 _ _ ?_); try clear hKq8 Kq8)
  refine wp_ret (fin_ret S (results1 Tryz.results27 (RV.tmp S rfl)) ?_)
  (congr 1; first | (rw [sameL_len (by omega)]; done) | (rw [← hfp, Rose.drop_len (by omega), Rose.drop_len (by omega)]; rfl) | (rw [← hfp, sameL_drop hx hy, (by assumption : sameV x y = false), Bool.false_and]; done) | trace_state)
set_option maxHeartbeats 8000000 in
theorem sameCt : ∀ n, SmC n := by
  intro n
  induction n with
  | zero => intro F x y cs cs2 hn; omega
  | succ n ih =>
  intro F x y cs cs2 hn hV hV2
  obtain ⟨⟨xk, xn, xs⟩, xl⟩ := x
  obtain ⟨⟨yk, yn, ys⟩, yl⟩ := y
  obtain ⟨v1, rfl, hT1, hs1⟩ := hV
  obtain ⟨v2, rfl, hT2, hs2⟩ := hV2
  dsimp only at *
  have hr := sameRowCt ih F xl yl v1 v2 (by omega) hT1 hT2
  obtain ⟨a1, c1, rfl, -⟩ := hT1
  obtain ⟨a2, c2, rfl, -⟩ := hT2
  refine Ct.enter Tryz.func10 rfl Tryz.ntmps10 rfl fun w0 a S => ?_
  refine wp_sr fun Kq1 hKq1 => ?_
  (refine wpl_box S rfl rfl rfl rfl rfl ?_; clear S a; intro b2 a w S)
  (refine wpl_box S rfl rfl rfl rfl rfl ?_; clear S a; intro b3 a w S)
  (refine wpl_p S rfl rfl rfl ?_; clear S a; intro a S)
  (refine wpList_nil (hKq1 _ _ (wp_sr fun Kq2 hKq2 => ?_)); try clear hKq1 Kq1)
  (refine wpl_f S rfl rfl rfl ?_; clear S a; intro a S)
  (refine wpl_l S rfl rfl rfl ?_; clear S a; intro a S)
  (refine wpl_f S rfl rfl rfl ?_; clear S a; intro a S)
  (refine wpl_l S rfl rfl rfl ?_; clear S a; intro a S)
  iterate 2 (refine wpl_p S rfl rfl rfl ?_; clear S a; intro a S)
  refine wpl_guard S rfl rfl rfl rfl rfl ?_ ?_
  · (intro h S'; clear S; have S := S'; clear S'; (try simp only [tq] at h))
    (refine wpl_f S rfl rfl rfl ?_; clear S a; intro a S)
    refine wpl_take S rfl rfl rfl ?_
    (refine wpl_l S rfl rfl rfl ?_; clear S a; intro a S)
    refine wpl_take S rfl rfl rfl ?_
    (refine wpl_f S rfl rfl rfl ?_; clear S a; intro a S)
    refine wpl_take S rfl rfl rfl ?_
    (refine wpl_l S rfl rfl rfl ?_; clear S a; intro a S)
    refine wpl_take S rfl rfl rfl ?_
    iterate 3 (refine wpl_p S rfl rfl rfl ?_; clear S a; intro a S)
    refine wpl_guard S rfl rfl rfl rfl rfl ?_ ?_
    · (intro h S'; clear S; have S := S'; clear S'; (try simp only [tq] at h))
      (refine wpl_f S rfl rfl rfl ?_; clear S a; intro a S)
      refine wpl_take S rfl rfl rfl ?_
      (refine wpl_l S rfl rfl rfl ?_; clear S a; intro a S)
      refine wpl_take S rfl rfl rfl ?_
      (refine wpl_f S rfl rfl rfl ?_; clear S a; intro a S)
      refine wpl_take S rfl rfl rfl ?_
      (refine wpl_l S rfl rfl rfl ?_; clear S a; intro a S)
      refine wpl_take S rfl rfl rfl ?_
      iterate 3 (refine wpl_p S rfl rfl rfl ?_; clear S a; intro a S)
      refine wpl_guard S rfl rfl rfl rfl rfl ?_ ?_
      · (intro h S'; clear S; have S := S'; clear S'; (try simp only [tq] at h))
        (refine wpl_f S rfl rfl rfl ?_; clear S a; intro a S)
        refine wpl_take S rfl rfl rfl ?_
        (refine wpl_l S rfl rfl rfl ?_; clear S a; intro a S)
        refine wpl_take S rfl rfl rfl ?_
        (refine wpl_f S rfl rfl rfl ?_; clear S a; intro a S)
        refine wpl_take S rfl rfl rfl ?_
        (refine wpl_l S rfl rfl rfl ?_; clear S a; intro a S)
        refine wpl_take S rfl rfl rfl ?_
        (refine wpl_call0 S rfl rfl rfl rfl rfl rfl (hr) rfl ?_; clear S a; intro v a w hv S; subst hv)
        iterate 2 (refine wpl_p S rfl rfl rfl ?_; clear S a; intro a S)
        (refine wpList_nil (hKq2 _ _ ?_); try clear hKq2 Kq2)
        refine wp_ret (fin_ret S (results1 Tryz.results10 (RV.tmp S rfl)) ?_)
        (congr 1; show _ = (decide (xk = yk) && (decide (xn = yn) && decide (xs = ys)) && sameL xl yl); first | (rw [decide_eq_true (show xk = yk by omega), decide_eq_true (show xn = yn by assumption), decide_eq_true (show xs = ys by assumption)]; rfl) | (rw [decide_eq_false (show ¬ xk = yk by omega)]; rfl) | (rw [decide_eq_false (show ¬ xn = yn by assumption), Bool.false_and, Bool.and_false, Bool.false_and]; done) | (rw [decide_eq_false (show ¬ xs = ys by assumption), Bool.and_false, Bool.and_false, Bool.false_and]; done) | trace_state)
      (intro h; clear S a; intro a S; (try simp only [tq] at h))
      iterate 4 (refine wpl_skip S rfl rfl rfl rfl rfl ?_; clear S a; intro a S)
      iterate 2 (refine wpl_p S rfl rfl rfl ?_; clear S a; intro a S)
      (refine wpList_nil (hKq2 _ _ ?_); try clear hKq2 Kq2)
      refine wp_ret (fin_ret S (results1 Tryz.results10 (RV.tmp S rfl)) ?_)
      (congr 1; show _ = (decide (xk = yk) && (decide (xn = yn) && decide (xs = ys)) && sameL xl yl); first | (rw [decide_eq_true (show xk = yk by omega), decide_eq_true (show xn = yn by assumption), decide_eq_true (show xs = ys by assumption)]; rfl) | (rw [decide_eq_false (show ¬ xk = yk by omega)]; rfl) | (rw [decide_eq_false (show ¬ xn = yn by assumption), Bool.false_and, Bool.and_false, Bool.false_and]; done) | (rw [decide_eq_false (show ¬ xs = ys by assumption), Bool.and_false, Bool.and_false, Bool.false_and]; done) | trace_state)
    (intro h; clear S a; intro a S; (try simp only [tq] at h))
    iterate 4 (refine wpl_skip S rfl rfl rfl rfl rfl ?_; clear S a; intro a S)
    iterate 2 (refine wpl_p S rfl rfl rfl ?_; clear S a; intro a S)
    iterate 5 (refine wpl_skip S rfl rfl rfl rfl rfl ?_; clear S a; intro a S)
    iterate 2 (refine wpl_p S rfl rfl rfl ?_; clear S a; intro a S)
    (refine wpList_nil (hKq2 _ _ ?_); try clear hKq2 Kq2)
    refine wp_ret (fin_ret S (results1 Tryz.results10 (RV.tmp S rfl)) ?_)
    (congr 1; show _ = (decide (xk = yk) && (decide (xn = yn) && decide (xs = ys)) && sameL xl yl); first | (rw [decide_eq_true (show xk = yk by omega), decide_eq_true (show xn = yn by assumption), decide_eq_true (show xs = ys by assumption)]; rfl) | (rw [decide_eq_false (show ¬ xk = yk by omega)]; rfl) | (rw [decide_eq_false (show ¬ xn = yn by assumption), Bool.false_and, Bool.and_false, Bool.false_and]; done) | (rw [decide_eq_false (show ¬ xs = ys by assumption), Bool.and_false, Bool.and_false, Bool.false_and]; done) | trace_state)
  (intro h; clear S a; intro a S; (try simp only [tq] at h))
  iterate 4 (refine wpl_skip S rfl rfl rfl rfl rfl ?_; clear S a; intro a S)
  iterate 2 (refine wpl_p S rfl rfl rfl ?_; clear S a; intro a S)
  iterate 5 (refine wpl_skip S rfl rfl rfl rfl rfl ?_; clear S a; intro a S)
  iterate 2 (refine wpl_p S rfl rfl rfl ?_; clear S a; intro a S)
  iterate 5 (refine wpl_skip S rfl rfl rfl rfl rfl ?_; clear S a; intro a S)
  iterate 2 (refine wpl_p S rfl rfl rfl ?_; clear S a; intro a S)
  (refine wpList_nil (hKq2 _ _ ?_); try clear hKq2 Kq2)
  refine wp_ret (fin_ret S (results1 Tryz.results10 (RV.tmp S rfl)) ?_)
  (congr 1; show _ = (decide (xk = yk) && (decide (xn = yn) && decide (xs = ys)) && sameL xl yl); first | (rw [decide_eq_true (show xk = yk by omega), decide_eq_true (show xn = yn by assumption), decide_eq_true (show xs = ys by assumption)]; rfl) | (rw [decide_eq_false (show ¬ xk = yk by omega)]; rfl) | (rw [decide_eq_false (show ¬ xn = yn by assumption), Bool.false_and, Bool.and_false, Bool.false_and]; done) | (rw [decide_eq_false (show ¬ xs = ys by assumption), Bool.and_false, Bool.and_false, Bool.false_and]; done) | trace_state)
/-! ### what is made -/
abbrev RvR := RoR 4 VhR
abbrev ReR := RoR 9 EhR
theorem ror_leaf (F : Heap) (k : Nat) (n : Int) (s : List UInt8) (hs : s.length ≤ 140737488355328) : RvR F (⟨k, n, s⟩, .nil) [.int .u8 (k : Int), .int .i64 n, .string (bs s), .slice none 0 0] := ⟨[_, _, _], _, rfl, rfl, ⟨rfl, hs⟩, TrS.nil _ _ _⟩
theorem ror_exc {F : Heap} {cs : List Value} {x : Ex} (h : ReR F x cs) : ExC F cs x.1 x.2 := by
  obtain ⟨c, v, rfl, -, h1, h2⟩ := h
  exact exc_of h1 h2
theorem lnumCt (F : Heap) (n : Int) : Ct Tryz.prog 9 [.int .i64 n] F [] (fun F' _ u => ∃ cs, u = .agg ⟨cs⟩ ∧ cs.length = 4 ∧ RvR F' (intV n) cs) := by
  refine Ct.enter Tryz.func9 rfl Tryz.ntmps9 rfl fun w0 a S => ?_
  refine wp_sr fun Kq1 hKq1 => ?_
  (refine wpl_alloc S rfl rfl rfl rfl ?_; clear S a; intro b2 a w S)
  (refine wpList_nil (hKq1 _ _ (wp_sr fun Kq2 hKq2 => ?_)); try clear hKq1 Kq1)
  (refine wpl_p S rfl rfl rfl ?_; clear S a; intro a S)
  (refine wpl_b S rfl rfl rfl ?_; clear S a; intro a S)
  (refine wpl_storeO S rfl rfl rfl rfl rfl (by rfl) (by simp [Value.cells, Value.oneCell', splice]) (by rfl) ?_; clear S; intro w S)
  (refine wpList_nil (hKq2 _ _ ?_); try clear hKq2 Kq2)
  refine wp_ret (fin_ret S (results1 Tryz.results9 (RV.cellO S rfl (by rfl))) ?_)
  (exact ⟨_, rfl, rfl, ror_leaf _ 2 n [] (by decide)⟩)
theorem lhugeCt (F : Heap) (s : List UInt8) (hs : s.length ≤ 140737488355328) : Ct Tryz.prog 18 [.string (bs s)] F [] (fun F' _ u => ∃ cs, u = .agg ⟨cs⟩ ∧ cs.length = 4 ∧ RvR F' (bigV s) cs) := by
  refine Ct.enter Tryz.func18 rfl Tryz.ntmps18 rfl fun w0 a S => ?_
  refine wp_sr fun Kq1 hKq1 => ?_
  (refine wpl_alloc S rfl rfl rfl rfl ?_; clear S a; intro b2 a w S)
  (refine wpList_nil (hKq1 _ _ (wp_sr fun Kq2 hKq2 => ?_)); try clear hKq1 Kq1)
  (refine wpl_p S rfl rfl rfl ?_; clear S a; intro a S)
  (refine wpl_b S rfl rfl rfl ?_; clear S a; intro a S)
  (refine wpl_storeO S rfl rfl rfl rfl rfl (by rfl) (by simp [Value.cells, Value.oneCell', splice]) (by rfl) ?_; clear S; intro w S)
  (refine wpList_nil (hKq2 _ _ ?_); try clear hKq2 Kq2)
  refine wp_ret (fin_ret S (results1 Tryz.results18 (RV.cellO S rfl (by rfl))) ?_)
  (exact ⟨_, rfl, rfl, ror_leaf _ 3 0 s hs⟩)
theorem ltextCt (F : Heap) (s : List UInt8) (hs : s.length ≤ 140737488355328) : Ct Tryz.prog 12 [.string (bs s)] F [] (fun F' _ u => ∃ cs, u = .agg ⟨cs⟩ ∧ cs.length = 4 ∧ RvR F' (textV s) cs) := by
  refine Ct.enter Tryz.func12 rfl Tryz.ntmps12 rfl fun w0 a S => ?_
  refine wp_sr fun Kq1 hKq1 => ?_
  (refine wpl_alloc S rfl rfl rfl rfl ?_; clear S a; intro b2 a w S)
  (refine wpList_nil (hKq1 _ _ (wp_sr fun Kq2 hKq2 => ?_)); try clear hKq1 Kq1)
  (refine wpl_p S rfl rfl rfl ?_; clear S a; intro a S)
  (refine wpl_b S rfl rfl rfl ?_; clear S a; intro a S)
  (refine wpl_storeO S rfl rfl rfl rfl rfl (by rfl) (by simp [Value.cells, Value.oneCell', splice]) (by rfl) ?_; clear S; intro w S)
  (refine wpList_nil (hKq2 _ _ ?_); try clear hKq2 Kq2)
  refine wp_ret (fin_ret S (results1 Tryz.results12 (RV.cellO S rfl (by rfl))) ?_)
  (exact ⟨_, rfl, rfl, ror_leaf _ 4 0 s hs⟩)
theorem ltruthCt (F : Heap) (b : Bool) : Ct Tryz.prog 11 [.bool b] F [] (fun F' _ u => ∃ cs, u = .agg ⟨cs⟩ ∧ cs.length = 4 ∧ RvR F' (boolV b) cs) := by
  refine Ct.enter Tryz.func11 rfl Tryz.ntmps11 rfl fun w0 a S => ?_
  refine wp_sr fun Kq1 hKq1 => ?_
  (refine wpl_alloc S rfl rfl rfl rfl ?_; clear S a; intro b2 a w S)
  (refine wpList_nil (hKq1 _ _ (wp_seq_k fun Kq2 hKq2 => ?_)); try clear hKq1 Kq1)
  refine wp_sr fun Kq3 hKq3 => ?_
  (refine wpl_p S rfl rfl rfl ?_; clear S a; intro a S)
  (refine wpList_nil (hKq3 _ _ ?_); try clear hKq3 Kq3)
  refine wpc_split S rfl (fun h => ?_) (fun h => ?_)
  · (skip; (try simp only [tq] at h))
    refine wp_sr fun Kq4 hKq4 => ?_
    (refine wpl_b S rfl rfl rfl ?_; clear S a; intro a S)
    (refine wpl_storeO S rfl rfl rfl rfl rfl (by rfl) (by simp [Value.cells, Value.oneCell', splice]) (by rfl) ?_; clear S; intro w S)
    (refine wpList_nil (hKq4 _ _ ?_); try clear hKq4 Kq4)
    refine wp_ret (fin_ret S (results1 Tryz.results11 (RV.cellO S rfl (by rfl))) ?_)
    (subst h; exact ⟨_, rfl, rfl, ror_leaf _ 1 _ [] (by decide)⟩)
  (skip; (try simp only [tq] at h))
  refine wp_skip ?_
  (refine hKq2 _ _ ?_; try (clear hKq2 Kq2))
  refine wp_sr fun Kq4 hKq4 => ?_
  (refine wpl_b S rfl rfl rfl ?_; clear S a; intro a S)
  (refine wpl_storeO S rfl rfl rfl rfl rfl (by rfl) (by simp [Value.cells, Value.oneCell', splice]) (by rfl) ?_; clear S; intro w S)
  (refine wpList_nil (hKq4 _ _ ?_); try clear hKq4 Kq4)
  refine wp_ret (fin_ret S (results1 Tryz.results11 (RV.cellO S rfl (by rfl))) ?_)
  (subst h; exact ⟨_, rfl, rfl, ror_leaf _ 1 _ [] (by decide)⟩)
theorem llitCt (F : Heap) (v : Vv) (cs : List Value) (h : RvR F v cs) : Ct Tryz.prog 8 [.agg ⟨cs⟩] F [] (fun F' _ u => ∃ cs, u = .agg ⟨cs⟩ ∧ cs.length = 9 ∧ ReR F' (litX v) cs) := by
  obtain ⟨c, w, rfl, -, ⟨rfl, hs⟩, hT⟩ := h
  have hTc := hT
  obtain ⟨a1, c1, rfl, -⟩ := hTc
  refine Ct.enter Tryz.func8 rfl Tryz.ntmps8 rfl fun w0 a S => ?_
  refine wp_sr fun Kq1 hKq1 => ?_
  (refine wpl_box S rfl rfl rfl rfl rfl ?_; clear S a; intro b1 a w S)
  (refine wpl_alloc S rfl rfl rfl rfl ?_; clear S a; intro b2 a w S)
  (refine wpList_nil (hKq1 _ _ (wp_sr fun Kq2 hKq2 => ?_)); try clear hKq1 Kq1)
  (refine wpl_l S rfl rfl rfl ?_; clear S a; intro a S)
  (refine wpl_b S rfl rfl rfl ?_; clear S a; intro a S)
  (refine wpl_storeO S rfl rfl rfl rfl rfl (by rfl) (by simp [Value.cells, Value.oneCell', splice]) (by rfl) ?_; clear S; intro w S)
  (refine wpList_nil (hKq2 _ _ ?_); try clear hKq2 Kq2)
  refine wp_ret (fin_ret S (results1 Tryz.results8 (RV.cellO S rfl (by rfl))) ?_)
  (exact ⟨_, rfl, rfl, [_, _, _, _, _, _, _, _], _, rfl, rfl, ⟨_, rfl, hT⟩, TrS.nil _ _ _⟩)
theorem lcallCt (F : Heap) (s : List UInt8) (L : Ef) (v : Value) (h : TrS F 9 EhR v L) : Ct Tryz.prog 7 [.string (bs s), v] F [] (fun F' _ u => ∃ cs, u = .agg ⟨cs⟩ ∧ cs.length = 9 ∧ ReR F' (callH s, L) cs) := by
  have hTc := h
  obtain ⟨a1, c1, rfl, -⟩ := hTc
  refine Ct.enter Tryz.func7 rfl Tryz.ntmps7 rfl fun w0 a S => ?_
  refine wp_sr fun Kq1 hKq1 => ?_
  (refine wpl_alloc S rfl rfl rfl rfl ?_; clear S a; intro b4 a w S)
  (refine wpList_nil (hKq1 _ _ (wp_sr fun Kq2 hKq2 => ?_)); try clear hKq1 Kq1)
  iterate 2 (refine wpl_p S rfl rfl rfl ?_; clear S a; intro a S)
  (refine wpl_b S rfl rfl rfl ?_; clear S a; intro a S)
  (refine wpl_storeO S rfl rfl rfl rfl rfl (by rfl) (by simp [Value.cells, Value.oneCell', splice]) (by rfl) ?_; clear S; intro w S)
  (refine wpList_nil (hKq2 _ _ ?_); try clear hKq2 Kq2)
  refine wp_ret (fin_ret S (results1 Tryz.results7 (RV.cellO S rfl (by rfl))) ?_)
  (exact ⟨_, rfl, rfl, [_, _, _, _, _, _, _, _], _, rfl, rfl, ⟨_, rfl, TrS.nil _ _ _⟩, h⟩)
/-! ### comes -/
theorem cons0Ct (F : Heap) (s : List UInt8) : Ct Tryz.prog 86 [.pointer none, .string (bs s)] F [] (fun F2 _ u => ConsR F2 u none) := by
  refine Ct.enter Tryz.func86 rfl Tryz.ntmps86 rfl fun w0 a S => ?_
  refine wp_sr fun Kq1 hKq1 => ?_
  (refine wpl_alloc S rfl rfl rfl rfl ?_; clear S a; intro b4 a w S)
  (refine wpl_p S rfl rfl rfl ?_; clear S a; intro a S)
  (refine wpList_nil (hKq1 _ _ (wp_seq_k fun Kq2 hKq2 => ?_)); try clear hKq1 Kq1)
  refine wp_sr fun Kq3 hKq3 => ?_
  (refine wpl_p S rfl rfl rfl ?_; clear S a; intro a S)
  (refine wpl_v S rfl rfl rfl (sv_lit (c := true) (sv_eqPtrNil S rfl rfl rfl) (by rfl)) ?_; clear S a; intro a S)
  (refine wpList_nil (hKq3 _ _ ?_); try clear hKq3 Kq3)
  refine wpc_true S rfl ?_
  refine wp_sr fun Kq4 hKq4 => ?_
  (refine wpl_b S rfl rfl rfl ?_; clear S a; intro a S)
  (refine wpl_storeO S rfl rfl rfl rfl rfl (by rfl) (by simp [Value.cells, Value.oneCell', splice]) (by rfl) ?_; clear S; intro w S)
  (refine wpl_p S rfl rfl rfl ?_; clear S a; intro a S)
  (refine wpList_nil (hKq4 _ _ ?_); try clear hKq4 Kq4)
  refine wp_ret (fin_ret S (results2 Tryz.results86 (RV.cellO S rfl (by rfl)) (RV.tmp S rfl)) ?_)
  (exact ⟨[], none, 0, 0, 0, none, 0, 0, rfl, fun y h => by cases h⟩)
/-- What Eval tells where there is no table, and no binding. -/
theorem eval0Ct (F : Heap) (hT : TabF F) (hE : ErrF F) (x : Ex) (cs : List Value) (hX : ReR F x cs) (hg : GE x.1 x.2) : Ct Tryz.prog 6 [.pointer none, .agg ⟨cs⟩, .slice none 0 0] F [] (fun F' _ u => AnsR F' u (evalO [] [] x.1 x.2)) :=
  evalCt F hT hE none [] (fun F' nm _ => cons0Ct F' nm) [] _ (LiM.nil _ _ _) (fun x hx => by cases hx) x.1 x.2 cs (ror_exc hX) hg
def comesB (x : Ex) (v : Vv) (e : Int) : Bool := decide ((evalO [] [] x.1 x.2).1 = e) && sameV (evalO [] [] x.1 x.2).2 v
set_option maxHeartbeats 8000000 in
theorem comesCt (F : Heap) (hT : TabF F) (hE : ErrF F) (x : Ex) (cs : List Value) (hX : ReR F x cs) (hg : GE x.1 x.2) (v : Vv) (cv : List Value) (hv : RvR F v cv) (e : Int) : Ct Tryz.prog 17 [.agg ⟨cs⟩, .agg ⟨cv⟩, .int .i64 e] F [] (fun _ _ u => u = .bool (comesB x v e)) := by
  have hev := eval0Ct F hT hE x cs hX hg
  obtain ⟨a1, n1, c1, ao, cap, rfl, -, -⟩ := exc_slc (ror_exc hX)
  obtain ⟨a2, c2, rfl, hT2, hs2⟩ := vac_slc (ror_vac hv)
  unfold comesB
  generalize evalO [] [] x.1 x.2 = A at hev ⊢
  refine Ct.enter Tryz.func17 rfl Tryz.ntmps17 rfl fun w0 a S => ?_
  refine wp_sr fun Kq1 hKq1 => ?_
  (refine wpl_box S rfl rfl rfl rfl rfl ?_; clear S a; intro b3 a w S)
  (refine wpl_box S rfl rfl rfl rfl rfl ?_; clear S a; intro b4 a w S)
  (refine wpl_p S rfl rfl rfl ?_; clear S a; intro a S)
  (refine wpList_nil (hKq1 _ _ (wp_sr fun Kq2 hKq2 => ?_)); try clear hKq1 Kq1)
  (refine wpl_l S rfl rfl rfl ?_; clear S a; intro a S)
  (refine wpl_callF S rfl rfl rfl rfl rfl rfl hev rfl ?_; clear S a; intro u9 F4 a w hv9 hF4 S; obtain ⟨cs4, rfl, hV4⟩ := hv9; obtain ⟨a4, c4, rfl, hT4, hs4⟩ := vac_slc hV4)
  iterate 3 (refine wpl_p S rfl rfl rfl ?_; clear S a; intro a S)
  (refine wpl_alloc S rfl rfl rfl rfl ?_; clear S a; intro b7 a w S)
  (refine wpl_storeO S rfl rfl rfl rfl rfl (by rfl) (by simp [Value.cells, Value.oneCell', splice]) (by rfl) ?_; clear S; intro w S)
  (refine wpl_p S rfl rfl rfl ?_; clear S a; intro a S)
  (refine wpList_nil (hKq2 _ _ (wp_sr fun Kq3 hKq3 => ?_)); try clear hKq2 Kq2)
  iterate 4 (refine wpl_p S rfl rfl rfl ?_; clear S a; intro a S)
  refine wpl_guard S rfl rfl rfl rfl rfl ?_ ?_
  · (intro h S'; clear S; have S := S'; clear S'; (try simp only [tq] at h))
    (refine wpl_l S rfl rfl rfl ?_; clear S a; intro a S)
    refine wpl_take S rfl rfl rfl ?_
    (refine wpl_l S rfl rfl rfl ?_; clear S a; intro a S)
    refine wpl_take S rfl rfl rfl ?_
    (refine wpl_call0 S rfl rfl rfl rfl rfl rfl (sameCt (A.2.2.size + 1) F4 A.2 v _ _ (Nat.lt_succ_self _) ⟨_, rfl, hT4, hs4⟩ ⟨_, rfl, hT2.mono hF4, hs2⟩) rfl ?_; clear S a; intro v a w hv S; subst hv)
    iterate 2 (refine wpl_p S rfl rfl rfl ?_; clear S a; intro a S)
    (refine wpList_nil (hKq3 _ _ ?_); try clear hKq3 Kq3)
    refine wp_ret (fin_ret S (results1 Tryz.results17 (RV.tmp S rfl)) ?_)
    (congr 1; first | (rw [decide_eq_true (by omega)]; rfl) | (rw [decide_eq_false (by omega)]; rfl) | trace_state)
  (intro h; clear S a; intro a S; (try simp only [tq] at h))
  iterate 2 (refine wpl_skip S rfl rfl rfl rfl rfl ?_; clear S a; intro a S)
  iterate 2 (refine wpl_p S rfl rfl rfl ?_; clear S a; intro a S)
  (refine wpList_nil (hKq3 _ _ ?_); try clear hKq3 Kq3)
  refine wp_ret (fin_ret S (results1 Tryz.results17 (RV.tmp S rfl)) ?_)
  (congr 1; first | (rw [decide_eq_true (by omega)]; rfl) | (rw [decide_eq_false (by omega)]; rfl) | trace_state)
end Go.Proofs.YtigblodhdfnleaaGreatDoor
