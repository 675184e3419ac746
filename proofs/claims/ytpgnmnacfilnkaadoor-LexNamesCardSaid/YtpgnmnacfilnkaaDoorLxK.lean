/- What is told of a shown token: the same; what a told token is; the text of told tokens is read as the same; places rise; what stands at a place. Nothing of a program. (Plain laws for LexBack and LexPlaces.) -/
import Derived.Test.YtpgnmnacfilnkaaDoorLxV
namespace Go.Proofs.YtpgnmnacfilnkaaDoor
open Go Go.Wk Go.Lx
set_option linter.unusedSimpArgs false
set_option linter.unusedVariables false

theorem hexI_hexd : ∀ n : Fin 16, hexI (hexd n.val) = (n.val : Int) := by decide +kernel
theorem markQ_esc (c : UInt8) (r : List UInt8) : markQ (esc c ++ r) = some (c, (esc c).length) := by
  have hc := c.toNat_lt
  unfold esc
  by_cases h1 : c.toNat = 34 ∨ c.toNat = 92
  · rw [if_pos h1]
    unfold markQ
    simp [h1]
  rw [if_neg h1]
  by_cases h2 : c.toNat = 10
  · rw [if_pos h2]
    have : c = 10 := UInt8.toNat_inj.1 h2
    subst this
    unfold markQ; simp
  rw [if_neg h2]
  by_cases h3 : c.toNat = 9
  · rw [if_pos h3]
    have : c = 9 := UInt8.toNat_inj.1 h3
    subst this
    unfold markQ; simp
  rw [if_neg h3]
  by_cases h4 : c.toNat < 32 ∨ c.toNat = 127
  · rw [if_pos h4]
    have e1 := hexI_hexd ⟨c.toNat / 16, by omega⟩
    have e2 := hexI_hexd ⟨c.toNat % 16, by omega⟩
    simp only at e1 e2
    have this : 16 * (c.toNat / 16) + c.toNat % 16 = c.toNat := Nat.div_add_mod ..
    have g2 : ([92, 120, hexd (c.toNat / 16), hexd (c.toNat % 16)] ++ r).getD 2 0 = hexd (c.toNat / 16) := rfl
    have g3 : ([92, 120, hexd (c.toNat / 16), hexd (c.toNat % 16)] ++ r).getD 3 0 = hexd (c.toNat % 16) := rfl
    have g0 : (([92, 120, hexd (c.toNat / 16), hexd (c.toNat % 16)] ++ r).getD 0 0).toNat = 92 := rfl
    have g1 : (([92, 120, hexd (c.toNat / 16), hexd (c.toNat % 16)] ++ r).getD 1 0).toNat = 120 := rfl
    unfold markQ
    rw [g2, g3, g0, g1, e1, e2, if_neg (by simp), if_neg (by simp), if_neg (by simp), if_neg (by simp), if_neg (by simp), if_neg (by simp), if_pos ⟨rfl, by simp, by omega, by omega⟩, Int.toNat_natCast, Int.toNat_natCast, this, UInt8.ofNat_toNat]
    rfl
  · rw [if_neg h4]
    unfold markQ
    rw [if_neg (by simp; omega), if_pos (by simp; omega)]
    rfl
theorem markQ_end (r : List UInt8) : markQ (34 :: r) = none := by unfold markQ; simp
theorem qmarks_quote (rest : List UInt8) : ∀ l : List UInt8, qmarks (l.flatMap esc ++ 34 :: rest) = (l, (l.flatMap esc).length)
  | [] => by rw [List.flatMap_nil, List.nil_append, qmarks_none (markQ_end rest)]; rfl
  | c :: l => by
    have e : (c :: l).flatMap esc ++ 34 :: rest = esc c ++ (l.flatMap esc ++ 34 :: rest) := by simp
    rw [e, qmarks_some (markQ_esc c _), List.drop_left, qmarks_quote rest l]
    simp
/-- What stands behind a shown token: nothing, or a blank. -/
def Stop (rest : List UInt8) : Prop := rest = [] ∨ ∃ t, rest = 32 :: t
theorem stop_getD {rest : List UInt8} (h : Stop rest) : rest.getD 0 0 = 0 ∨ rest.getD 0 0 = 32 := by
  rcases h with rfl | ⟨t, rfl⟩
  · exact .inl rfl
  · exact .inr rfl
theorem run_all {p : UInt8 → Bool} {w rest : List UInt8} (hw : ∀ c ∈ w, p c = true) (hr : p (rest.getD 0 0) = false) : run p (w ++ rest) = w.length := by
  induction w with
  | nil => exact run_zero hr
  | cons c w ih =>
    rw [List.cons_append]
    unfold run
    rw [if_pos (hw c (by simp)), ih (fun d hd => hw d (by simp [hd]))]
    rfl
theorem stop_no {rest : List UInt8} (h : Stop rest) : within (rest.getD 0 0) = false ∧ digit (rest.getD 0 0) = false ∧ low (rest.getD 0 0) = false := by
  rcases stop_getD h with h | h <;> rw [h] <;> decide
theorem run_take_all (p : UInt8 → Bool) (r : List UInt8) : ∀ c ∈ r.take (run p r), p c = true := by
  intro c hc
  obtain ⟨i, hi, rfl⟩ := List.getElem_of_mem hc
  rw [List.length_take] at hi
  have := run_ins (p := p) (r := r) (i := i) (by omega)
  rw [List.getElem_take]
  rwa [List.getD_eq_getElem?_getD, List.getElem?_eq_getElem (by omega)] at this

structure Part (p : List UInt8) : Prop where
  h1 : low (p.getD 0 0) = true
  h2 : ∀ c ∈ p, within c = true
  h3 : isWord p = false
  h4 : p.length ≤ 32
/-- What a told token is. -/
inductive Good : Int → List UInt8 → Prop
  | word {t} (h : isWord t = true) : Good 1 t
  | name {t} (h : Part t) : Good 2 t
  | name2 {p q} (h : Part p) (h2 : Part q) : Good 2 (p ++ 46 :: q)
  | var {t} (h1 : high (t.getD 0 0) = true) (h2 : ∀ c ∈ t, within c = true) (h3 : t.length ≤ 32) : Good 3 t
  | any : Good 4 [95]
  | int {t} (h0 : t ≠ []) (h1 : ∀ c ∈ t, digit c = true) (h2 : ¬ (1 < t.length ∧ (t.getD 0 0).toNat = 48)) (h3 : t.length ≤ 200) : Good 5 t
  | big {t} (h0 : t ≠ []) (h1 : ∀ c ∈ t, digit c = true) (h2 : ¬ (1 < t.length ∧ (t.getD 0 0).toNat = 48)) (h3 : t.length ≤ 200) : Good 6 t
  | text {t} (h : t.length ≤ 4096) : Good 7 t
  | two {t} (h : t ∈ twos) : Good 8 t
  | one {c} (h : c ∈ ones) : Good 8 [c]
  | field {t} (h : Part t) : Good 9 t
def shwK (k : Int) (t : List UInt8) : List UInt8 := if k = 6 then t ++ [98] else if k = 7 then quote t else if k = 9 then [46] ++ t else t
theorem word_part : ∀ t ∈ wordsL, low (t.getD 0 0) = true ∧ (∀ c ∈ t, within c = true) := by decide
theorem isWord_mem {t : List UInt8} : isWord t = true ↔ t ∈ wordsL := by unfold isWord; simp
theorem getD_app {p r : List UInt8} (h : low (p.getD 0 0) = true) : (p ++ r).getD 0 0 = p.getD 0 0 := by
  cases p with
  | nil => exact absurd h (by decide)
  | cons c t => rfl
theorem getD_app' {p r : List UInt8} (h : p ≠ []) : (p ++ r).getD 0 0 = p.getD 0 0 := by
  cases p with
  | nil => exact absurd rfl h
  | cons c t => rfl
theorem getD_at (p r : List UInt8) : (p ++ r).getD p.length 0 = r.getD 0 0 := by
  rw [List.getD_eq_getElem?_getD, List.getD_eq_getElem?_getD, List.getElem?_append_right (Nat.le_refl _), Nat.sub_self]
theorem next_part {p rest : List UInt8} (hp : Part p) (hs : Stop rest) : nextF (p ++ rest) = ⟨0, 2, p.length, p⟩ := by
  have hn := run_all hp.h2 (stop_no hs).1
  have h4 := hp.h4
  rw [nextF_low (by rw [getD_app hp.h1]; exact hp.h1)]
  unfold nameF
  simp only [hn, List.take_left]
  have h46 : ¬ ((p ++ rest).getD p.length 0).toNat = 46 := by
    rw [getD_at]
    rcases stop_getD hs with h | h <;> rw [h] <;> decide
  rw [if_neg (by rw [hp.h3]; decide), if_neg (fun h => h46 h.1), if_neg (by omega)]
theorem next_part2 {p q rest : List UInt8} (hp : Part p) (hq : Part q) (hs : Stop rest) : nextF (p ++ 46 :: q ++ rest) = ⟨0, 2, (p ++ 46 :: q).length, p ++ 46 :: q⟩ := by
  have e : p ++ 46 :: q ++ rest = p ++ (46 :: (q ++ rest)) := by simp
  have hn : run within (p ++ (46 :: (q ++ rest))) = p.length := run_all hp.h2 (by show within 46 = false; decide)
  have hn2 := run_all hq.h2 (stop_no hs).1
  have h4 := hp.h4
  have h42 := hq.h4
  have hd : (p ++ (46 :: (q ++ rest))).drop (p.length + 1) = q ++ rest := by rw [List.drop_append]; simp
  have ht : (p ++ (46 :: (q ++ rest))).take (p.length + 1 + q.length) = p ++ 46 :: q := by
    rw [List.take_append]
    rw [show p.length + 1 + q.length - p.length = q.length + 1 by omega, List.take_of_length_le (by omega), List.take_succ_cons, List.take_left]
  rw [e, nextF_low (by rw [getD_app hp.h1]; exact hp.h1)]
  unfold nameF
  simp only [hn, hd, hn2, List.take_left, ht]
  rw [if_neg (by rw [hp.h3]; decide), if_pos ⟨by rw [getD_at]; rfl, by rw [getD_app hq.h1]; exact hq.h1, hq.h3⟩, if_neg (by omega)]
  simp only [List.length_append, List.length_cons]
  congr 1
  omega
theorem next_word {t rest : List UInt8} (ht : isWord t = true) (hs : Stop rest) : nextF (t ++ rest) = ⟨0, 1, t.length, t⟩ := by
  have hw := word_part t (isWord_mem.1 ht)
  have hn := run_all hw.2 (stop_no hs).1
  rw [nextF_low (by rw [getD_app hw.1]; exact hw.1)]
  unfold nameF
  simp only [hn, List.take_left]
  rw [if_pos ht]
theorem next_var {t rest : List UInt8} (h1 : high (t.getD 0 0) = true) (h2 : ∀ c ∈ t, within c = true) (h3 : t.length ≤ 32) (hs : Stop rest) : nextF (t ++ rest) = ⟨0, 3, t.length, t⟩ := by
  have h0 : t ≠ [] := fun h => by rw [h] at h1; exact absurd h1 (by decide)
  have hg := getD_app' (r := rest) h0
  have hn := run_all h2 (stop_no hs).1
  have hh := (high_iff _).1 h1
  rw [nextF_high (by rw [hg]; exact bfalse (by rw [low_iff]; omega)) (by rw [hg]; exact bfalse (by rw [digit_iff]; omega)) (by rw [hg]; omega) (by rw [hg]; exact h1), hn, if_neg (by omega), List.take_left]
theorem next_any {rest : List UInt8} (hs : Stop rest) : nextF ([95] ++ rest) = ⟨0, 4, 1, [95]⟩ := by
  have hn : run within ([95] ++ rest) = 1 := run_all (w := [95]) (by decide) (stop_no hs).1
  rw [nextF_any rfl rfl (by show ¬ (95 : UInt8).toNat = 34; decide) rfl rfl, hn, if_neg (by omega)]
theorem next_int {t rest : List UInt8} (h0 : t ≠ []) (h1 : ∀ c ∈ t, digit c = true) (h2 : ¬ (1 < t.length ∧ (t.getD 0 0).toNat = 48)) (h3 : t.length ≤ 200) (hs : Stop rest) : nextF (t ++ rest) = ⟨0, 5, t.length, t⟩ := by
  have hg := getD_app' (r := rest) h0
  have hd0 : digit (t.getD 0 0) = true := by
    obtain ⟨c, u, rfl⟩ := List.exists_cons_of_ne_nil h0
    exact h1 c (by simp)
  have hdd := (digit_iff _).1 hd0
  have hn := run_all (rest := rest) h1 (stop_no hs).2.1
  have hm := run_all (rest := rest) (fun c hc => digit_within c (h1 c hc)) (stop_no hs).1
  rw [nextF_dig (by rw [hg]; exact bfalse (by rw [low_iff]; omega)) (by rw [hg]; exact hd0)]
  unfold numberF
  simp only [hn, hm, hg, List.take_left]
  rw [if_neg (by omega), if_neg (by omega), if_neg (by omega)]
theorem next_big {t rest : List UInt8} (h0 : t ≠ []) (h1 : ∀ c ∈ t, digit c = true) (h2 : ¬ (1 < t.length ∧ (t.getD 0 0).toNat = 48)) (h3 : t.length ≤ 200) (hs : Stop rest) : nextF (t ++ [98] ++ rest) = ⟨0, 6, (t ++ [98]).length, t⟩ := by
  have e : t ++ [98] ++ rest = t ++ (98 :: rest) := by simp
  have hg := getD_app' (r := 98 :: rest) h0
  have hd0 : digit (t.getD 0 0) = true := by
    obtain ⟨c, u, rfl⟩ := List.exists_cons_of_ne_nil h0
    exact h1 c (by simp)
  have hdd := (digit_iff _).1 hd0
  have hn : run digit (t ++ (98 :: rest)) = t.length := run_all h1 (by rfl)
  have hm : run within (t ++ (98 :: rest)) = t.length + 1 := by
    rw [← e, run_all (w := t ++ [98]) (fun c hc => by
      rcases List.mem_append.1 hc with hc | hc
      · exact digit_within c (h1 c hc)
      · simp at hc; subst hc; decide) (stop_no hs).1]
    simp
  have ht : ((t ++ (98 :: rest)).take (t.length + 1)).drop t.length = [98] := by
    rw [List.take_append, List.take_of_length_le (by omega), show t.length + 1 - t.length = 1 by omega, List.drop_left]; rfl
  rw [e, nextF_dig (by rw [hg]; exact bfalse (by rw [low_iff]; omega)) (by rw [hg]; exact hd0)]
  unfold numberF
  simp only [hn, hm, hg, List.take_left, ht]
  rw [if_neg (fun h => h.elim h2 (fun h => h.2 rfl)), if_neg (by omega), if_pos (by omega)]
  simp

theorem next_text {t rest : List UInt8} (h : t.length ≤ 4096) : nextF (quote t ++ rest) = ⟨0, 7, (quote t).length, t⟩ := by
  have e : quote t ++ rest = 34 :: (t.flatMap esc ++ 34 :: rest) := by simp [quote]
  have hq := qmarks_quote rest t
  rw [e, nextF_quo rfl rfl rfl]
  unfold quotedF
  simp only [List.drop_succ_cons, List.drop_zero, hq]
  rw [if_pos (by rw [getD_at]; rfl), if_neg (by omega)]
  simp [quote]
theorem next_field {t rest : List UInt8} (ht : Part t) (hs : Stop rest) : nextF ([46] ++ t ++ rest) = ⟨0, 9, t.length + 1, t⟩ := by
  have e : [46] ++ t ++ rest = 46 :: (t ++ rest) := by simp
  have hn := run_all ht.h2 (stop_no hs).1
  have h4 := ht.h4
  have hg : low ((46 :: (t ++ rest)).getD 1 0) = true := by
    show low ((t ++ rest).getD 0 0) = true
    rw [getD_app ht.h1]; exact ht.h1
  have h2 : twos.contains ((46 :: (t ++ rest)).take 2) = false := bfalse fun h => by have h9 := twos_first (c := 46) h rfl; revert h9; decide
  rw [e, nextF_field rfl rfl (by show ¬ (46 : UInt8).toNat = 34; decide) rfl (by show ¬ (46 : UInt8).toNat = 95; decide) h2 rfl hg (by rw [List.drop_succ_cons, List.drop_zero, hn, List.take_left]; exact ht.h3)]
  rw [List.drop_succ_cons, List.drop_zero, hn, List.take_left, if_neg (by omega)]
theorem two_facts : ∀ t ∈ twos, t.length = 2 ∧ low (t.getD 0 0) = false ∧ digit (t.getD 0 0) = false ∧ ¬ (t.getD 0 0).toNat = 34 ∧ high (t.getD 0 0) = false ∧ ¬ (t.getD 0 0).toNat = 95 := by decide
theorem next_two {t rest : List UInt8} (ht : t ∈ twos) : nextF (t ++ rest) = ⟨0, 8, t.length, t⟩ := by
  obtain ⟨hl, f1, f2, f3, f4, f5⟩ := two_facts t ht
  have h0 : t ≠ [] := fun h => by rw [h] at hl; simp at hl
  have hg := getD_app' (r := rest) h0
  have hk : (t ++ rest).take 2 = t := by rw [← hl, List.take_left]
  rw [nextF_two (by rw [hg]; exact f1) (by rw [hg]; exact f2) (by rw [hg]; exact f3) (by rw [hg]; exact f4) (by rw [hg]; exact f5) (by rw [hk]; simpa using ht), hk, hl]
theorem one_facts : ∀ c ∈ ones, twos.contains [c] = false ∧ twos.contains [c, 32] = false := by decide
theorem next_one {c : UInt8} {rest : List UInt8} (hc : c ∈ ones) (hs : Stop rest) : nextF ([c] ++ rest) = ⟨0, 8, 1, [c]⟩ := by
  have hc2 : ones.contains c = true := by simpa using hc
  obtain ⟨f1, f2, f3, f4, f5⟩ := ones_has hc2
  obtain ⟨g1, g2⟩ := one_facts c hc
  have h2 : twos.contains (([c] ++ rest).take 2) = false := by
    rcases hs with rfl | ⟨t, rfl⟩
    · exact g1
    · exact g2
  rw [nextF_rest (r := [c] ++ rest) f1 f2 f5 f3 f4 h2 (fun h => by
    have h7 : low (rest.getD 0 0) = true := h.2.1
    rw [(stop_no hs).2.2] at h7; cases h7)]
  show (if ones.contains c = true then _ else _) = _
  rw [if_pos hc2]
  rfl
/-- A shown token is told again. -/
theorem good_next {k : Int} {t rest : List UInt8} (h : Good k t) (hs : Stop rest) : nextF (shwK k t ++ rest) = ⟨0, k, (shwK k t).length, t⟩ := by
  cases h with
  | word h => exact next_word h hs
  | name h => exact next_part h hs
  | name2 h h2 => exact next_part2 h h2 hs
  | var h1 h2 h3 => exact next_var h1 h2 h3 hs
  | any => exact next_any hs
  | int h0 h1 h2 h3 => exact next_int h0 h1 h2 h3 hs
  | big h0 h1 h2 h3 => exact next_big h0 h1 h2 h3 hs
  | text h => exact next_text h
  | two h => exact next_two h
  | one h => exact next_one h hs
  | field h =>
    have := next_field h hs
    simpa [shwK] using this
theorem part_of {r : List UInt8} (h1 : low (r.getD 0 0) = true) (h3 : isWord (r.take (run within r)) = false) (h4 : ¬ 32 < run within r) : Part (r.take (run within r)) := by
  have hr := ne_of_low h1
  have hp := run_pos hr (low_within h1)
  have hl := run_le within r
  refine ⟨?_, run_take_all within r, h3, by rw [List.length_take]; omega⟩
  obtain ⟨c, t, rfl⟩ := List.exists_cons_of_ne_nil hr
  obtain ⟨m, hm⟩ : ∃ m, run within (c :: t) = m + 1 := ⟨run within (c :: t) - 1, by omega⟩
  rw [hm]
  exact h1
theorem bad_e (e : Int) : (bad e).e = e := rfl
theorem dot_take {r : List UInt8} {n k : Nat} (h : (r.getD n 0).toNat = 46) (hn : n < r.length) : r.take (n + 1 + k) = r.take n ++ 46 :: (r.drop (n + 1)).take k := by
  have hc : r.getD n 0 = 46 := UInt8.toNat_inj.1 h
  rw [List.getD_eq_getElem?_getD, List.getElem?_eq_getElem hn] at hc
  have hc2 : r[n] = 46 := hc
  rw [List.take_add, List.take_succ_eq_append_getElem hn, hc2]
  simp
theorem getD_lt {r : List UInt8} {i : Nat} (h : (r.getD i 0).toNat ≠ 0) : i < r.length := by
  rcases Nat.lt_or_ge i r.length with h1 | h1
  · exact h1
  · rw [List.getD_eq_getElem?_getD, List.getElem?_eq_none h1] at h
    exact absurd rfl h
theorem take_getD {r : List UInt8} {n : Nat} (h : 0 < n) : (r.take n).getD 0 0 = r.getD 0 0 := by
  cases r with
  | nil => simp
  | cons c t =>
    obtain ⟨m, rfl⟩ : ∃ m, n = m + 1 := ⟨n - 1, by omega⟩
    rfl
theorem good_of {r : List UInt8} (hr : r ≠ []) (he : (nextF r).e = 0) : Good (nextF r).kind (nextF r).text := by
  have hl := run_le within r
  by_cases h1 : low (r.getD 0 0) = true
  · rw [nextF_low h1] at he ⊢
    revert he
    unfold nameF
    simp only []
    by_cases h2 : isWord (r.take (run within r)) = true
    · rw [if_pos h2]; intro _; exact .word h2
    rw [if_neg h2]
    by_cases h3 : (r.getD (run within r) 0).toNat = 46 ∧ low ((r.drop (run within r + 1)).getD 0 0) = true ∧ isWord ((r.drop (run within r + 1)).take (run within (r.drop (run within r + 1)))) = false
    · rw [if_pos h3]
      by_cases h4 : 32 < run within r ∨ 32 < run within (r.drop (run within r + 1))
      · rw [if_pos h4]; intro he; exact absurd he (by decide)
      rw [if_neg h4]; intro _
      show Good 2 _
      rw [dot_take h3.1 (getD_lt (by omega))]
      exact .name2 (part_of h1 (bfalse h2) (by omega)) (part_of h3.2.1 h3.2.2 (by omega))
    rw [if_neg h3]
    by_cases h4 : 32 < run within r
    · rw [if_pos h4]; intro he; exact absurd he (by decide)
    rw [if_neg h4]; intro _
    exact .name (part_of h1 (bfalse h2) h4)
  replace h1 := bfalse h1
  by_cases h2 : digit (r.getD 0 0) = true
  · rw [nextF_dig h1 h2] at he ⊢
    have hp := run_pos hr h2
    have hdl := run_le digit r
    have hm := run_mono digit_within r
    have h0 : r.take (run digit r) ≠ [] := fun h => by
      have h9 : (r.take (run digit r)).length = 0 := by rw [h]; rfl
      rw [List.length_take] at h9; omega
    have hlt : (r.take (run digit r)).length = run digit r := by rw [List.length_take]; omega
    revert he
    unfold numberF
    simp only []
    by_cases h3 : (1 < run digit r ∧ (r.getD 0 0).toNat = 48) ∨ (run digit r < run within r ∧ (r.take (run within r)).drop (run digit r) ≠ [98])
    · rw [if_pos h3]; intro he; exact absurd he (by decide)
    rw [if_neg h3]
    by_cases h4 : 200 < run digit r
    · rw [if_pos h4]; intro he; exact absurd he (by decide)
    rw [if_neg h4]
    have h5 : ¬ (1 < (r.take (run digit r)).length ∧ ((r.take (run digit r)).getD 0 0).toNat = 48) := by
      rw [hlt, take_getD (by omega)]
      exact fun h => h3 (.inl h)
    by_cases h6 : run digit r < run within r
    · rw [if_pos h6]; intro _
      exact .big h0 (run_take_all digit r) h5 (by show (r.take (run digit r)).length ≤ 200; omega)
    · rw [if_neg h6]; intro _
      exact .int h0 (run_take_all digit r) h5 (by show (r.take (run digit r)).length ≤ 200; omega)
  replace h2 := bfalse h2
  by_cases h3 : (r.getD 0 0).toNat = 34
  · rw [nextF_quo h1 h2 h3] at he ⊢
    revert he
    unfold quotedF
    simp only []
    by_cases h4 : ((r.drop 1).getD (qmarks (r.drop 1)).2 0).toNat = 34
    · rw [if_pos h4]
      by_cases h5 : 4096 < (qmarks (r.drop 1)).1.length
      · rw [if_pos h5]; intro he; exact absurd he (by decide)
      rw [if_neg h5]; intro _
      exact .text (by show (qmarks (r.drop 1)).1.length ≤ 4096; omega)
    · rw [if_neg h4]; intro he; exact absurd he (by decide)
  by_cases h4 : high (r.getD 0 0) = true
  · rw [nextF_high h1 h2 h3 h4] at he ⊢
    revert he
    by_cases h5 : 32 < run within r
    · rw [if_pos h5]; intro he; exact absurd he (by decide)
    rw [if_neg h5]; intro _
    have hp := run_pos hr (high_within h4)
    exact .var (by rw [take_getD (by omega)]; exact h4) (run_take_all within r) (by rw [List.length_take]; omega)
  replace h4 := bfalse h4
  by_cases h5 : (r.getD 0 0).toNat = 95
  · rw [nextF_any h1 h2 h3 h4 h5] at he ⊢
    revert he
    by_cases h6 : 1 < run within r
    · rw [if_pos h6]; intro he; exact absurd he (by decide)
    rw [if_neg h6]; intro _
    exact .any
  by_cases h6 : twos.contains (r.take 2) = true
  · rw [nextF_two h1 h2 h3 h4 h5 h6]
    exact .two (by simpa using h6)
  replace h6 := bfalse h6
  by_cases h7 : (r.getD 0 0).toNat = 46 ∧ low (r.getD 1 0) = true ∧ isWord ((r.drop 1).take (run within (r.drop 1))) = false
  · rw [nextF_field h1 h2 h3 h4 h5 h6 h7.1 h7.2.1 h7.2.2] at he ⊢
    revert he
    by_cases h8 : 32 < run within (r.drop 1)
    · rw [if_pos h8]; intro he; exact absurd he (by decide)
    rw [if_neg h8]; intro _
    exact .field (part_of (by rw [show (r.drop 1).getD 0 0 = r.getD 1 0 by simp only [List.getD_eq_getElem?_getD, List.getElem?_drop]]; exact h7.2.1) h7.2.2 h8)
  rw [nextF_rest h1 h2 h3 h4 h5 h6 h7] at he ⊢
  revert he
  by_cases h8 : ones.contains (r.getD 0 0) = true
  · rw [if_pos h8]; intro _
    exact .one (by simpa using h8)
  · rw [if_neg h8]; intro he; exact absurd he (by decide)

def J : List Tok → List UInt8
  | [] => []
  | [t] => shwK t.kind t.text
  | t :: u :: l => shwK t.kind t.text ++ 32 :: J (u :: l)
theorem J_cons (t : Tok) (l : List Tok) : J (t :: l) = shwK t.kind t.text ++ (if l = [] then [] else 32 :: J l) := by
  cases l with
  | nil => simp [J]
  | cons u l => simp [J]
def Plain (c : UInt8) : Prop := blankB c = false ∧ c.toNat ≠ 35
theorem plain_low {c : UInt8} (h : low c = true) : Plain c := by
  have := (low_iff c).1 h
  exact ⟨by simp [blankB]; omega, by omega⟩
theorem plain_high {c : UInt8} (h : high c = true) : Plain c := by
  have := (high_iff c).1 h
  exact ⟨by simp [blankB]; omega, by omega⟩
theorem plain_digit {c : UInt8} (h : digit c = true) : Plain c := by
  have := (digit_iff c).1 h
  exact ⟨by simp [blankB]; omega, by omega⟩
theorem two_plain : ∀ t ∈ twos, t ≠ [] ∧ blankB (t.getD 0 0) = false ∧ (t.getD 0 0).toNat ≠ 35 := by decide
theorem one_plain : ∀ c ∈ ones, blankB c = false ∧ c.toNat ≠ 35 := by decide
theorem good_first {k : Int} {t : List UInt8} (h : Good k t) : shwK k t ≠ [] ∧ Plain ((shwK k t).getD 0 0) := by
  cases h with
  | word h => exact ⟨ne_of_low (word_part t (isWord_mem.1 h)).1, plain_low (word_part t (isWord_mem.1 h)).1⟩
  | name h => exact ⟨ne_of_low h.h1, plain_low h.h1⟩
  | @name2 p q h h2 =>
    have e := getD_app (r := 46 :: q) h.h1
    exact ⟨fun h9 => by have := congrArg List.length h9; simp [shwK] at this, by show Plain ((p ++ 46 :: q).getD 0 0); rw [e]; exact plain_low h.h1⟩
  | var h1 h2 h3 => exact ⟨fun h => by have h' : t = [] := h; rw [h'] at h1; exact absurd h1 (by decide), plain_high h1⟩
  | any => exact ⟨by decide, by show Plain 95; exact ⟨by decide, by decide⟩⟩
  | int h0 h1 h2 h3 =>
    obtain ⟨c, u, rfl⟩ := List.exists_cons_of_ne_nil h0
    exact ⟨h0, plain_digit (h1 c (by simp))⟩
  | big h0 h1 h2 h3 =>
    obtain ⟨c, u, rfl⟩ := List.exists_cons_of_ne_nil h0
    exact ⟨by simp [shwK], plain_digit (h1 c (by simp))⟩
  | text h => exact ⟨by simp [shwK, quote], by show Plain 34; exact ⟨by decide, by decide⟩⟩
  | two h => exact ⟨(two_plain t h).1, (two_plain t h).2⟩
  | @one c h => exact ⟨by simp [shwK], one_plain c h⟩
  | field h => exact ⟨by simp [shwK], by show Plain 46; exact ⟨by decide, by decide⟩⟩
theorem skip_pre {pre w : List UInt8} (hp : pre = [] ∨ pre = [32]) (hw : w ≠ []) (hf : Plain (w.getD 0 0)) : skipB (pre ++ w) = pre.length := by
  obtain ⟨c, u, rfl⟩ := List.exists_cons_of_ne_nil hw
  have h0 : skipB (c :: u) = 0 := skipB_stop hf.1 hf.2
  rcases hp with rfl | rfl
  · exact h0
  · show skipB (32 :: c :: u) = 1
    rw [skipB_blank (by decide), h0]
theorem shown_toks : ∀ (l : List Tok), (∀ t ∈ l, Good t.kind t.text) → ∀ (n : Nat) (p : Int × Int) (pre : List UInt8), (pre = [] ∨ pre = [32]) → (pre ++ J l).length < n →
    ∃ m, toks n p (pre ++ J l) = (m, (0, 0), 0) ∧ sameT false l m = true
  | [], _, n, p, pre, hp, hn => by
    refine ⟨[], toks_end ?_, rfl⟩
    rcases hp with rfl | rfl <;> rfl
  | t :: l, hg, n, p, pre, hp, hn => by
    have hgt := hg t (by simp)
    obtain ⟨hne, hpl⟩ := good_first hgt
    rw [J_cons] at hn ⊢
    generalize hrest : (if l = [] then [] else 32 :: J l) = rest at hn ⊢
    have hs : Stop rest := by
      rw [← hrest]
      by_cases h : l = []
      · rw [if_pos h]; exact .inl rfl
      · rw [if_neg h]; exact .inr ⟨_, rfl⟩
    have hnx := good_next hgt hs
    have hw : shwK t.kind t.text ++ rest ≠ [] := fun h => hne (List.append_eq_nil_iff.1 h).1
    have hsk := skip_pre (pre := pre) hp hw (by rw [getD_app' hne]; exact hpl)
    have hd : (pre ++ (shwK t.kind t.text ++ rest)).drop (skipB (pre ++ (shwK t.kind t.text ++ rest))) = shwK t.kind t.text ++ rest := by rw [hsk, List.drop_left]
    obtain ⟨n, rfl⟩ : ∃ m, n = m + 1 := ⟨n - 1, by omega⟩
    have hlen : 0 < (shwK t.kind t.text).length := List.length_pos_iff.2 hne
    simp only [List.length_append] at hn
    have ih : ∀ p, ∃ m, toks n p rest = (m, (0, 0), 0) ∧ sameT false l m = true := by
      intro p
      by_cases h : l = []
      · subst h
        rw [if_pos rfl] at hrest
        subst hrest
        exact ⟨[], toks_end rfl, rfl⟩
      · rw [if_neg h] at hrest
        subst hrest
        exact shown_toks l (fun u hu => hg u (by simp [hu])) n p [32] (.inr rfl) (by simp at hn ⊢; omega)
    rw [toks_ok (by rw [hd]; exact hw) (by rw [hd, hnx]), hd, hnx]
    simp only [List.drop_left]
    obtain ⟨m, hm, hsm⟩ := ih (place (place p ((pre ++ (shwK t.kind t.text ++ rest)).take (skipB (pre ++ (shwK t.kind t.text ++ rest))))) ((shwK t.kind t.text ++ rest).take (shwK t.kind t.text).length))
    rw [hm]
    exact ⟨_, rfl, by simp [sameT, eqT, hsm]⟩
theorem good_toks : ∀ (n : Nat) (p : Int × Int) (r : List UInt8), ∀ t ∈ (toks n p r).1, Good t.kind t.text
  | 0, _, _, t, h => by cases h
  | n + 1, p, r, t, h => by
    by_cases h1 : r.drop (skipB r) = []
    · rw [toks_end h1] at h; cases h
    · by_cases he : (nextF (r.drop (skipB r))).e = 0
      · rw [toks_ok h1 he] at h
        simp only [] at h
        split at h
        · exact good_toks n _ _ t h
        · rcases List.mem_cons.1 h with rfl | h
          · exact good_of h1 he
          · exact good_toks n _ _ t h
      · rw [toks_bad h1 he] at h; cases h
theorem toks_err : ∀ (n : Nat) (p : Int × Int) (r : List UInt8), (toks n p r).2.2 ≠ 0 → (toks n p r).1 = []
  | 0, _, _, h => rfl
  | n + 1, p, r, h => by
    by_cases h1 : r.drop (skipB r) = []
    · rw [toks_end h1]
    · by_cases he : (nextF (r.drop (skipB r))).e = 0
      · rw [toks_ok h1 he] at h ⊢
        simp only [] at h ⊢
        split at h
        · rename_i h2; rw [if_pos h2]; exact toks_err n _ _ h2
        · rename_i h2; exact absurd h h2
      · rw [toks_bad h1 he]
/-- LexBack, in plain words. -/
theorem back_ok {s : List UInt8} (h : (tokens s).2.2 = 0) (hl : (J (tokens s).1).length ≤ 65536) : ∃ m, tokens (J (tokens s).1) = (m, (0, 0), 0) ∧ sameT false (tokens s).1 m = true := by
  have hg : ∀ t ∈ (tokens s).1, Good t.kind t.text := by
    unfold tokens
    split
    · intro t h; cases h
    · exact good_toks _ _ _
  generalize (tokens s).1 = l at hg hl ⊢
  obtain ⟨m, hm, hs⟩ := shown_toks l hg ((J l).length + 1) (1, 1) [] (.inl rfl) (by simp)
  refine ⟨m, ?_, hs⟩
  unfold tokens
  rw [if_neg (by omega)]
  exact hm
theorem tokens_err {s : List UInt8} (h : (tokens s).2.2 ≠ 0) : (tokens s).1 = [] := by
  unfold tokens at h ⊢
  split
  · rfl
  · rename_i h1; rw [if_neg h1] at h; exact toks_err _ _ _ h
def lexLt (a b : Int × Int) : Prop := a.1 < b.1 ∨ (a.1 = b.1 ∧ a.2 < b.2)
theorem place_rise {p : Int × Int} {s : List UInt8} {a : Nat} : ∀ {b : Nat}, a < b → b ≤ s.length → lexLt (place p (s.take a)) (place p (s.take b))
  | 0, h, _ => absurd h (by omega)
  | b + 1, h, hb => by
    have hs := place_succ p (r := s) (i := b) (by omega)
    have h1 : lexLt (place p (s.take b)) (place p (s.take (b + 1))) := by
      rw [hs]
      split
      · left; exact Int.lt_succ _
      · right; exact ⟨rfl, Int.lt_succ _⟩
    rcases Nat.lt_or_ge a b with h2 | h2
    · have h3 := place_rise (p := p) (s := s) h2 (by omega)
      unfold lexLt at *
      omega
    · have : a = b := by omega
      rw [this]; exact h1
theorem place_inj {p : Int × Int} {s : List UInt8} {a b : Nat} (ha : a ≤ s.length) (hb : b ≤ s.length) (h : place p (s.take a) = place p (s.take b)) : a = b := by
  rcases Nat.lt_trichotomy a b with h1 | h1 | h1
  · have := place_rise (p := p) h1 hb
    rw [h] at this
    unfold lexLt at this
    omega
  · exact h1
  · have := place_rise (p := p) h1 ha
    rw [h] at this
    unfold lexLt at this
    omega
/-- The byte at which a token begins. -/
def First (c : UInt8) (k : Int) (t : List UInt8) : Prop := (k = 7 → c.toNat = 34) ∧ (k = 9 → c.toNat = 46) ∧ (k ≠ 7 → k ≠ 9 → t ≠ [] ∧ c = t.getD 0 0)
theorem first_of {r : List UInt8} (hr : r ≠ []) (he : (nextF r).e = 0) : First (r.getD 0 0) (nextF r).kind (nextF r).text := by
  have key : ∀ (k : Int) (n : Nat), k ≠ 7 → k ≠ 9 → 0 < n → First (r.getD 0 0) k (r.take n) := fun k n h7 h9 hn => by
    refine ⟨fun h => absurd h h7, fun h => absurd h h9, fun _ _ => ⟨fun h => ?_, (take_getD hn).symm⟩⟩
    have h8 : (r.take n).length = 0 := by rw [h]; rfl
    have : 0 < r.length := List.length_pos_iff.2 hr
    rw [List.length_take] at h8; omega
  by_cases h1 : low (r.getD 0 0) = true
  · rw [nextF_low h1] at he ⊢
    have hp := run_pos hr (low_within h1)
    revert he
    unfold nameF
    simp only []
    (repeat' split) <;> intro he <;> first | exact absurd he (by decide) | exact key _ _ (by simp) (by simp) (by omega)
  replace h1 := bfalse h1
  by_cases h2 : digit (r.getD 0 0) = true
  · rw [nextF_dig h1 h2] at he ⊢
    have hp := run_pos hr h2
    revert he
    unfold numberF
    simp only []
    (repeat' split) <;> intro he <;> first | exact absurd he (by decide) | exact key _ _ (by simp) (by simp) (by omega)
  replace h2 := bfalse h2
  by_cases h3 : (r.getD 0 0).toNat = 34
  · rw [nextF_quo h1 h2 h3] at he ⊢
    revert he
    unfold quotedF
    simp only []
    (repeat' split) <;> intro he <;> first | exact absurd he (by decide) | exact ⟨fun _ => h3, fun h => absurd h (by simp), fun h => absurd rfl h⟩
  by_cases h4 : high (r.getD 0 0) = true
  · rw [nextF_high h1 h2 h3 h4] at he ⊢
    have hp := run_pos hr (high_within h4)
    revert he
    (repeat' split) <;> intro he <;> first | exact absurd he (by decide) | exact key _ _ (by simp) (by simp) (by omega)
  replace h4 := bfalse h4
  by_cases h5 : (r.getD 0 0).toNat = 95
  · rw [nextF_any h1 h2 h3 h4 h5] at he ⊢
    revert he
    (repeat' split) <;> intro he <;> first | exact absurd he (by decide) | exact ⟨fun h => absurd h (by simp), fun h => absurd h (by simp), fun _ _ => ⟨by simp, UInt8.toNat_inj.1 h5⟩⟩
  by_cases h6 : twos.contains (r.take 2) = true
  · rw [nextF_two h1 h2 h3 h4 h5 h6]
    exact key _ _ (by simp) (by simp) (by omega)
  replace h6 := bfalse h6
  by_cases h7 : (r.getD 0 0).toNat = 46 ∧ low (r.getD 1 0) = true ∧ isWord ((r.drop 1).take (run within (r.drop 1))) = false
  · rw [nextF_field h1 h2 h3 h4 h5 h6 h7.1 h7.2.1 h7.2.2] at he ⊢
    revert he
    (repeat' split) <;> intro he <;> first | exact absurd he (by decide) | exact ⟨fun h => absurd h (by simp), fun _ => h7.1, fun _ h => absurd rfl h⟩
  rw [nextF_rest h1 h2 h3 h4 h5 h6 h7] at he ⊢
  revert he
  (repeat' split) <;> intro he <;> first | exact absurd he (by decide) | exact ⟨fun h => absurd h (by simp), fun h => absurd h (by simp), fun _ _ => ⟨by simp, rfl⟩⟩
/-- Where the tokens begin, from a byte on. -/
inductive Offs (s : List UInt8) : Nat → List Tok → Prop
  | nil {j} : Offs s j []
  | cons {j o : Nat} {t : Tok} {l : List Tok} (h1 : j ≤ o) (h2 : o < s.length) (h3 : place (1, 1) (s.take o) = (t.line, t.col)) (h4 : First (s.getD o 0) t.kind t.text) (h5 : Offs s (o + 1) l) : Offs s j (t :: l)
theorem Offs.later {s : List UInt8} {i j : Nat} {l : List Tok} (h : Offs s j l) (hij : i ≤ j) : Offs s i l := by
  cases h with
  | nil => exact .nil
  | cons h1 h2 h3 h4 h5 => exact .cons (by omega) h2 h3 h4 h5
theorem offs_toks (s : List UInt8) : ∀ (n j : Nat), j ≤ s.length → (toks n (place (1, 1) (s.take j)) (s.drop j)).2.2 = 0 → Offs s j (toks n (place (1, 1) (s.take j)) (s.drop j)).1
  | 0, j, _, _ => .nil
  | n + 1, j, hj, h => by
    have hsl := skipB_le _ (s.drop j) (Nat.le_refl _)
    rw [List.length_drop] at hsl
    by_cases h1 : (s.drop j).drop (skipB (s.drop j)) = []
    · rw [toks_end h1]; exact .nil
    · by_cases he : (nextF ((s.drop j).drop (skipB (s.drop j)))).e = 0
      · rw [toks_ok h1 he] at h ⊢
        generalize hk : skipB (s.drop j) = b at *
        rw [List.drop_drop] at h1 he h ⊢
        have hsz := nextF_size h1 he
        rw [List.length_drop] at hsz
        generalize hf : (nextF (s.drop (j + b))).size = f at *
        simp only [place_more, List.drop_drop] at h ⊢
        have hlt : j + b < s.length := by
          rcases Nat.lt_or_ge (j + b) s.length with h9 | h9
          · exact h9
          · exact absurd (List.drop_eq_nil_of_le h9) h1
        split at h
        · rename_i h2; exact absurd h h2
        · rename_i h2
          rw [if_neg h2]
          have h3 := offs_toks s n (j + b + f) (by omega) h
          have hg : s.getD (j + b) 0 = (s.drop (j + b)).getD 0 0 := by simp only [List.getD_eq_getElem?_getD, List.getElem?_drop, Nat.add_zero]
          refine .cons (o := j + b) (by omega) hlt rfl ?_ (h3.later (by omega))
          rw [hg]
          exact first_of h1 he
      · rw [toks_bad h1 he] at h
        exact absurd h he
theorem offs_tokens {s : List UInt8} (h : (tokens s).2.2 = 0) : Offs s 0 (tokens s).1 := by
  unfold tokens at h ⊢
  split at h
  · exact absurd h (by decide)
  · rename_i h1
    rw [if_neg h1]
    have := offs_toks s (s.length + 1) 0 (Nat.zero_le _)
    simp only [List.take_zero, List.drop_zero] at this
    exact this h
theorem joined_J : ∀ l : List Tok, joined l = J l
  | [] => rfl
  | [t] => by
    unfold joined
    rw [List.map_cons, List.map_nil, Lib.join_cons]
    simp [Lib.joinTail, J, shw, shwK]
  | t :: u :: l => by
    have ih := joined_J (u :: l)
    unfold joined at ih ⊢
    rw [List.map_cons, List.map_cons, Lib.join_cons] at *
    rw [J, ← ih]
    simp [Lib.joinTail, shw, shwK]
end Go.Proofs.YtpgnmnacfilnkaaDoor
