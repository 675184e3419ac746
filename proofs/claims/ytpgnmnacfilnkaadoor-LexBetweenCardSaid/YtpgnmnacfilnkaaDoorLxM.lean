/- What is put between two tokens, blanks and a remark, changes nothing but places. Nothing of a program. (The plain law of LexBetween.) -/
import Derived.Test.YtpgnmnacfilnkaaDoorLxK
namespace Go.Proofs.YtpgnmnacfilnkaaDoor
open Go Go.Wk Go.Lx
set_option linter.unusedSimpArgs false
set_option linter.unusedVariables false

theorem out_dig {c : UInt8} (h : within c = false) : digit c = false := bfalse fun h1 => by rw [digit_within c h1] at h; cases h
theorem out_low {c : UInt8} (h : within c = false) : low c = false := bfalse fun h1 => by rw [low_within h1] at h; cases h
theorem getD_drop (r : List UInt8) (n i : Nat) : (r.drop n).getD i 0 = r.getD (n + i) 0 := by simp only [List.getD_eq_getElem?_getD, List.getElem?_drop]
theorem getD_out {r : List UInt8} {n : Nat} (h : r.length ≤ n) : r.getD n 0 = 0 := by rw [List.getD_eq_getElem?_getD, List.getElem?_eq_none h]; rfl
theorem out_drop {p : UInt8 → Bool} (hp : p 0 = false) (r : List UInt8) : p ((r.drop (run p r)).getD 0 0) = false := by
  rw [getD_drop, Nat.add_zero]
  rcases Nat.lt_or_ge (run p r) r.length with h | h
  · exact run_outs h
  · rw [getD_out h]; exact hp
/-- A name's part, no word, begins here. -/
def D (Y : List UInt8) : Prop := low (Y.getD 0 0) = true ∧ isWord (Y.take (run within Y)) = false

theorem nx_word {t rest : List UInt8} (ht : isWord t = true) (hs : within (rest.getD 0 0) = false) : nextF (t ++ rest) = ⟨0, 1, t.length, t⟩ := by
  have hw := word_part t (isWord_mem.1 ht)
  have hn := run_all hw.2 hs
  rw [nextF_low (by rw [getD_app hw.1]; exact hw.1)]
  unfold nameF
  simp only [hn, List.take_left]
  rw [if_pos ht]
theorem nx_part {p rest : List UInt8} (hp : Part p) (hs : within (rest.getD 0 0) = false) (hd : ¬ ((rest.getD 0 0).toNat = 46 ∧ D (rest.drop 1))) : nextF (p ++ rest) = ⟨0, 2, p.length, p⟩ := by
  have hn := run_all hp.h2 hs
  have h4 := hp.h4
  rw [nextF_low (by rw [getD_app hp.h1]; exact hp.h1)]
  unfold nameF
  simp only [hn, List.take_left]
  have e : (p ++ rest).drop (p.length + 1) = rest.drop 1 := by rw [List.drop_append]; simp
  rw [if_neg (by rw [hp.h3]; decide), if_neg (fun h => hd ⟨by rw [getD_at] at h; exact h.1, by rw [e] at h; exact h.2⟩), if_neg (by omega)]
theorem nx_part2 {p q rest : List UInt8} (hp : Part p) (hq : Part q) (hs : within (rest.getD 0 0) = false) : nextF (p ++ 46 :: q ++ rest) = ⟨0, 2, (p ++ 46 :: q).length, p ++ 46 :: q⟩ := by
  have e : p ++ 46 :: q ++ rest = p ++ (46 :: (q ++ rest)) := by simp
  have hn : run within (p ++ (46 :: (q ++ rest))) = p.length := run_all hp.h2 (by show within 46 = false; decide)
  have hn2 := run_all hq.h2 hs
  have h4 := hp.h4
  have h42 := hq.h4
  have hd : (p ++ (46 :: (q ++ rest))).drop (p.length + 1) = q ++ rest := by rw [List.drop_append]; simp
  have ht : (p ++ (46 :: (q ++ rest))).take (p.length + 1 + q.length) = p ++ 46 :: q := by
    rw [List.take_append]
    rw [show p.length + 1 + q.length - p.length = q.length + 1 by omega, List.take_of_length_le (by omega), List.take_succ_cons, List.take_left]
  rw [e, nextF_low (by rw [getD_app hp.h1]; exact hp.h1)]
  unfold nameF
  simp only [hn, hd, hn2, List.take_left, ht]
  rw [if_neg (by rw [hp.h3]; decide), if_pos ⟨by rw [getD_at]; rfl, by rw [getD_app hq.h1]; exact hq.h1, hq.h3⟩, if_neg (by omega)]
  simp only [List.length_append, List.length_cons]
  congr 1
  omega
theorem nx_var {t rest : List UInt8} (h1 : high (t.getD 0 0) = true) (h2 : ∀ c ∈ t, within c = true) (h3 : t.length ≤ 32) (hs : within (rest.getD 0 0) = false) : nextF (t ++ rest) = ⟨0, 3, t.length, t⟩ := by
  have h0 : t ≠ [] := fun h => by rw [h] at h1; exact absurd h1 (by decide)
  have hg := getD_app' (r := rest) h0
  have hn := run_all h2 hs
  have hh := (high_iff _).1 h1
  rw [nextF_high (by rw [hg]; exact bfalse (by rw [low_iff]; omega)) (by rw [hg]; exact bfalse (by rw [digit_iff]; omega)) (by rw [hg]; omega) (by rw [hg]; exact h1), hn, if_neg (by omega), List.take_left]
theorem nx_any {rest : List UInt8} (hs : within (rest.getD 0 0) = false) : nextF ([95] ++ rest) = ⟨0, 4, 1, [95]⟩ := by
  have hn : run within ([95] ++ rest) = 1 := run_all (w := [95]) (by decide) hs
  rw [nextF_any rfl rfl (by show ¬ (95 : UInt8).toNat = 34; decide) rfl rfl, hn, if_neg (by omega)]
theorem nx_int {t rest : List UInt8} (h0 : t ≠ []) (h1 : ∀ c ∈ t, digit c = true) (h2 : ¬ (1 < t.length ∧ (t.getD 0 0).toNat = 48)) (h3 : t.length ≤ 200) (hs : within (rest.getD 0 0) = false) : nextF (t ++ rest) = ⟨0, 5, t.length, t⟩ := by
  have hg := getD_app' (r := rest) h0
  have hd0 : digit (t.getD 0 0) = true := by
    obtain ⟨c, u, rfl⟩ := List.exists_cons_of_ne_nil h0
    exact h1 c (by simp)
  have hdd := (digit_iff _).1 hd0
  have hn := run_all (rest := rest) h1 (out_dig hs)
  have hm := run_all (rest := rest) (fun c hc => digit_within c (h1 c hc)) hs
  rw [nextF_dig (by rw [hg]; exact bfalse (by rw [low_iff]; omega)) (by rw [hg]; exact hd0)]
  unfold numberF
  simp only [hn, hm, hg, List.take_left]
  rw [if_neg (by omega), if_neg (by omega), if_neg (by omega)]
theorem nx_big {t rest : List UInt8} (h0 : t ≠ []) (h1 : ∀ c ∈ t, digit c = true) (h2 : ¬ (1 < t.length ∧ (t.getD 0 0).toNat = 48)) (h3 : t.length ≤ 200) (hs : within (rest.getD 0 0) = false) : nextF (t ++ [98] ++ rest) = ⟨0, 6, (t ++ [98]).length, t⟩ := by
  have e : t ++ [98] ++ rest = t ++ (98 :: rest) := by simp
  have hg := getD_app' (r := 98 :: rest) h0
  have hd0 : digit (t.getD 0 0) = true := by
    obtain ⟨c, u, rfl⟩ := List.exists_cons_of_ne_nil h0
    exact h1 c (by simp)
  have hdd := (digit_iff _).1 hd0
  have hn : run digit (t ++ (98 :: rest)) = t.length := run_all h1 (by rfl)
  have hm : run within (t ++ (98 :: rest)) = t.length + 1 := by
    rw [← e, run_all (w := t ++ [98]) (fun c hc => by
      rcases List.mem_append.1 hc with hc | hc
      · exact digit_within c (h1 c hc)
      · simp at hc; subst hc; decide) hs]
    simp
  have ht : ((t ++ (98 :: rest)).take (t.length + 1)).drop t.length = [98] := by
    rw [List.take_append, List.take_of_length_le (by omega), show t.length + 1 - t.length = 1 by omega, List.drop_left]; rfl
  rw [e, nextF_dig (by rw [hg]; exact bfalse (by rw [low_iff]; omega)) (by rw [hg]; exact hd0)]
  unfold numberF
  simp only [hn, hm, hg, List.take_left, ht]
  rw [if_neg (fun h => h.elim h2 (fun h => h.2 rfl)), if_neg (by omega), if_pos (by omega)]
  simp
theorem nx_field {t rest : List UInt8} (ht : Part t) (hs : within (rest.getD 0 0) = false) : nextF (46 :: t ++ rest) = ⟨0, 9, t.length + 1, t⟩ := by
  have e : 46 :: t ++ rest = 46 :: (t ++ rest) := by simp
  have hn := run_all ht.h2 hs
  have h4 := ht.h4
  have hg : low ((46 :: (t ++ rest)).getD 1 0) = true := by
    show low ((t ++ rest).getD 0 0) = true
    rw [getD_app ht.h1]; exact ht.h1
  have h2 : twos.contains ((46 :: (t ++ rest)).take 2) = false := bfalse fun h => by have h9 := twos_first (c := 46) h rfl; revert h9; decide
  rw [e, nextF_field rfl rfl (by show ¬ (46 : UInt8).toNat = 34; decide) rfl (by show ¬ (46 : UInt8).toNat = 95; decide) h2 rfl hg (by rw [List.drop_succ_cons, List.drop_zero, hn, List.take_left]; exact ht.h3)]
  rw [List.drop_succ_cons, List.drop_zero, hn, List.take_left, if_neg (by omega)]
theorem nx_one {c : UInt8} {rest : List UInt8} (hc : c ∈ ones) (h2 : twos.contains (([c] ++ rest).take 2) = false) (hd : c.toNat = 46 → ¬ D rest) : nextF ([c] ++ rest) = ⟨0, 8, 1, [c]⟩ := by
  have hc2 : ones.contains c = true := by simpa using hc
  obtain ⟨f1, f2, f3, f4, f5⟩ := ones_has hc2
  rw [nextF_rest (r := [c] ++ rest) f1 f2 f5 f3 f4 h2 (fun h => hd h.1 ⟨h.2.1, h.2.2⟩)]
  show (if ones.contains c = true then _ else _) = _
  rw [if_pos hc2]
  rfl
theorem mark_cut {r : List UInt8} {c : UInt8} {k : Nat} (X : List UInt8) (h : markQ r = some (c, k)) : markQ (r.take k ++ X) = some (c, k) := by
  have hk := mark_pos h
  rcases r with - | ⟨a, r⟩
  · simp at hk; omega
  unfold markQ at h
  simp only [List.getD_cons_zero] at h
  split at h
  · cases h
  rename_i h1
  have h1' : ∀ t, ¬ (a :: t = [] ∨ a.toNat < 32 ∨ a.toNat = 127 ∨ a.toNat = 34) := fun t h => h1 (h.elim (fun h => by cases h) .inr)
  split at h
  · rename_i h2
    cases h
    unfold markQ
    simp only [List.take_succ_cons, List.take_zero, List.cons_append, List.nil_append, List.getD_cons_zero]
    rw [if_neg (h1' _), if_pos h2]
  rename_i h2
  split at h
  · cases h
  rename_i h3
  rcases r with - | ⟨b, r⟩
  · exact absurd (by simp) h3
  simp only [List.getD_cons_succ, List.getD_cons_zero] at h
  split at h
  · rename_i h4
    cases h
    unfold markQ
    simp only [List.take_succ_cons, List.take_zero, List.cons_append, List.nil_append, List.getD_cons_zero, List.getD_cons_succ]
    rw [if_neg (h1' _), if_neg h2, if_neg (by simp), if_pos h4]
  rename_i h4
  split at h
  · rename_i h5
    cases h
    unfold markQ
    simp only [List.take_succ_cons, List.take_zero, List.cons_append, List.nil_append, List.getD_cons_zero, List.getD_cons_succ]
    rw [if_neg (h1' _), if_neg h2, if_neg (by simp), if_neg h4, if_pos h5]
  rename_i h5
  split at h
  · rename_i h6
    cases h
    unfold markQ
    simp only [List.take_succ_cons, List.take_zero, List.cons_append, List.nil_append, List.getD_cons_zero, List.getD_cons_succ]
    rw [if_neg (h1' _), if_neg h2, if_neg (by simp), if_neg h4, if_neg h5, if_pos h6]
  rename_i h6
  split at h
  · rename_i h7
    rcases r with - | ⟨d, r⟩
    · exact absurd h7.2.1 (by simp)
    rcases r with - | ⟨e, r⟩
    · exact absurd h7.2.1 (by simp)
    simp only [List.getD_cons_succ, List.getD_cons_zero] at h h7
    cases h
    unfold markQ
    simp only [List.take_succ_cons, List.take_zero, List.cons_append, List.nil_append, List.getD_cons_zero, List.getD_cons_succ]
    rw [if_neg (h1' _), if_neg h2, if_neg (by simp), if_neg h4, if_neg h5, if_neg h6, if_pos ⟨h7.1, by simp, h7.2.2.1, h7.2.2.2⟩]
  · cases h
theorem qmarks_cut (X : List UInt8) : ∀ (n : Nat) (q : List UInt8), q.length ≤ n → (q.getD (qmarks q).2 0).toNat = 34 → qmarks (q.take ((qmarks q).2 + 1) ++ X) = qmarks q := by
  intro n
  induction n with
  | zero =>
    intro q h h1
    have : q = [] := List.eq_nil_of_length_eq_zero (by omega)
    subst this
    exact absurd h1 (by decide)
  | succ n ih =>
    intro q h h1
    cases hm : markQ q with
    | none =>
      rw [qmarks_none hm] at h1 ⊢
      rcases q with - | ⟨a, t⟩
      · exact absurd h1 (by decide)
      have ha : a = 34 := UInt8.toNat_inj.1 h1
      subst ha
      exact qmarks_none (markQ_end _)
    | some x =>
      obtain ⟨c, k⟩ := x
      have hk := mark_pos hm
      rw [qmarks_some hm] at h1 ⊢
      simp only at h1 ⊢
      have e : q.take (k + (qmarks (q.drop k)).2 + 1) ++ X = q.take k ++ ((q.drop k).take ((qmarks (q.drop k)).2 + 1) ++ X) := by
        rw [Nat.add_assoc, List.take_add, List.append_assoc]
      have hd : (q.take k ++ ((q.drop k).take ((qmarks (q.drop k)).2 + 1) ++ X)).drop k = (q.drop k).take ((qmarks (q.drop k)).2 + 1) ++ X := by
        rw [List.drop_append, List.drop_of_length_le (by rw [List.length_take]; omega), List.length_take, Nat.min_eq_left hk.2, Nat.sub_self]; rfl
      rw [e, qmarks_some (mark_cut _ hm), hd, ih _ (by rw [List.length_drop]; omega) (by rw [getD_drop]; exact h1)]
theorem nx_text {q X : List UInt8} (h : (q.getD (qmarks q).2 0).toNat = 34) (h5 : ¬ 4096 < (qmarks q).1.length) : nextF (34 :: (q.take ((qmarks q).2 + 1) ++ X)) = ⟨0, 7, (qmarks q).2 + 2, (qmarks q).1⟩ := by
  have hq := qmarks_cut X _ q (Nat.le_refl _) h
  have hl : (qmarks q).2 < q.length := getD_lt (by omega)
  rw [nextF_quo rfl rfl rfl]
  unfold quotedF
  simp only [List.drop_succ_cons, List.drop_zero, hq]
  rw [if_pos ?_, if_neg h5]
  rw [List.getD_eq_getElem?_getD, List.getElem?_append_left (by rw [List.length_take]; omega), List.getElem?_take_of_lt (by omega), ← List.getD_eq_getElem?_getD]
  exact h
/-- As the one text begins, so does the other one, or it begins with a blank. -/
structure Like (Y X : List UInt8) : Prop where
  h0 : Y ≠ [] ∧ X ≠ []
  h1 : X.getD 0 0 = Y.getD 0 0 ∨ X.getD 0 0 = 32
  h2 : D X → D Y
  h3 : (X.getD 0 0).toNat = 46 → D (X.drop 1) → (Y.getD 0 0).toNat = 46 ∧ D (Y.drop 1)
theorem Like.out {Y X : List UInt8} (h : Like Y X) (hy : within (Y.getD 0 0) = false) : within (X.getD 0 0) = false := by
  rcases h.h1 with h | h
  · rw [h]; exact hy
  · rw [h]; decide
theorem head_app {c : UInt8} {r : List UInt8} {n : Nat} (h : r.getD 0 0 = c) (hr : r ≠ []) : r = c :: r.drop 1 := by
  cases r with
  | nil => exact absurd rfl hr
  | cons d t => simp at h; subst h; rfl
/-- What stands ahead hangs on its own bytes, and on how it goes on, in a few cases. -/
theorem local_next {r X : List UInt8} (hr : r ≠ []) (he : (nextF r).e = 0) (hX : Like (r.drop (nextF r).size) X) : nextF (r.take (nextF r).size ++ X) = nextF r := by
  have hl := run_le within r
  have hw0 : within 0 = false := by decide
  by_cases h1 : low (r.getD 0 0) = true
  · rw [nextF_low h1] at he hX ⊢
    revert he hX
    unfold nameF
    simp only []
    have hlt : (r.take (run within r)).length = run within r := by rw [List.length_take]; omega
    by_cases h2 : isWord (r.take (run within r)) = true
    · rw [if_pos h2]; intro _ hX
      have h9 := nx_word h2 (hX.out (out_drop hw0 r))
      rw [hlt] at h9
      exact h9
    rw [if_neg h2]
    by_cases h3 : (r.getD (run within r) 0).toNat = 46 ∧ low ((r.drop (run within r + 1)).getD 0 0) = true ∧ isWord ((r.drop (run within r + 1)).take (run within (r.drop (run within r + 1)))) = false
    · rw [if_pos h3]
      by_cases h4 : 32 < run within r ∨ 32 < run within (r.drop (run within r + 1))
      · rw [if_pos h4]; intro he; exact absurd he (by decide)
      rw [if_neg h4]; intro _ hX
      have hX : Like (r.drop (run within r + 1 + run within (r.drop (run within r + 1)))) X := hX
      show nextF (r.take (run within r + 1 + run within (r.drop (run within r + 1))) ++ X) = _
      rw [← List.drop_drop] at hX
      rw [dot_take h3.1 (getD_lt (by omega))]
      have h9 := nx_part2 (part_of h1 (bfalse h2) (by omega)) (part_of h3.2.1 h3.2.2 (by omega)) (hX.out (out_drop hw0 _))
      have hq := run_le within (r.drop (run within r + 1))
      have hlt2 : ((r.drop (run within r + 1)).take (run within (r.drop (run within r + 1)))).length = run within (r.drop (run within r + 1)) := by rw [List.length_take]; omega
      rw [List.length_append, List.length_cons, hlt, hlt2] at h9
      rw [h9]
      congr 1
      omega
    rw [if_neg h3]
    by_cases h4 : 32 < run within r
    · rw [if_pos h4]; intro he; exact absurd he (by decide)
    rw [if_neg h4]; intro _ hX
    have hX : Like (r.drop (run within r)) X := hX
    have h9 := nx_part (rest := X) (part_of h1 (bfalse h2) h4) (hX.out (out_drop hw0 r)) (fun h => h3 (by
      have h8 := hX.h3 h.1 h.2
      rw [getD_drop, List.drop_drop] at h8
      exact ⟨h8.1, h8.2.1, h8.2.2⟩))
    rw [hlt] at h9
    exact h9
  replace h1 := bfalse h1
  by_cases h2 : digit (r.getD 0 0) = true
  · rw [nextF_dig h1 h2] at he hX ⊢
    have hp := run_pos hr h2
    have hdl := run_le digit r
    have hm := run_mono digit_within r
    have h0 : r.take (run digit r) ≠ [] := fun h => by
      have h9 : (r.take (run digit r)).length = 0 := by rw [h]; rfl
      rw [List.length_take] at h9; omega
    have hlt : (r.take (run digit r)).length = run digit r := by rw [List.length_take]; omega
    revert he hX
    unfold numberF
    simp only []
    by_cases h3 : (1 < run digit r ∧ (r.getD 0 0).toNat = 48) ∨ (run digit r < run within r ∧ (r.take (run within r)).drop (run digit r) ≠ [98])
    · rw [if_pos h3]; intro he; exact absurd he (by decide)
    rw [if_neg h3]
    by_cases h4 : 200 < run digit r
    · rw [if_pos h4]; intro he; exact absurd he (by decide)
    rw [if_neg h4]
    have h5 : ¬ (1 < (r.take (run digit r)).length ∧ ((r.take (run digit r)).getD 0 0).toNat = 48) := by
      rw [hlt, take_getD (by omega)]
      exact fun h => h3 (.inl h)
    by_cases h6 : run digit r < run within r
    · rw [if_pos h6]; intro _ hX
      have hX : Like (r.drop (run within r)) X := hX
      have h7 : (r.take (run within r)).drop (run digit r) = [98] := by
        by_cases h9 : (r.take (run within r)).drop (run digit r) = [98]
        · exact h9
        · exact absurd (.inr ⟨h6, h9⟩) h3
      have h8 : r.take (run within r) = r.take (run digit r) ++ [98] := by
        rw [← h7]
        have := (List.take_append_drop (run digit r) (r.take (run within r))).symm
        rwa [List.take_take, Nat.min_eq_left (by omega)] at this
      have h10 := congrArg List.length h8
      rw [List.length_append, hlt, List.length_take, List.length_singleton] at h10
      have h9 := nx_big (rest := X) h0 (run_take_all digit r) h5 (by omega) (hX.out (out_drop hw0 r))
      show nextF (r.take (run within r) ++ X) = _
      rw [h8, h9]
      simp only [List.length_append, List.length_singleton, hlt]
      congr 1
      omega
    · rw [if_neg h6]; intro _ hX
      have hX : Like (r.drop (run within r)) X := hX
      have e : run within r = run digit r := by omega
      have h9 := nx_int (rest := X) h0 (run_take_all digit r) h5 (by omega) (hX.out (out_drop hw0 r))
      show nextF (r.take (run within r) ++ X) = _
      rw [hlt] at h9
      rw [e, h9]
  replace h2 := bfalse h2
  by_cases h3 : (r.getD 0 0).toNat = 34
  · rw [nextF_quo h1 h2 h3] at he hX ⊢
    have e := head_app (n := 0) (UInt8.toNat_inj.1 h3 : r.getD 0 0 = 34) hr
    revert he hX
    unfold quotedF
    simp only []
    by_cases h4 : ((r.drop 1).getD (qmarks (r.drop 1)).2 0).toNat = 34
    · rw [if_pos h4]
      by_cases h5 : 4096 < (qmarks (r.drop 1)).1.length
      · rw [if_pos h5]; intro he; exact absurd he (by decide)
      rw [if_neg h5]; intro _ hX
      have h9 := nx_text (X := X) h4 h5
      have e2 : r.take ((qmarks (r.drop 1)).2 + 2) = 34 :: (r.drop 1).take ((qmarks (r.drop 1)).2 + 1) := by
        generalize (qmarks (r.drop 1)).2 = m
        conv => lhs; rw [e]
        rfl
      show nextF (r.take ((qmarks (r.drop 1)).2 + 2) ++ X) = _
      rw [e2, List.cons_append, h9]
    · rw [if_neg h4]; intro he; exact absurd he (by decide)
  by_cases h4 : high (r.getD 0 0) = true
  · rw [nextF_high h1 h2 h3 h4] at he hX ⊢
    revert he hX
    by_cases h5 : 32 < run within r
    · rw [if_pos h5]; intro he; exact absurd he (by decide)
    rw [if_neg h5]; intro _ hX
    have hX : Like (r.drop (run within r)) X := hX
    have hp := run_pos hr (high_within h4)
    have hlt : (r.take (run within r)).length = run within r := by rw [List.length_take]; omega
    have h9 := nx_var (rest := X) (by rw [take_getD (by omega)]; exact h4) (run_take_all within r) (by omega) (hX.out (out_drop hw0 r))
    rw [hlt] at h9
    exact h9
  replace h4 := bfalse h4
  by_cases h5 : (r.getD 0 0).toNat = 95
  · rw [nextF_any h1 h2 h3 h4 h5] at he hX ⊢
    have e := head_app (n := 0) (UInt8.toNat_inj.1 h5 : r.getD 0 0 = 95) hr
    revert he hX
    by_cases h6 : 1 < run within r
    · rw [if_pos h6]; intro he; exact absurd he (by decide)
    rw [if_neg h6]; intro _ hX
    have hX : Like (r.drop 1) X := hX
    have hp := run_pos hr ((within_iff _).2 (.inr (.inr (.inr h5))))
    have h7 : run within r = 1 := by omega
    have h8 := out_drop hw0 r
    rw [h7] at h8
    show nextF (r.take 1 ++ X) = _
    have e2 : r.take 1 = [95] := by conv => lhs; rw [e]
                                    rfl
    rw [e2, nx_any (hX.out h8)]
  by_cases h6 : twos.contains (r.take 2) = true
  · rw [nextF_two h1 h2 h3 h4 h5 h6]
    show nextF (r.take 2 ++ X) = _
    have ht : r.take 2 ∈ twos := by simpa using h6
    rw [next_two ht, (two_facts _ ht).1]
  replace h6 := bfalse h6
  by_cases h7 : (r.getD 0 0).toNat = 46 ∧ low (r.getD 1 0) = true ∧ isWord ((r.drop 1).take (run within (r.drop 1))) = false
  · rw [nextF_field h1 h2 h3 h4 h5 h6 h7.1 h7.2.1 h7.2.2] at he hX ⊢
    have e := head_app (n := 0) (UInt8.toNat_inj.1 h7.1 : r.getD 0 0 = 46) hr
    revert he hX
    by_cases h8 : 32 < run within (r.drop 1)
    · rw [if_pos h8]; intro he; exact absurd he (by decide)
    rw [if_neg h8]; intro _ hX
    have hX : Like (r.drop (run within (r.drop 1) + 1)) X := hX
    rw [Nat.add_comm, ← List.drop_drop] at hX
    have hq := run_le within (r.drop 1)
    have hlt : ((r.drop 1).take (run within (r.drop 1))).length = run within (r.drop 1) := by rw [List.length_take]; omega
    have h9 := nx_field (rest := X) (part_of (by rw [getD_drop]; exact h7.2.1) h7.2.2 h8) (hX.out (out_drop hw0 _))
    have e2 : r.take (run within (r.drop 1) + 1) = 46 :: (r.drop 1).take (run within (r.drop 1)) := by
      generalize run within (r.drop 1) = m
      conv => lhs; rw [e]
      rfl
    show nextF (r.take (run within (r.drop 1) + 1) ++ X) = _
    rw [hlt] at h9
    rw [e2, h9]
  rw [nextF_rest h1 h2 h3 h4 h5 h6 h7] at he hX ⊢
  revert he hX
  by_cases h8 : ones.contains (r.getD 0 0) = true
  · rw [if_pos h8]; intro _ hX
    have hX : Like (r.drop 1) X := hX
    have e := head_app (n := 0) (rfl : r.getD 0 0 = r.getD 0 0) hr
    have hc : r.getD 0 0 ∈ ones := by simpa using h8
    generalize r.getD 0 0 = c at *
    have e2 : r.take 1 = [c] := by rw [e]; rfl
    show nextF (r.take 1 ++ X) = _
    rw [e2, nx_one hc ?_ (fun h46 hd => h7 (by have h9 := hX.h2 hd; rw [D, getD_drop] at h9; exact ⟨h46, h9.1, h9.2⟩))]
    obtain ⟨hy, hx⟩ := hX.h0
    obtain ⟨y, Y, hY⟩ := List.exists_cons_of_ne_nil hy
    obtain ⟨x, X', rfl⟩ := List.exists_cons_of_ne_nil hx
    show twos.contains [c, x] = false
    rcases hX.h1 with h9 | h9
    · rw [hY] at h9
      have h9 : x = y := h9
      rw [h9]
      rw [e, hY] at h6
      exact h6
    · have h9 : x = 32 := h9
      rw [h9]
      exact (one_facts c hc).2
  · rw [if_neg h8]; intro he; exact absurd he (by decide)

/-- Where a token begins. -/
inductive Start : List UInt8 → Nat → Prop
  | here {r} (h1 : r.drop (skipB r) ≠ []) (h2 : (nextF (r.drop (skipB r))).e = 0) : Start r (skipB r)
  | later {r o} (h1 : r.drop (skipB r) ≠ []) (h2 : (nextF (r.drop (skipB r))).e = 0) (h : Start ((r.drop (skipB r)).drop (nextF (r.drop (skipB r))).size) o) : Start r (skipB r + (nextF (r.drop (skipB r))).size + o)
theorem Start.ne {r o} (h : Start r o) : r ≠ [] := by
  rintro rfl
  cases h with
  | here h1 h2 => exact h1 rfl
  | later h1 h2 h => exact h1 rfl
theorem Start.lt {r o} (h : Start r o) : o < r.length := by
  induction h with
  | @here r h1 h2 =>
    rcases Nat.lt_or_ge (skipB r) r.length with h | h
    · exact h
    · exact absurd (List.drop_eq_nil_of_le h) h1
  | @later r o h1 h2 h ih =>
    rw [List.length_drop, List.length_drop] at ih
    omega
theorem skip_low {r : List UInt8} (h : low (r.getD 0 0) = true) : skipB r = 0 := by
  have hr := ne_of_low h
  obtain ⟨c, t, rfl⟩ := List.exists_cons_of_ne_nil hr
  have hp := plain_low h
  exact skipB_stop hp.1 hp.2
theorem start_word {Y : List UInt8} {o : Nat} (h : Start Y o) (h1 : low (Y.getD 0 0) = true) (h2 : isWord (Y.take (run within Y)) = true) : o = 0 ∨ run within Y ≤ o := by
  have hs := skip_low h1
  have hf : nextF Y = ⟨0, 1, run within Y, Y.take (run within Y)⟩ := by
    rw [nextF_low h1]
    unfold nameF
    simp only []
    rw [if_pos h2]
  cases h with
  | here => left; exact hs
  | later h3 h4 h =>
    right
    rw [hs, List.drop_zero, hf]
    simp only []
    omega
theorem start_dot {Y : List UInt8} {o : Nat} (h : Start Y o) (h0 : (Y.getD 0 0).toNat = 46) (h1 : low ((Y.drop 1).getD 0 0) = true) (h2 : isWord ((Y.drop 1).take (run within (Y.drop 1))) = true) : o = 0 ∨ o = 1 ∨ 1 + run within (Y.drop 1) ≤ o := by
  have hY := h.ne
  have e := head_app (n := 0) (UInt8.toNat_inj.1 h0 : Y.getD 0 0 = 46) hY
  have hs : skipB Y = 0 := by rw [e]; exact skipB_stop (by decide) (by decide)
  have hc : Y.getD 0 0 = 46 := UInt8.toNat_inj.1 h0
  have hf : nextF Y = ⟨0, 8, 1, [46]⟩ := by
    rw [nextF_rest (r := Y) (by rw [hc]; decide) (by rw [hc]; decide) (by rw [hc]; decide) (by rw [hc]; decide) (by rw [hc]; decide) (bfalse fun h => by have h9 := twos_first h hc; revert h9; decide) (fun h => by rw [h2] at h; exact absurd h.2.2 (by decide)), hc]
    rfl
  cases h with
  | here => left; exact hs
  | later h3 h4 h =>
    right
    rw [hs, List.drop_zero, hf] at h ⊢
    simp only [] at h ⊢
    rcases start_word h h1 h2 with h9 | h9 <;> omega
theorem run_cut {p : UInt8 → Bool} (hp : p 32 = false) {Y : List UInt8} {o : Nat} (ho : run p Y ≤ o) (Z : List UInt8) : run p (Y.take o ++ 32 :: Z) = run p Y := by
  have hl := run_le p Y
  have e : Y.take o = Y.take (run p Y) ++ (Y.drop (run p Y)).take (o - run p Y) := by
    rw [← List.take_add]; congr 1; omega
  rw [e, List.append_assoc]
  have := run_all (rest := (Y.drop (run p Y)).take (o - run p Y) ++ 32 :: Z) (run_take_all p Y) ?_
  · rw [this, List.length_take]; omega
  · generalize hm : o - run p Y = m
    generalize hq : Y.drop (run p Y) = q
    rcases m with - | m
    · exact hp
    rcases q with - | ⟨c, q⟩
    · exact hp
    show p c = false
    have h1 : p (Y.getD (run p Y) 0) = false := by
      refine run_outs ?_
      have h2 := congrArg List.length hq
      rw [List.length_drop, List.length_cons] at h2
      omega
    have h3 : (Y.drop (run p Y)).getD 0 0 = c := by rw [hq]; rfl
    rw [getD_drop, Nat.add_zero] at h3
    rwa [h3] at h1
theorem take_cut {Y : List UInt8} {o n : Nat} (h : n ≤ o) (h2 : n ≤ Y.length) (W : List UInt8) : (Y.take o ++ W).take n = Y.take n := by
  rw [List.take_append_of_le_length (by rw [List.length_take]; omega), List.take_take, Nat.min_eq_left h]
theorem D_cut {Y : List UInt8} {o : Nat} (Z : List UInt8) (h : low (Y.getD 0 0) = true → isWord (Y.take (run within Y)) = true → o = 0 ∨ run within Y ≤ o) (hd : D (Y.take o ++ 32 :: Z)) : D Y := by
  have hl := run_le within Y
  rcases o with - | o
  · exact absurd hd.1 (by show ¬ low 32 = true; decide)
  have hY : Y ≠ [] := by rintro rfl; exact absurd hd.1 (by show ¬ low 32 = true; decide)
  obtain ⟨c, t, rfl⟩ := List.exists_cons_of_ne_nil hY
  have h1 : low ((c :: t).getD 0 0) = true := hd.1
  refine ⟨h1, bfalse fun hw => ?_⟩
  rcases h h1 hw with h9 | h9
  · omega
  have h2 := hd.2
  rw [run_cut (by decide) h9, take_cut h9 hl, hw] at h2
  cases h2
theorem like_of {Y : List UInt8} {o : Nat} (h : Start Y o) (Z : List UInt8) : Like Y (Y.take o ++ 32 :: Z) := by
  have hY := h.ne
  refine ⟨⟨hY, by simp⟩, ?_, D_cut Z (start_word h), ?_⟩
  · rcases o with - | o
    · right; rfl
    · left
      obtain ⟨c, t, rfl⟩ := List.exists_cons_of_ne_nil hY
      rfl
  · intro h1 h2
    rcases o with - | o
    · exact absurd h1 (by show ¬ (32 : UInt8).toNat = 46; decide)
    obtain ⟨c, t, rfl⟩ := List.exists_cons_of_ne_nil hY
    refine ⟨h1, ?_⟩
    show D t
    have h2 : D (t.take o ++ 32 :: Z) := h2
    refine D_cut Z (fun h3 h4 => ?_) h2
    have := start_dot h (show ((c :: t).getD 0 0).toNat = 46 from h1) h3 h4
    have e : (c :: t).drop 1 = t := rfl
    rw [e] at this
    omega
theorem skip_idem (r : List UInt8) : ∀ (n : Nat), r.length ≤ n → skipB (r.drop (skipB r)) = 0 := by
  intro n
  induction n generalizing r with
  | zero =>
    intro h
    have : r = [] := List.eq_nil_of_length_eq_zero (by omega)
    subst this; rfl
  | succ n ih =>
    intro h
    cases r with
    | nil => rfl
    | cons c t =>
      simp only [List.length_cons] at h
      by_cases hb : blankB c = true
      · rw [skipB_blank hb, List.drop_succ_cons]; exact ih t (by omega)
      · by_cases hc : c.toNat = 35
        · have h1 := notNl_hash (t := t) hc
          rw [skipB_hash (by simpa using hb) hc, ← List.drop_drop]
          exact ih _ (by rw [List.length_drop, List.length_cons]; omega)
        · rw [skipB_stop (by simpa using hb) hc, List.drop_zero]
          exact skipB_stop (by simpa using hb) hc
theorem skip_head {W X : List UInt8} (hW : W ≠ []) (h : skipB W = 0) : skipB (W ++ X) = 0 := by
  obtain ⟨c, t, rfl⟩ := List.exists_cons_of_ne_nil hW
  by_cases hb : blankB c = true
  · rw [skipB_blank hb] at h; omega
  · by_cases hc : c.toNat = 35
    · have h1 := notNl_hash (t := t) hc
      rw [skipB_hash (by simpa using hb) hc] at h; omega
    · exact skipB_stop (by simpa using hb) hc
/-- What is passed over is passed over, whatever comes behind, if something stood behind. -/
theorem skip_take (X : List UInt8) : ∀ (n : Nat) (r : List UInt8), r.length ≤ n → r.drop (skipB r) ≠ [] → skipB (r.take (skipB r) ++ X) = skipB r + skipB X := by
  intro n
  induction n with
  | zero =>
    intro r h hn
    have : r = [] := List.eq_nil_of_length_eq_zero (by omega)
    subst this; exact absurd rfl hn
  | succ n ih =>
    intro r h hn
    cases r with
    | nil => exact absurd rfl hn
    | cons c t =>
      simp only [List.length_cons] at h
      by_cases hb : blankB c = true
      · rw [skipB_blank hb] at hn ⊢
        rw [List.drop_succ_cons] at hn
        rw [List.take_succ_cons, List.cons_append, skipB_blank hb, ih t (by omega) hn]
        omega
      · by_cases hc : c.toNat = 35
        · have h1 := notNl_hash (t := t) hc
          have h2 := run_le notNl (c :: t)
          have hk := skipB_hash (t := t) (bfalse hb) hc
          rw [hk] at hn ⊢
          rw [← List.drop_drop] at hn
          have ih' := ih ((c :: t).drop (run notNl (c :: t))) (by rw [List.length_drop, List.length_cons]; omega) hn
          rw [List.take_add, List.append_assoc]
          generalize hU : ((c :: t).drop (run notNl (c :: t))).take (skipB ((c :: t).drop (run notNl (c :: t)))) ++ X = U at ih' ⊢
          have hlen : run notNl (c :: t) < (c :: t).length := by
            rcases Nat.lt_or_ge (run notNl (c :: t)) (c :: t).length with h9 | h9
            · exact h9
            · rw [List.drop_eq_nil_of_le h9] at hn; exact absurd rfl hn
          have hU0 : notNl (U.getD 0 0) = false := by
            have h8 := run_outs hlen
            have h3 : ((c :: t).drop (run notNl (c :: t))).getD 0 0 = (c :: t).getD (run notNl (c :: t)) 0 := by rw [getD_drop, Nat.add_zero]
            rw [← h3] at h8
            rw [← hU]
            have h7 : (c :: t).drop (run notNl (c :: t)) ≠ [] := fun h => by have := congrArg List.length h; rw [List.length_drop, List.length_nil] at this; omega
            generalize (c :: t).drop (run notNl (c :: t)) = q at h8 h7 ⊢
            obtain ⟨d, u, rfl⟩ := List.exists_cons_of_ne_nil h7
            have hd : notNl d = false := h8
            have hbd : blankB d = true := by
              simp only [notNl, decide_eq_false_iff_not, Decidable.not_not] at hd
              simp [blankB, hd]
            rw [skipB_blank hbd]
            exact hd
          have hrun : run notNl ((c :: t).take (run notNl (c :: t)) ++ U) = run notNl (c :: t) := by
            rw [run_all (run_take_all notNl (c :: t)) hU0, List.length_take]; omega
          obtain ⟨m, hm⟩ : ∃ m, run notNl (c :: t) = m + 1 := ⟨run notNl (c :: t) - 1, by omega⟩
          have hcons : (c :: t).take (run notNl (c :: t)) ++ U = c :: (t.take m ++ U) := by rw [hm]; rfl
          rw [hcons, skipB_hash (bfalse hb) hc, ← hcons, hrun]
          have hdrop : ((c :: t).take (run notNl (c :: t)) ++ U).drop (run notNl (c :: t)) = U := by
            rw [List.drop_append, List.drop_of_length_le (by rw [List.length_take]; omega), List.length_take, Nat.min_eq_left h2, Nat.sub_self]; rfl
          rw [hdrop, ih']
          omega
        · have h0 := skipB_stop (t := t) (bfalse hb) hc
          rw [h0]; simp
/-- The tokens' kinds and texts hang on no place. -/
theorem toks_place : ∀ (n : Nat) (p : Int × Int) (r : List UInt8) (n' : Nat) (p' : Int × Int), r.length < n → r.length < n' → (toks n p r).2.2 = 0 → ∃ m, toks n' p' r = (m, (0, 0), 0) ∧ sameT false (toks n p r).1 m = true
  | 0, _, _, _, _, h, _, _ => absurd h (by omega)
  | _ + 1, _, _, 0, _, _, h, _ => absurd h (by omega)
  | n + 1, p, r, n' + 1, p', hn, hn', h => by
    by_cases h1 : r.drop (skipB r) = []
    · rw [toks_end h1, toks_end h1]; exact ⟨_, rfl, rfl⟩
    · by_cases he : (nextF (r.drop (skipB r))).e = 0
      · rw [toks_ok (n := n) (p := p) h1 he] at h ⊢
        simp only [] at h ⊢
        have hsz := nextF_size h1 he
        rw [List.length_drop] at hsz
        split at h
        · rename_i h2; exact absurd h h2
        · rename_i h2
          rw [if_neg h2, toks_ok (n := n') (p := p') h1 he]
          obtain ⟨m, hm, hs⟩ := toks_place n _ _ n' (place (place p' (r.take (skipB r))) ((r.drop (skipB r)).take (nextF (r.drop (skipB r))).size)) (by rw [List.length_drop, List.length_drop]; omega) (by rw [List.length_drop, List.length_drop]; omega) h
          rw [hm]
          exact ⟨_, rfl, by rw [sameT, Bool.and_eq_true]; exact ⟨by simp [eqT], hs⟩⟩
      · rw [toks_bad h1 he] at h
        exact absurd h he
theorem between_toks (ins : List UInt8) (hi : ∃ z, ins = 32 :: z) (hk : ∀ t, skipB (ins ++ t) = ins.length + skipB t) : ∀ (n : Nat) (p : Int × Int) (r : List UInt8) (k : Nat), r.length < n → (toks n p r).2.2 = 0 → (hk : k < (toks n p r).1.length) →
    ∃ o, Start r o ∧ place p (r.take o) = (((toks n p r).1[k]'hk).line, ((toks n p r).1[k]'hk).col) ∧ ∀ (n' : Nat) (p' : Int × Int), r.length + ins.length < n' → ∃ m, toks n' p' (r.take o ++ (ins ++ r.drop o)) = (m, (0, 0), 0) ∧ sameT false (toks n p r).1 m = true
  | 0, _, _, _, h, _, _ => absurd h (by omega)
  | n + 1, p, r, k, hn, h, hkl => by
    have hskl := skipB_le _ r (Nat.le_refl _)
    by_cases h1 : r.drop (skipB r) = []
    · exfalso; rw [toks_end h1] at hkl; exact absurd hkl (Nat.not_lt_zero _)
    by_cases he : (nextF (r.drop (skipB r))).e = 0
    rotate_left 1
    · exfalso; rw [toks_bad h1 he] at h; exact absurd h he
    have hsz := nextF_size h1 he
    rw [List.length_drop] at hsz
    have hr1l : (r.drop (skipB r)).length = r.length - skipB r := List.length_drop
    have hsk0 := skip_idem r _ (Nat.le_refl _)
    have ht := toks_ok (n := n) (p := p) h1 he
    simp only [] at ht
    by_cases h2 : (toks n (place (place p (r.take (skipB r))) ((r.drop (skipB r)).take (nextF (r.drop (skipB r))).size)) ((r.drop (skipB r)).drop (nextF (r.drop (skipB r))).size)).2.2 = 0
    rotate_left 1
    · exfalso; rw [ht, if_pos h2] at h; exact absurd h h2
    rw [if_neg (fun h => h h2)] at ht
    simp only [ht] at hkl ⊢
    rcases k with - | k
    · refine ⟨skipB r, .here h1 he, rfl, fun n' p' hn' => ?_⟩
      have hsk : skipB (r.take (skipB r) ++ (ins ++ r.drop (skipB r))) = skipB r + ins.length := by
        rw [skip_take _ _ r (Nat.le_refl _) h1, hk, hsk0]; omega
      have hd : (r.take (skipB r) ++ (ins ++ r.drop (skipB r))).drop (skipB r + ins.length) = r.drop (skipB r) := by
        rw [← List.append_assoc, List.drop_append, List.drop_of_length_le (by rw [List.length_append, List.length_take]; omega), List.length_append, List.length_take, Nat.min_eq_left hskl, Nat.sub_self]; rfl
      obtain ⟨n', rfl⟩ : ∃ m, n' = m + 1 := ⟨n' - 1, by omega⟩
      rw [toks_ok (by rw [hsk, hd]; exact h1) (by rw [hsk, hd]; exact he), hsk, hd]
      simp only []
      obtain ⟨m, hm, hs⟩ := toks_place n _ _ n' (place (place p' ((r.take (skipB r) ++ (ins ++ r.drop (skipB r))).take (skipB r + ins.length))) ((r.drop (skipB r)).take (nextF (r.drop (skipB r))).size)) (by rw [List.length_drop, List.length_drop]; omega) (by rw [List.length_drop, List.length_drop]; omega) h2
      rw [hm]
      exact ⟨_, rfl, by rw [sameT, Bool.and_eq_true]; exact ⟨by simp [eqT], hs⟩⟩
    · have hkl' : k < (toks n (place (place p (r.take (skipB r))) ((r.drop (skipB r)).take (nextF (r.drop (skipB r))).size)) ((r.drop (skipB r)).drop (nextF (r.drop (skipB r))).size)).1.length := by
        simp only [List.length_cons] at hkl; omega
      obtain ⟨o, hst, hpl, hall⟩ := between_toks ins hi hk n _ _ k (by rw [List.length_drop, List.length_drop]; omega) h2 hkl'
      refine ⟨skipB r + (nextF (r.drop (skipB r))).size + o, .later h1 he hst, ?_, fun n' p' hn' => ?_⟩
      · rw [List.take_add, place_append, List.take_add, place_append, ← List.drop_drop, hpl]; rfl
      · have hol := hst.lt
        have hlk := fun Z => like_of hst Z
        generalize hf : (nextF (r.drop (skipB r))).size = f at *
        obtain ⟨z, hz⟩ := hi
        have eT : r.take (skipB r + f + o) ++ (ins ++ r.drop (skipB r + f + o)) = r.take (skipB r) ++ ((r.drop (skipB r)).take f ++ (((r.drop (skipB r)).drop f).take o ++ (ins ++ ((r.drop (skipB r)).drop f).drop o))) := by
          rw [List.take_add, List.take_add, List.append_assoc, List.append_assoc, List.drop_drop, List.drop_drop]
        have hl := hlk (z ++ ((r.drop (skipB r)).drop f).drop o)
        have eX : ((r.drop (skipB r)).drop f).take o ++ 32 :: (z ++ ((r.drop (skipB r)).drop f).drop o) = ((r.drop (skipB r)).drop f).take o ++ (ins ++ ((r.drop (skipB r)).drop f).drop o) := by rw [hz]; rfl
        rw [eX] at hl
        have hU : ∀ U : List UInt8, o < U.length → (U.take o ++ (ins ++ U.drop o)).length = U.length + ins.length := fun U hU => by
          rw [List.length_append, List.length_append, List.length_take, List.length_drop, Nat.min_eq_left (Nat.le_of_lt hU)]; omega
        have hXl := hU _ hol
        generalize ((r.drop (skipB r)).drop f).take o ++ (ins ++ ((r.drop (skipB r)).drop f).drop o) = X at eT hl hXl hall
        have hne : (r.drop (skipB r)).take f ≠ [] := fun h => by have := congrArg List.length h; rw [List.length_take, List.length_nil] at this; omega
        have hnx := local_next h1 he (by rw [hf]; exact hl)
        rw [hf] at hnx
        have hsk1 : skipB ((r.drop (skipB r)).take f ++ X) = 0 := by
          refine skip_head hne ?_
          obtain ⟨c, t, hct⟩ := List.exists_cons_of_ne_nil h1
          obtain ⟨f', rfl⟩ : ∃ m, f = m + 1 := ⟨f - 1, by omega⟩
          rw [hct] at hsk0 ⊢
          rw [List.take_succ_cons]
          by_cases hb : blankB c = true
          · rw [skipB_blank hb] at hsk0; omega
          · by_cases hc : c.toNat = 35
            · have h1 := notNl_hash (t := t) hc
              rw [skipB_hash (by simpa using hb) hc] at hsk0; omega
            · exact skipB_stop (by simpa using hb) hc
        have hsk : skipB (r.take (skipB r) ++ ((r.drop (skipB r)).take f ++ X)) = skipB r := by
          rw [skip_take _ _ r (Nat.le_refl _) h1, hsk1, Nat.add_zero]
        have hd : (r.take (skipB r) ++ ((r.drop (skipB r)).take f ++ X)).drop (skipB r) = (r.drop (skipB r)).take f ++ X := by
          rw [List.drop_append, List.drop_of_length_le (by rw [List.length_take]; omega), List.length_take, Nat.min_eq_left hskl, Nat.sub_self]; rfl
        have hd2 : ((r.drop (skipB r)).take f ++ X).drop f = X := by
          rw [List.drop_append, List.drop_of_length_le (by rw [List.length_take]; omega), List.length_take, List.length_drop, Nat.min_eq_left hsz.2, Nat.sub_self]; rfl
        obtain ⟨n', rfl⟩ : ∃ m, n' = m + 1 := ⟨n' - 1, by omega⟩
        have hne2 : (r.drop (skipB r)).take f ++ X ≠ [] := fun h => hne (List.append_eq_nil_iff.1 h).1
        rw [eT, toks_ok (by rw [hsk, hd]; exact hne2) (by rw [hsk, hd, hnx]; exact he), hsk, hd, hnx, hf, hd2]
        simp only []
        obtain ⟨m, hm, hs⟩ := hall n' (place (place p' ((r.take (skipB r) ++ ((r.drop (skipB r)).take f ++ X)).take (skipB r))) (((r.drop (skipB r)).take f ++ X).take f)) (by rw [List.length_drop, List.length_drop]; omega)
        rw [hm]
        exact ⟨_, rfl, by rw [sameT, Bool.and_eq_true]; exact ⟨by simp [eqT], hs⟩⟩
end Go.Proofs.YtpgnmnacfilnkaaDoor
