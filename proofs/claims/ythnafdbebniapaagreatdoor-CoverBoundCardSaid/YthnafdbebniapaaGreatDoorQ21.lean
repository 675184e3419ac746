/- Walks. -/
import Derived.Test.YthnafdbebniapaaGreatDoorQ20
import Derived.Lib.IndexMore
import Derived.Test.YthnafdbebniapaaGreatDoorQ18
import Derived.Test.YthnafdbebniapaaGreatDoorQ06
import Derived.Test.YthnafdbebniapaaGreatDoorQ19
import Derived.Test.YthnafdbebniapaaGreatDoorQ12
set_option maxHeartbeats 4000000
set_option maxRecDepth 20000
namespace Go.Cv
open Go Go.Wk Go.Un Go.De
set_option linter.unusedSimpArgs false
set_option linter.unusedVariables false
theorem contains_iff (s sub : By) : Lib.contains s sub = true ↔ sub <:+: s := by
  unfold Lib.contains
  rw [decide_eq_true_eq]
  constructor
  · intro h
    rcases Lib.index_spec s sub with ⟨h1, _⟩ | ⟨i, h1, h2, h3, _⟩
    · omega
    · unfold Lib.occAt at h3
      have := List.isPrefixOf_iff_prefix.1 h3
      exact this.isInfix.trans (List.drop_suffix i s).isInfix
  · rintro ⟨a, b, e⟩
    rcases Lib.index_spec s sub with ⟨h1, h2⟩ | ⟨i, h1, _⟩
    · exfalso
      have h3 := h2 a.length (by rw [← e]; simp only [List.length_append]; omega)
      unfold Lib.occAt at h3
      rw [← e, List.append_assoc, List.drop_left] at h3
      rw [List.isPrefixOf_iff_prefix.2 (List.prefix_append _ _)] at h3
      cases h3
    · omega
def lineW : List By → By
  | [] => [32]
  | w :: ws => 32 :: (w ++ lineW ws)
theorem lineW_head : ∀ ws : List By, ∃ r, lineW ws = 32 :: r
  | [] => ⟨[], rfl⟩
  | w :: ws => ⟨_, rfl⟩
theorem pre_eq : ∀ {s w r t : By}, (32 : UInt8) ∉ s → (32 : UInt8) ∉ w → s ++ 32 :: t = w ++ 32 :: r → s = w
  | [], [], _, _, _, _, _ => rfl
  | [], y :: w, r, t, _, hw, e => by cases e; exact absurd (List.mem_cons_self ..) hw
  | x :: s, [], r, t, hs, _, e => by cases e; exact absurd (List.mem_cons_self ..) hs
  | x :: s, y :: w, r, t, hs, hw, e => by
    injection e with e1 e2
    rw [e1, pre_eq (fun h => hs (List.mem_cons_of_mem _ h)) (fun h => hw (List.mem_cons_of_mem _ h)) e2]
theorem in_line {s : By} (hs : (32 : UInt8) ∉ s) (hne : s ≠ []) : ∀ ws : List By, (∀ w ∈ ws, (32 : UInt8) ∉ w) → (((32 :: s) ++ [32]) <:+: lineW ws ↔ s ∈ ws)
  | [], _ => by
    constructor
    · intro h
      have := h.length_le
      simp only [lineW, List.length_append, List.length_cons, List.length_nil] at this
      omega
    · intro h; cases h
  | w :: ws, hw => by
    have ih := in_line hs hne ws fun x hx => hw x (List.mem_cons_of_mem _ hx)
    have hw0 := hw w (List.mem_cons_self ..)
    obtain ⟨r0, hr0⟩ := lineW_head ws
    constructor
    · rintro ⟨a, b, e⟩
      cases a with
      | nil =>
        have e0 : lineW (w :: ws) = 32 :: (w ++ lineW ws) := rfl
        rw [List.nil_append, e0, hr0] at e
        simp only [List.cons_append, List.append_assoc, List.cons.injEq, true_and, List.singleton_append, List.nil_append] at e
        rw [pre_eq hs hw0 e]
        exact List.mem_cons_self ..
      | cons x a =>
        have e2 : a ++ ((32 :: s) ++ [32]) ++ b = w ++ lineW ws := by
          injection e
        refine List.mem_cons_of_mem _ (ih.1 ?_)
        by_cases hl : w.length ≤ a.length
        · refine ⟨a.drop w.length, b, ?_⟩
          have := congrArg (List.drop w.length) e2
          rw [List.drop_left, List.append_assoc, List.drop_append_of_le_length hl] at this
          rw [List.append_assoc]; exact this
        · exfalso
          have h1 : (w ++ lineW ws)[a.length]? = some 32 := by
            rw [← e2, List.append_assoc, List.getElem?_append_right (Nat.le_refl _), Nat.sub_self]; rfl
          rw [List.getElem?_append_left (by omega)] at h1
          exact hw0 (List.mem_of_getElem? h1)
    · intro h
      rcases List.mem_cons.1 h with rfl | h
      · refine ⟨[], r0, ?_⟩
        show _ = 32 :: (s ++ lineW ws)
        rw [hr0]; simp
      · obtain ⟨a, b, e⟩ := ih.2 h
        exact ⟨32 :: w ++ a, b, by show _ = 32 :: (w ++ lineW ws); rw [← e]; simp [List.append_assoc]⟩
def wordsR : List By := [[109, 111, 100, 117, 108, 101], [105, 109, 112, 111, 114, 116], [112, 117, 98], [116, 121, 112, 101], [105, 110, 112, 117, 116], [114, 101, 108], [110, 101, 118, 101, 114], [110, 111, 116], [97, 110, 100], [111, 114], [105, 102], [116, 104, 101, 110], [101, 108, 115, 101], [116, 114, 117, 101], [102, 97, 108, 115, 101], [99, 111, 117, 110, 116], [115, 117, 109], [109, 105, 110], [109, 97, 120], [110, 101, 103], [108, 101, 110], [98, 105, 103], [105, 110, 116], [98, 111, 111, 108], [116, 101, 120, 116], [116, 117, 112, 108, 101]]
def nmS (s : By) : Bool := nameS s && !decide (s ∈ wordsR)
theorem name_no32 {s : By} (h : nameS s = true) : (32 : UInt8) ∉ s := by
  unfold nameS at h
  rw [Bool.and_eq_true, List.all_eq_true] at h
  intro hm
  have := h.2 32 hm
  cases this
theorem name_ne {s : By} (h : nameS s = true) : s ≠ [] := by
  unfold nameS at h
  rw [Bool.and_eq_true] at h
  exact (of_decide_eq_true h.1).1
theorem words_no32 : ∀ w ∈ wordsR, (32 : UInt8) ∉ w := by decide
theorem resvd_iff {s : By} (h : nameS s = true) : Lib.contains (lineW wordsR) ((32 :: s) ++ [32]) = decide (s ∈ wordsR) := by
  rw [Bool.eq_iff_iff, contains_iff, decide_eq_true_eq]
  exact in_line (name_no32 h) (name_ne h) wordsR words_no32
def longS (s : By) : Bool := nmS (cutA s) && (!cutC s || nmS (cutB s))
def varS (s : By) : Bool := decide (s ≠ [] ∧ s.length ≤ 32 ∧ 65 ≤ (s.getD 0 0).toNat ∧ (s.getD 0 0).toNat ≤ 90) && s.all fun c => nameN c.toNat
def zeroV (v : VH × Vf) : Bool := decide (v.1.k = 0 ∧ v.1.n = 0 ∧ v.1.s = [] ∧ v.2.len = 0)
def goodH (h : EH) (n : Nat) : Bool :=
  if h.k = 1 then ((decide (1 ≤ h.v.k ∧ h.v.k ≤ 4) && decide (checkV h.v h.vl = 0)) && decide (n = 0)) && decide (h.nm = [])
  else (if h.k = 2 then varS h.nm && decide (n = 0) else if h.k = 3 then decide (h.nm = []) && decide (n = 0) else if h.k = 4 then decide (h.nm = []) && decide (n ≠ 1 ∧ n ≤ 16) else if h.k = 5 then longS h.nm && decide (n ≤ 8) else false) && zeroV (h.v, h.vl)
def goodL : Ef → Bool
  | .nil => true
  | .cons h L r => (goodH h L.len && goodL L) && goodL r
theorem goodL_cons (h : EH) (L r : Ef) : goodL (.cons h L r) = ((goodH h L.len && goodL L) && goodL r) := rfl
theorem good_lit : ∀ {l : Ef}, goodL l = true → LitOK l
  | .nil, _ => trivial
  | .cons h L r, f => by
    rw [goodL_cons, Bool.and_eq_true, Bool.and_eq_true] at f
    refine ⟨fun h1 => ?_, good_lit f.1.2, good_lit f.2⟩
    have g := f.1.1
    unfold goodH at g
    rw [if_pos h1] at g
    simp only [Bool.and_eq_true, decide_eq_true_eq] at g
    exact g.1.1.1
end Go.Cv
namespace Go.Proofs.YthnafdbebniapaaGreatDoor
open Go Go.Wk Go.Un Go.De Go.Cv
set_option linter.unusedSimpArgs false
set_option linter.unusedVariables false
attribute [local irreducible] Go.wpList Go.Code.wp Go.wpStill Go.Wk.wpPre Go.bodyPost Go.Calls Go.Wk.Ct Go.Wk.OwnS
attribute [local irreducible] Go.Wk.wpG Go.Wk.wpM
def MaxF (F : Heap) : Prop := ∃ m : Int, Cel F 1 0 (.int .i64 m)
theorem MaxF.mono {F F' : Heap} (h : MaxF F) (hF : ∀ b o, F b = some o → F' b = some o) : MaxF F' := by obtain ⟨m, h⟩ := h; exact ⟨m, Cel.mono hF h⟩
theorem tcontCt (F : Heap) (hM : MaxF F) (s t : List UInt8) (hs : s.length ≤ 1000000) : Ct Tryz.prog 203 [.string (bs s), .string (bs t)] F [] (fun _ _ u => u = .bool (Lib.contains s t)) := by
  obtain ⟨m, c, e, f, h3, h4⟩ := hM
  refine ct_of_below fun w hw => ?_
  refine (Tryz.strings_Contains (bs s) (bs t) m w (by rw [bs_size]; omega) (cell_of_heap (hw.frz _ _ h3) h4)).mono fun e w' ⟨h1, h2⟩ => ⟨?_, ?_⟩
  · rw [h1]; rfl
  · rw [h2]; exact RowKit.Below.refl _ _
def restS (s : List UInt8) : Bool := s.all (fun c => nameN c.toNat) && decide (s.length ≤ 32)
theorem rest_no {s : List UInt8} {k : Nat} (hk : k < s.length) (h : nameN (s.getD k 0).toNat = false) : restS s = false := by
  unfold restS
  rw [Bool.and_eq_false_iff]
  left
  rw [List.all_eq_false]
  refine ⟨s[k], List.getElem_mem hk, ?_⟩
  rw [List.getD_eq_getElem?_getD, List.getElem?_eq_getElem hk] at h
  simpa using h
theorem rest_end {s : List UInt8} (h2 : ∀ j, j < s.length → nameN (s.getD j 0).toNat = true) : restS s = decide (s.length ≤ 32) := by
  unfold restS
  have : s.all (fun c => nameN c.toNat) = true := by
    rw [List.all_eq_true]
    intro c hc
    obtain ⟨j, hj, rfl⟩ := List.mem_iff_getElem.1 hc
    have := h2 j hj
    rwa [List.getD_eq_getElem?_getD, List.getElem?_eq_getElem hj] at this
  rw [this, Bool.true_and]
theorem zzTr0 {p : Prop} (h : p := by (congr 1; first | (exact (rest_no (k := k) (by omega) (decide_eq_false (by omega))).symm) | (rw [rest_end (fun j hj => hall j (by omega))]; exact decide_eq_decide.2 (by omega)) | trace_state)) : p := h
theorem zzTr1 {p : Prop} (h : p := by (refine ⟨s.length - (k + 1), by omega, k + 1, rfl, by omega, ?_, ?_⟩; rotate_left 1; (refine S.keep ?_; exact zk); intro j hj; rcases Nat.lt_or_eq_of_le (Nat.le_of_lt_succ hj) with h6 | h6; exact hall j h6; subst h6; exact decide_eq_true (by omega))) : p := h
theorem restCt (F : Heap) (s : List UInt8) (hs : s.length ≤ 140737488355328) : Ct Tryz.prog 202 [.string (bs s)] F [] (fun _ _ u => u = .bool (restS s)) := by
 refine Ct.enter Tryz.func202 rfl Tryz.ntmps202 rfl fun w0 a S => ?_
 (revert S a; refine go01 12 ?_; intro Z hZ a S)
 refine wpc_loop (fun m a w' => ∃ (k : Nat), m = s.length - k ∧ k ≤ s.length ∧ (∀ j, j < k → nameN (s.getD j 0).toNat = true) ∧ St 44 [(0, .string (bs s)), (6, .int .i64 s.length), (7, .int .i64 k)] w0 F [] F [] a w') ?_ ?_
 ·(refine ⟨s.length, 0, by omega, Nat.zero_le _, fun j h => absurd h (Nat.not_lt_zero _), ?_⟩; refine S.keep ?_; exact zk)
 (clear S; rintro m a w ⟨k, rfl, hkl, hall, S⟩)
 (revert S a; refine go01 5 ?_; intro Z hZ a S)
 refine wpc_sp S rfl ?_ ?_ <;> intro h
 ·(revert S a; revert hZ Z; refine go12 12 ?_; intro Z hZ Z hZ a S)
  first | (refine wpl_v S rfl rfl rfl (sv_indexSN S rfl rfl rfl (by first | omega | (simp only [List.length_append, List.length_cons, List.length_nil]; omega))) ?_; clear S a; intro a S) | (refine wpl_v S rfl rfl rfl (sv_indexS S rfl rfl rfl (by first | omega | (simp only [List.length_append, List.length_cons, List.length_nil]; omega))) ?_; clear S a; intro a S)
  (revert S a; revert hZ Z; refine go11 7 ?_; intro Z hZ a S)
  refine wpl_guard S rfl rfl rfl rfl rfl ?_ ?_
  ·(clear S; intro h S; (try simp only [tq] at h))
   (revert S a; refine go00 5 ?_; intro a S)
   refine wpl_guard S rfl rfl rfl rfl rfl ?_ ?_
   ·(clear S; intro h S; (try simp only [tq] at h))
    (revert S a; refine go00 5 ?_; intro a S)
    refine wpl_guard S rfl rfl rfl rfl rfl ?_ ?_
    ·(clear S; intro h S; (try simp only [tq] at h))
     (revert S a; refine go00 7 ?_; intro a S)
     refine wpl_guard S rfl rfl rfl rfl rfl ?_ ?_
     ·(clear S; intro h S; (try simp only [tq] at h))
      (revert S a; refine go00 5 ?_; intro a S)
      refine wpl_guard S rfl rfl rfl rfl rfl ?_ ?_
      ·(clear S; intro h S; (try simp only [tq] at h))
       (revert S a; refine go00 7 ?_; intro a S)
       refine wpl_guard S rfl rfl rfl rfl rfl ?_ ?_
       ·(clear S; intro h S; (try simp only [tq] at h))
        (revert S a; revert hZ Z; refine go10 7 ?_; intro a S)
        refine wpc_sp S rfl ?_ ?_ <;> intro h
        ·(revert S a; refine go00 4 ?_; intro a S)
         refine wp_ret (fr1 S Tryz.results202 ?_)
         exact zzTr0
        (revert S a; revert hZ Z; refine go10 6 ?_; intro a S)
        change ∃ m', _ ∧ _
        exact zzTr1
       (intro h; clear S a; intro a S; (try simp only [tq] at h))
       (revert S a; revert hZ Z; refine go10 5 ?_; intro a S)
       refine wpc_false S rfl ?_
       (revert S a; revert hZ Z; refine go10 6 ?_; intro a S)
       change ∃ m', _ ∧ _
       exact zzTr1
      (intro h; clear S a; intro a S; (try simp only [tq] at h))
      (revert S a; revert hZ Z; refine go10 13 ?_; intro a S)
      refine wpc_sp S rfl ?_ ?_ <;> intro h
      ·(revert S a; refine go00 4 ?_; intro a S)
       refine wp_ret (fr1 S Tryz.results202 ?_)
       exact zzTr0
      (revert S a; revert hZ Z; refine go10 6 ?_; intro a S)
      change ∃ m', _ ∧ _
      exact zzTr1
     (intro h; clear S a; intro a S; (try simp only [tq] at h))
     (revert S a; refine go00 2 ?_; intro a S)
     iterate 2 (refine wpl_skipU S rfl rfl rfl rfl rfl ?_; clear S a; intro a S)
     (revert S a; revert hZ Z; refine go10 9 ?_; intro a S)
     refine wpc_false S rfl ?_
     (revert S a; revert hZ Z; refine go10 6 ?_; intro a S)
     change ∃ m', _ ∧ _
     exact zzTr1
    (intro h; clear S a; intro a S; (try simp only [tq] at h))
    (revert S a; refine go00 11 ?_; intro a S)
    refine wpl_guard S rfl rfl rfl rfl rfl ?_ ?_
    ·(clear S; intro h S; (try simp only [tq] at h))
     (revert S a; refine go00 7 ?_; intro a S)
     refine wpl_guard S rfl rfl rfl rfl rfl ?_ ?_
     ·(clear S; intro h S; (try simp only [tq] at h))
      (revert S a; revert hZ Z; refine go10 7 ?_; intro a S)
      refine wpc_sp S rfl ?_ ?_ <;> intro h
      ·(revert S a; refine go00 4 ?_; intro a S)
       refine wp_ret (fr1 S Tryz.results202 ?_)
       exact zzTr0
      (revert S a; revert hZ Z; refine go10 6 ?_; intro a S)
      change ∃ m', _ ∧ _
      exact zzTr1
     (intro h; clear S a; intro a S; (try simp only [tq] at h))
     (revert S a; revert hZ Z; refine go10 5 ?_; intro a S)
     refine wpc_false S rfl ?_
     (revert S a; revert hZ Z; refine go10 6 ?_; intro a S)
     change ∃ m', _ ∧ _
     exact zzTr1
    (intro h; clear S a; intro a S; (try simp only [tq] at h))
    (revert S a; revert hZ Z; refine go10 13 ?_; intro a S)
    refine wpc_sp S rfl ?_ ?_ <;> intro h
    ·(revert S a; refine go00 4 ?_; intro a S)
     refine wp_ret (fr1 S Tryz.results202 ?_)
     exact zzTr0
    (revert S a; revert hZ Z; refine go10 6 ?_; intro a S)
    change ∃ m', _ ∧ _
    exact zzTr1
   (intro h; clear S a; intro a S; (try simp only [tq] at h))
   (revert S a; refine go00 2 ?_; intro a S)
   iterate 2 (refine wpl_skipU S rfl rfl rfl rfl rfl ?_; clear S a; intro a S)
   (revert S a; refine go00 6 ?_; intro a S)
   iterate 2 (refine wpl_skipU S rfl rfl rfl rfl rfl ?_; clear S a; intro a S)
   (revert S a; revert hZ Z; refine go10 9 ?_; intro a S)
   refine wpc_false S rfl ?_
   (revert S a; revert hZ Z; refine go10 6 ?_; intro a S)
   change ∃ m', _ ∧ _
   exact zzTr1
  (intro h; clear S a; intro a S; (try simp only [tq] at h))
  (revert S a; refine go00 9 ?_; intro a S)
  refine wpl_guard S rfl rfl rfl rfl rfl ?_ ?_
  ·(clear S; intro h S; (try simp only [tq] at h))
   (revert S a; refine go00 7 ?_; intro a S)
   refine wpl_guard S rfl rfl rfl rfl rfl ?_ ?_
   ·(clear S; intro h S; (try simp only [tq] at h))
    (revert S a; refine go00 5 ?_; intro a S)
    refine wpl_guard S rfl rfl rfl rfl rfl ?_ ?_
    ·(clear S; intro h S; (try simp only [tq] at h))
     (revert S a; refine go00 7 ?_; intro a S)
     refine wpl_guard S rfl rfl rfl rfl rfl ?_ ?_
     ·(clear S; intro h S; (try simp only [tq] at h))
      (revert S a; revert hZ Z; refine go10 7 ?_; intro a S)
      refine wpc_sp S rfl ?_ ?_ <;> intro h
      ·(revert S a; refine go00 4 ?_; intro a S)
       refine wp_ret (fr1 S Tryz.results202 ?_)
       exact zzTr0
      (revert S a; revert hZ Z; refine go10 6 ?_; intro a S)
      change ∃ m', _ ∧ _
      exact zzTr1
     (intro h; clear S a; intro a S; (try simp only [tq] at h))
     (revert S a; revert hZ Z; refine go10 5 ?_; intro a S)
     refine wpc_false S rfl ?_
     (revert S a; revert hZ Z; refine go10 6 ?_; intro a S)
     change ∃ m', _ ∧ _
     exact zzTr1
    (intro h; clear S a; intro a S; (try simp only [tq] at h))
    (revert S a; revert hZ Z; refine go10 13 ?_; intro a S)
    refine wpc_sp S rfl ?_ ?_ <;> intro h
    ·(revert S a; refine go00 4 ?_; intro a S)
     refine wp_ret (fr1 S Tryz.results202 ?_)
     exact zzTr0
    (revert S a; revert hZ Z; refine go10 6 ?_; intro a S)
    change ∃ m', _ ∧ _
    exact zzTr1
   (intro h; clear S a; intro a S; (try simp only [tq] at h))
   (revert S a; refine go00 2 ?_; intro a S)
   iterate 2 (refine wpl_skipU S rfl rfl rfl rfl rfl ?_; clear S a; intro a S)
   (revert S a; revert hZ Z; refine go10 9 ?_; intro a S)
   refine wpc_false S rfl ?_
   (revert S a; revert hZ Z; refine go10 6 ?_; intro a S)
   change ∃ m', _ ∧ _
   exact zzTr1
  (intro h; clear S a; intro a S; (try simp only [tq] at h))
  (revert S a; refine go00 11 ?_; intro a S)
  refine wpl_guard S rfl rfl rfl rfl rfl ?_ ?_
  ·(clear S; intro h S; (try simp only [tq] at h))
   (revert S a; refine go00 7 ?_; intro a S)
   refine wpl_guard S rfl rfl rfl rfl rfl ?_ ?_
   ·(clear S; intro h S; (try simp only [tq] at h))
    (revert S a; revert hZ Z; refine go10 7 ?_; intro a S)
    refine wpc_sp S rfl ?_ ?_ <;> intro h
    ·(revert S a; refine go00 4 ?_; intro a S)
     refine wp_ret (fr1 S Tryz.results202 ?_)
     exact zzTr0
    (revert S a; revert hZ Z; refine go10 6 ?_; intro a S)
    change ∃ m', _ ∧ _
    exact zzTr1
   (intro h; clear S a; intro a S; (try simp only [tq] at h))
   (revert S a; revert hZ Z; refine go10 5 ?_; intro a S)
   refine wpc_false S rfl ?_
   (revert S a; revert hZ Z; refine go10 6 ?_; intro a S)
   change ∃ m', _ ∧ _
   exact zzTr1
  (intro h; clear S a; intro a S; (try simp only [tq] at h))
  (revert S a; revert hZ Z; refine go10 13 ?_; intro a S)
  refine wpc_sp S rfl ?_ ?_ <;> intro h
  ·(revert S a; refine go00 4 ?_; intro a S)
   refine wp_ret (fr1 S Tryz.results202 ?_)
   exact zzTr0
  (revert S a; revert hZ Z; refine go10 6 ?_; intro a S)
  change ∃ m', _ ∧ _
  exact zzTr1
 (refine wp_exit ?_; conv => whnf)
 clear hZ Z
 (revert S a; revert hZ Z; refine go10 8 ?_; intro a S)
 refine wp_ret (fr1 S Tryz.results202 ?_)
 exact zzTr0
theorem tname_no {s : List UInt8} (h : ¬ (s ≠ [] ∧ 97 ≤ (s.getD 0 0).toNat ∧ (s.getD 0 0).toNat ≤ 122)) : nmS s = false := by
  unfold nmS nameS
  rw [decide_eq_false (fun h9 => h ⟨h9.1, h9.2.2⟩)]; rfl
theorem tname_r {s : List UInt8} (h : restS s = false) : nmS s = false := by
  unfold nmS
  have : nameS s = false := by
    unfold restS at h
    unfold nameS
    rw [Bool.and_eq_false_iff] at h ⊢
    rcases h with h | h
    · exact .inr h
    · exact .inl (decide_eq_false fun h9 => absurd h9.2.1 (of_decide_eq_false h))
  rw [this]; rfl
theorem tname_c {s : List UInt8} (h1 : s ≠ []) (h2 : 97 ≤ (s.getD 0 0).toNat) (h3 : (s.getD 0 0).toNat ≤ 122) (h : restS s = true) : nmS s = !Lib.contains (lineW wordsR) ((32 :: s) ++ [32]) := by
  have hn : nameS s = true := by
    unfold restS at h
    rw [Bool.and_eq_true] at h
    unfold nameS
    rw [h.1, decide_eq_true ⟨h1, of_decide_eq_true h.2, h2, h3⟩]; rfl
  unfold nmS
  rw [hn, Bool.true_and, resvd_iff hn]
theorem zzTr2 {p : Prop} (h : p := by (congr 1; first | (exact (tname_c (by assumption) (by omega) (by omega) (by assumption)).symm) | (exact (tname_r (by assumption)).symm) | (exact (tname_no (by rintro ⟨h1, h2, h3⟩; first | omega | exact h1 (by assumption))).symm) | trace_state)) : p := h
theorem tnameCt (F : Heap) (hM : MaxF F) (s : List UInt8) (hs : s.length ≤ 140737488355328) : Ct Tryz.prog 156 [.string (bs s)] F [] (fun _ _ u => u = .bool (nmS s)) := by
 refine Ct.enter Tryz.func156 rfl Tryz.ntmps156 rfl fun w0 a S => ?_
 (revert S a; refine go01 8 ?_; intro Z hZ a S)
 refine wpl_guard S rfl rfl rfl rfl rfl ?_ ?_
 ·(clear S; intro h S; (try simp only [tq] at h))
  (revert S a; refine go00 2 ?_; intro a S)
  (refine wpl_v S rfl rfl rfl (sv_indexSN (i := 0) S rfl rfl rfl (by first | omega | (simp only [List.length_append, List.length_cons, List.length_nil]; omega) | (have h9 : 0 < s.length := List.length_pos_iff.2 (by assumption); omega))) ?_; clear S a; intro a S)
  (revert S a; refine go00 4 ?_; intro a S)
  refine wpl_guard S rfl rfl rfl rfl rfl ?_ ?_
  ·(clear S; intro h S; (try simp only [tq] at h))
   (revert S a; refine go00 2 ?_; intro a S)
   (refine wpl_v S rfl rfl rfl (sv_indexSN (i := 0) S rfl rfl rfl (by first | omega | (simp only [List.length_append, List.length_cons, List.length_nil]; omega) | (have h9 : 0 < s.length := List.length_pos_iff.2 (by assumption); omega))) ?_; clear S a; intro a S)
   (revert S a; refine go00 4 ?_; intro a S)
   refine wpl_guard S rfl rfl rfl rfl rfl ?_ ?_
   ·(clear S; intro h S; (try simp only [tq] at h))
    (revert S a; refine go00 2 ?_; intro a S)
    (refine wpl_call0 S rfl rfl rfl rfl rfl rfl (restCt F s hs) rfl ?_; clear S a; intro v a w hv S; subst hv)
    (revert S a; refine go00 2 ?_; intro a S)
    refine wpl_guard S rfl rfl rfl rfl rfl ?_ ?_
    ·(clear S; intro h S; (try simp only [tq] at h))
     (revert S a; refine go00 2 ?_; intro a S)
     (refine wpl_v S rfl rfl rfl (sv_cat S rfl rfl rfl (by first | omega | (simp only [List.length_append, List.length_cons, List.length_nil]; omega) | (have h9 : 0 < s.length := List.length_pos_iff.2 (by assumption); omega))) ?_; clear S a; intro a S)
     refine wpl_take S rfl rfl rfl ?_
     (refine wpl_v S rfl rfl rfl (sv_cat S rfl rfl rfl (by first | omega | (simp only [List.length_append, List.length_cons, List.length_nil]; omega) | (have h9 : 0 < s.length := List.length_pos_iff.2 (by assumption); omega))) ?_; clear S a; intro a S)
     refine wpl_take S rfl rfl rfl ?_
     (refine wpl_call0 S rfl rfl rfl rfl rfl rfl (tcontCt F hM (lineW wordsR) ((32 :: s) ++ [32]) (by decide)) rfl ?_; clear S a; intro v a w hv S; subst hv)
     (revert S a; revert hZ Z; refine go10 6 ?_; intro a S)
     refine wp_ret (fr1 S Tryz.results156 ?_)
     exact zzTr2
    (intro h; clear S a; intro a S; (try simp only [tq] at h))
    (revert S a; revert hZ Z; refine go10 8 ?_; intro a S)
    refine wp_ret (fr1 S Tryz.results156 ?_)
    exact zzTr2
   (intro h; clear S a; intro a S; (try simp only [tq] at h))
   (revert S a; revert hZ Z; refine go10 12 ?_; intro a S)
   refine wp_ret (fr1 S Tryz.results156 ?_)
   exact zzTr2
  (intro h; clear S a; intro a S; (try simp only [tq] at h))
  (revert S a; revert hZ Z; refine go10 17 ?_; intro a S)
  refine wp_ret (fr1 S Tryz.results156 ?_)
  exact zzTr2
 (intro h; clear S a; intro a S; (try simp only [tq] at h))
 (revert S a; revert hZ Z; refine go10 22 ?_; intro a S)
 refine wp_ret (fr1 S Tryz.results156 ?_)
 exact zzTr2
theorem tlongCt (F : Heap) (hM : MaxF F) (s : List UInt8) (hs : s.length ≤ 140737488355328) : Ct Tryz.prog 154 [.string (bs s)] F [] (fun _ _ u => u = .bool (longS s)) := by
 have hA : (cutA s).length ≤ 140737488355328 := by unfold cutA; split; simp; omega; omega
 have hB : (cutB s).length ≤ 140737488355328 := by unfold cutB; split; simp; omega; simp
 refine Ct.enter Tryz.func154 rfl Tryz.ntmps154 rfl fun w0 a S => ?_
 (revert S a; refine go01 6 ?_; intro Z hZ a S)
 (refine wpl_call0 S rfl rfl rfl rfl rfl rfl (cutCt F s hs) rfl ?_; clear S a; intro v a w hv S; subst hv)
 (revert S a; revert hZ Z; refine go11 11 ?_; intro Z hZ a S)
 (refine wpl_call0 S rfl rfl rfl rfl rfl rfl (tnameCt F hM (cutA s) hA) rfl ?_; clear S a; intro v a w hv S; subst hv)
 (revert S a; refine go00 1 ?_; intro a S)
 refine wpl_guard S rfl rfl rfl rfl rfl ?_ ?_
 ·(clear S; intro h S; (try simp only [tq] at h))
  (revert S a; refine go00 5 ?_; intro a S)
  refine wpl_guard S rfl rfl rfl rfl rfl ?_ ?_
  ·(clear S; intro h S; (try simp only [tq] at h))
   (revert S a; refine go00 2 ?_; intro a S)
   (refine wpl_call0 S rfl rfl rfl rfl rfl rfl (tnameCt F hM (cutB s) hB) rfl ?_; clear S a; intro v a w hv S; subst hv)
   (revert S a; revert hZ Z; refine go10 6 ?_; intro a S)
   refine wp_ret (fr1 S Tryz.results154 ?_)
   (congr 1; unfold longS; simp_all)
  (intro h; clear S a; intro a S; (try simp only [tq] at h))
  (revert S a; revert hZ Z; refine go10 7 ?_; intro a S)
  refine wp_ret (fr1 S Tryz.results154 ?_)
  (congr 1; unfold longS; simp_all)
 (intro h; clear S a; intro a S; (try simp only [tq] at h))
 (revert S a; refine go00 2 ?_; intro a S)
 iterate 2 (refine wpl_skipU S rfl rfl rfl rfl rfl ?_; clear S a; intro a S)
 (revert S a; revert hZ Z; refine go10 5 ?_; intro a S)
 refine wp_ret (fr1 S Tryz.results154 ?_)
 (congr 1; unfold longS; simp_all)
theorem var_no {s : List UInt8} (h : ¬ (s ≠ [] ∧ 65 ≤ (s.getD 0 0).toNat ∧ (s.getD 0 0).toNat ≤ 90)) : varS s = false := by
  unfold varS
  rw [decide_eq_false (fun h9 => h ⟨h9.1, h9.2.2⟩)]; rfl
theorem var_r {s : List UInt8} (h1 : s ≠ []) (h2 : 65 ≤ (s.getD 0 0).toNat) (h3 : (s.getD 0 0).toNat ≤ 90) : varS s = restS s := by
  unfold varS restS
  by_cases h : s.length ≤ 32
  · rw [decide_eq_true ⟨h1, h, h2, h3⟩, decide_eq_true h, Bool.true_and, Bool.and_true]
  · rw [decide_eq_false (fun h9 => h h9.2.1), decide_eq_false h, Bool.false_and, Bool.and_false]
theorem zzTr3 {p : Prop} (h : p := by (congr 1; first | (exact (var_r (by assumption) (by omega) (by omega)).symm) | (exact (var_no (by rintro ⟨h1, h2, h3⟩; first | omega | exact h1 (by assumption))).symm) | trace_state)) : p := h
theorem tvarCt (F : Heap) (s : List UInt8) (hs : s.length ≤ 140737488355328) : Ct Tryz.prog 153 [.string (bs s)] F [] (fun _ _ u => u = .bool (varS s)) := by
 refine Ct.enter Tryz.func153 rfl Tryz.ntmps153 rfl fun w0 a S => ?_
 (revert S a; refine go01 8 ?_; intro Z hZ a S)
 refine wpl_guard S rfl rfl rfl rfl rfl ?_ ?_
 ·(clear S; intro h S; (try simp only [tq] at h))
  (revert S a; refine go00 2 ?_; intro a S)
  (refine wpl_v S rfl rfl rfl (sv_indexSN (i := 0) S rfl rfl rfl (by first | omega | (have h9 : 0 < s.length := List.length_pos_iff.2 (by assumption); omega))) ?_; clear S a; intro a S)
  (revert S a; refine go00 4 ?_; intro a S)
  refine wpl_guard S rfl rfl rfl rfl rfl ?_ ?_
  ·(clear S; intro h S; (try simp only [tq] at h))
   (revert S a; refine go00 2 ?_; intro a S)
   (refine wpl_v S rfl rfl rfl (sv_indexSN (i := 0) S rfl rfl rfl (by first | omega | (have h9 : 0 < s.length := List.length_pos_iff.2 (by assumption); omega))) ?_; clear S a; intro a S)
   (revert S a; refine go00 4 ?_; intro a S)
   refine wpl_guard S rfl rfl rfl rfl rfl ?_ ?_
   ·(clear S; intro h S; (try simp only [tq] at h))
    (revert S a; refine go00 2 ?_; intro a S)
    (refine wpl_call0 S rfl rfl rfl rfl rfl rfl (restCt F s hs) rfl ?_; clear S a; intro v a w hv S; subst hv)
    (revert S a; revert hZ Z; refine go10 4 ?_; intro a S)
    refine wp_ret (fr1 S Tryz.results153 ?_)
    exact zzTr3
   (intro h; clear S a; intro a S; (try simp only [tq] at h))
   (revert S a; revert hZ Z; refine go10 5 ?_; intro a S)
   refine wp_ret (fr1 S Tryz.results153 ?_)
   exact zzTr3
  (intro h; clear S a; intro a S; (try simp only [tq] at h))
  (revert S a; revert hZ Z; refine go10 10 ?_; intro a S)
  refine wp_ret (fr1 S Tryz.results153 ?_)
  exact zzTr3
 (intro h; clear S a; intro a S; (try simp only [tq] at h))
 (revert S a; revert hZ Z; refine go10 15 ?_; intro a S)
 refine wp_ret (fr1 S Tryz.results153 ?_)
 exact zzTr3
theorem tzeroCt (F : Heap) (h : VH) (L : Vf) (cs : List Value) (hV : VaC F cs h L) : Ct Tryz.prog 157 [.agg ⟨cs⟩] F [] (fun _ _ u => u = .bool (zeroV (h, L))) := by
 obtain ⟨v, rfl, ⟨ao, cap, rfl, hcap, -⟩, -⟩ := hV
 refine Ct.enter Tryz.func157 rfl Tryz.ntmps157 rfl fun w0 a S => ?_
 refine wp_sr fun Z hZ => ?_
 (refine wpl_box S rfl rfl rfl rfl rfl ?_; clear S a; intro b1 a w S)
 (revert S a; revert hZ Z; refine go11 8 ?_; intro Z hZ a S)
 refine wpl_guard S rfl rfl rfl rfl rfl ?_ ?_
 ·(clear S; intro h S; (try simp only [tq] at h))
  (revert S a; refine go00 7 ?_; intro a S)
  refine wpl_guard S rfl rfl rfl rfl rfl ?_ ?_
  ·(clear S; intro h S; (try simp only [tq] at h))
   (revert S a; refine go00 7 ?_; intro a S)
   refine wpl_guard S rfl rfl rfl rfl rfl ?_ ?_
   ·(clear S; intro h S; (try simp only [tq] at h))
    (revert S a; revert hZ Z; refine go10 11 ?_; intro a S)
    refine wp_ret (fr1 S Tryz.results157 ?_)
    (congr 1; unfold zeroV; rw [Bool.eq_iff_iff]; simp_all; done)
   (intro h; clear S a; intro a S; (try simp only [tq] at h))
   (revert S a; revert hZ Z; refine go10 7 ?_; intro a S)
   refine wp_ret (fr1 S Tryz.results157 ?_)
   (congr 1; unfold zeroV; rw [Bool.eq_iff_iff]; simp_all; done)
  (intro h; clear S a; intro a S; (try simp only [tq] at h))
  (revert S a; revert hZ Z; refine go10 12 ?_; intro a S)
  refine wp_ret (fr1 S Tryz.results157 ?_)
  (congr 1; unfold zeroV; rw [Bool.eq_iff_iff]; simp_all; done)
 (intro h; clear S a; intro a S; (try simp only [tq] at h))
 (revert S a; revert hZ Z; refine go10 17 ?_; intro a S)
 refine wp_ret (fr1 S Tryz.results157 ?_)
 (congr 1; unfold zeroV; rw [Bool.eq_iff_iff]; simp_all; done)
end Go.Proofs.YthnafdbebniapaaGreatDoor
namespace Go.Wk
open Go
set_option linter.unusedVariables false
set_option linter.unusedSimpArgs false
section
variable {P : Program} {n : Sz} {L : List (Nat × Value)} {w0 : World} {F0 : Heap} {K0 : List Nat} {F : Heap} {G : List Grp} {a : Act} {w : World} {o : Oper}
theorem sv_addW {x y : Operand} {k : IntKind} {p q : Int} {t yt : TypeId} (S : St n L w0 F0 K0 F G a w) (ho : o.op = .binOp .add t x y yt) (hx : ev L x = some (.int k p)) (hy : ev L y = some (.int k q)) : SV P o a w (.int k (k.wrap (p + q))) :=
  run_intOp S ho hx hy (by simp [binOp, Op.intArith])
theorem sv_gtrS {x y : Operand} {s u : List UInt8} {t yt : TypeId} (S : St n L w0 F0 K0 F G a w) (ho : o.op = .binOp .gtr t x y yt) (hx : ev L x = some (.string (bs s))) (hy : ev L y = some (.string (bs u))) : SV P o a w (.bool (!Op.bytesLess s u && !(s == u))) := by
  have h1 : (eqGuard .gtr t x y (.string (bs s)) (.string (bs u))).run P w = .ok () w := by unfold eqGuard; rfl
  unfold SV execOp
  rw [ho]
  simp [S.fr.eval hx, S.fr.eval hy, h1, binOp, Op.stringOp, bs_toList]
end
end Go.Wk
namespace Go.Proofs.YthnafdbebniapaaGreatDoor
open Go Go.Wk Go.Un Go.De Go.Cv
set_option linter.unusedSimpArgs false
set_option linter.unusedVariables false
attribute [local irreducible] Go.wpList Go.Code.wp Go.wpStill Go.Wk.wpPre Go.bodyPost Go.Calls Go.Wk.Ct Go.Wk.OwnS
attribute [local irreducible] Go.Wk.wpG Go.Wk.wpM
def PxC (F : Heap) (cs : List Value) (h : EH) (L : Ef) : Prop := ∃ a1 n1 c1 ao cap, cs = [.int .u8 (h.k : Int), .int .i64 h.l, .int .i64 h.c, .string (bs h.nm), .int .u8 (h.v.k : Int), .int .i64 h.v.n, .string (bs h.v.s), .slice a1 n1 c1, .slice ao L.len cap] ∧ TrS F 4 VhR (.slice a1 n1 c1) h.vl ∧ TrS F 9 EhR (.slice ao L.len cap) L
theorem PxC.mono {F F' : Heap} {cs : List Value} {h : EH} {L : Ef} (hF : ∀ b o, F b = some o → F' b = some o) (hv : PxC F cs h L) : PxC F' cs h L := by
  obtain ⟨a1, n1, c1, ao, cap, h1, h2, h3⟩ := hv
  exact ⟨a1, n1, c1, ao, cap, h1, h2.mono hF, h3.mono hF⟩
theorem pxc_of {F : Heap} {c1 : List Value} {u : Value} {x : EH × Ef} (hR : EhR F x.1 c1) (hT : TrS F 9 EhR u x.2) : PxC F (c1 ++ [u]) x.1 x.2 := by
  obtain ⟨w, rfl, h2⟩ := hR
  have h2c := h2
  have h3c := hT
  obtain ⟨a1, c1, rfl, -⟩ := h2c
  obtain ⟨ao, cap, rfl, -⟩ := h3c
  exact ⟨a1, _, c1, ao, cap, rfl, h2, hT⟩
def BndH (h : EH) : Prop := h.nm.length ≤ 140737488355328 ∧ h.v.s.length ≤ 140737488355328
def BndL : Ef → Prop
  | .nil => True
  | .cons h L r => BndH h ∧ BndL L ∧ BndL r
theorem BndL.get : ∀ {l : Ef} {k : Nat} {x : EH × Ef}, BndL l → l.get? k = some x → BndH x.1 ∧ BndL x.2
  | .cons h L r, 0, x, f, e => by cases e; exact ⟨f.1, f.2.1⟩
  | .cons h L r, k + 1, x, f, e => BndL.get (l := r) f.2.2 e
def allR (p : EH → Ef → Bool) (L : Ef) : Bool := !anyR (fun h L => !p h L) L
theorem allR_good : ∀ L : Ef, allR (fun h L => goodH h L.len && goodL L) L = goodL L
  | .nil => rfl
  | .cons h L r => by
    have ih := allR_good r
    unfold allR at ih ⊢
    show (!(!(goodH h L.len && goodL L) || anyR _ r)) = _
    rw [Bool.not_or, Bool.not_not, ih]; rfl
theorem all1Ct (F : Heap) (fid : FuncId) [hfn : HasFn Tryz.prog fid] (fi ca : List Value) (bc : Nat) (hbc : Cel F bc 0 (.func (.func fid) ⟨fi⟩ ⟨ca⟩)) (b : Bool) (cs : List Value) (h : EH) (L : Ef) (hX : PxC F cs h L)
    (hc : Ct Tryz.prog fid (fi ++ [.agg ⟨cs⟩] ++ ca) F [] (fun _ _ u => u = .bool b)) : Ct Tryz.prog 205 ([] ++ [.agg ⟨cs⟩] ++ [.pointer (some ⟨bc, 0, none⟩)]) F [] (fun _ _ u => u = .bool (!b)) := by
 obtain ⟨a1, n1, c1, ao, cap, rfl, -, -⟩ := hX
 refine Ct.enter Tryz.func205 rfl Tryz.ntmps205 rfl fun w0 a S => ?_
 refine wp_sr fun Z hZ => ?_
 (refine wpl_box S rfl rfl rfl rfl rfl ?_; clear S a; intro b2 a w S)
 (revert S a; revert hZ Z; refine go11 4 ?_; intro Z hZ a S)
 (refine wpl_v S rfl rfl rfl (sv_loadF S rfl rfl hbc) ?_; clear S a; intro a S)
 (revert S a; refine go00 1 ?_; intro a S)
 (refine wpl_call0 S rfl rfl rfl rfl rfl rfl hc rfl ?_; clear S a; intro v a w hv S; subst hv)
 (revert S a; revert hZ Z; refine go10 4 ?_; intro a S)
 refine wp_ret (fr1 S Tryz.results205 ?_)
 rfl
theorem allECt (F : Heap) (L : Ef) (v : Value) (hv : TrS F 9 EhR v L) (fid : FuncId) [hfn : HasFn Tryz.prog fid] (fi ca : List Value) (p : EH → Ef → Bool)
    (hcl : ∀ (F' : Heap) (k : Nat) (x : EH × Ef) (cs : List Value), (∀ b o, F b = some o → F' b = some o) → L.get? k = some x → PxC F' cs x.1 x.2 → Ct Tryz.prog fid (fi ++ [.agg ⟨cs⟩] ++ ca) F' [] (fun _ _ u => u = .bool (p x.1 x.2))) :
    Ct Tryz.prog 158 [v, .func (.func fid) ⟨fi⟩ ⟨ca⟩] F [] (fun _ _ u => u = .bool (allR p L)) := by
 have hv0 := hv
 obtain ⟨ao, cap, rfl, hcap, -⟩ := hv
 refine Ct.enter Tryz.func158 rfl Tryz.ntmps158 rfl fun w0 a S => ?_
 refine wp_sr fun Z hZ => ?_
 (refine wpl_box S rfl rfl rfl rfl rfl ?_; clear S a; intro b3 a w S)
 (revert S a; revert hZ Z; refine go11 6 ?_; intro Z hZ a S)
 (have S' := frz1 S; clear S; obtain ⟨F5, hle5, hb3, S⟩ := S'; have hc := cfECt F5 _ L.len _ (hv0.mono hle5).sq 205 [] [.pointer (some ⟨b3, 0, none⟩)] (fun k => match L.get? k with | some x => !p x.1 x.2 | none => false) (fun k cs hk ⟨x, c1, u, hx, hcs, hR, hT⟩ => by rw [hx]; have hX := pxc_of hR hT; rw [← hcs] at hX; exact all1Ct F5 fid fi ca b3 ⟨_, _, _, hb3, rfl⟩ _ cs x.1 x.2 hX (hcl F5 k x cs hle5 hx hX)); rw [anyN_rose (q := fun h L => !p h L) (fun k x hx => by rw [hx])] at hc; refine wpl_call0 S rfl rfl rfl rfl rfl rfl hc rfl ?_; clear S a hc; intro v a w hv S; subst hv)
 (revert S a; revert hZ Z; refine go10 4 ?_; intro a S)
 refine wp_ret (fr1 S Tryz.results158 ?_)
 rfl
end Go.Proofs.YthnafdbebniapaaGreatDoor
