/- The walk of UnifyFresh. -/
import Derived.Test.YtcjnmehpkcblfaaDoorUfF
import Derived.Test.YtcjnmehpkcblfaaDoorUnI
namespace Go.Proofs.YtcjnmehpkcblfaaDoor
open Go Go.Wk Go.Un
set_option linter.unusedSimpArgs false
set_option linter.unusedVariables false
attribute [local irreducible] Go.wpList Go.Code.wp Go.wpStill Go.Wk.wpPre Go.bodyPost Go.Calls Go.Wk.Ct Go.Wk.OwnS
attribute [local irreducible] Go.Wk.wpG Go.Wk.wpM

theorem subL_size (r : List UInt8 → List UInt8) : ∀ l : Fo, (subL (rnm r) l).size = l.size
  | .nil => rfl
  | .cons nm ar s => by
    rw [subL_cons]
    have h1 : (subT (rnm r) (nm, ar)).2.size = ar.size := by
      unfold subT
      by_cases hv : varT nm ar = true
      · rw [if_pos hv, (varT_is hv).2]; rfl
      · rw [if_neg hv]; exact subL_size r ar
    simp only [Fo.size, h1, subL_size r s]
theorem renF_size (l : Fo) (na : Nat → List UInt8) : (renF l na).size = l.size := subL_size _ l
theorem renF_len (l : Fo) (na : Nat → List UInt8) : (renF l na).len = l.len := subL_len _ l
theorem vnames_size (l : Fo) : (vnames l).length ≤ l.size := by
  unfold vnames
  split
  · exact Nat.le_trans (dds_len _) (seqL_len l)
  · exact Nat.zero_le _
theorem fom_cells {F : Heap} : ∀ {l : Fo} {b off : Nat}, FoM F l b off → ∃ xs, FoC F xs l ∧ xs.length = l.len * 2 ∧ Cels F b off xs ∧ ∀ u ∈ xs, u.oneCell' = true
  | .nil, _, _, _ => ⟨[], trivial, rfl, fun j u h => by simp at h, fun u h => by cases h⟩
  | .cons nm ar r, b, off, ⟨h1, ⟨ao, cap, h2, h3, h4⟩, h5⟩ => by
    obtain ⟨xs, h6, h7, h8, h9⟩ := fom_cells h5
    refine ⟨.string (bs nm) :: .slice ao ar.len cap :: xs, ⟨rfl, ⟨ao, cap, rfl, h3, h4⟩, h6⟩, by simp only [List.length_cons, h7, Fo.len]; omega, fun j u hj => ?_, fun u hu => ?_⟩
    · rcases j with - | j
      · cases hj; exact h1
      rcases j with - | j
      · cases hj; exact h2
      · have := h8 j u hj
        rw [show off + (j + 2) = off + 2 + j by omega]
        exact this
    · rcases List.mem_cons.1 hu with rfl | hu
      · rfl
      rcases List.mem_cons.1 hu with rfl | hu
      · rfl
      · exact h9 u hu
theorem slf_cells {F : Heap} {v : Value} {l : Fo} (h : SlF F v l) : ∃ ao cap xs, v = .slice ao l.len cap ∧ FoC F xs l ∧ xs.length = l.len * 2 ∧ (0 < l.len → ∃ b o, ao = some ⟨b, o, none⟩ ∧ Cels F b o xs) ∧ (∀ u ∈ xs, u.oneCell' = true) := by
  obtain ⟨ao, cap, rfl, h2, h3⟩ := h
  by_cases hp : 0 < l.len
  · obtain ⟨b, o, e, h4⟩ := h3 hp
    obtain ⟨xs, h5, h6, h7, h8⟩ := fom_cells h4
    exact ⟨ao, cap, xs, rfl, h5, h6, fun _ => ⟨b, o, e, h7⟩, h8⟩
  · have hl : l = .nil := len0 (by omega)
    subst hl
    exact ⟨ao, cap, [], rfl, trivial, rfl, fun h => absurd h hp, fun u h => by cases h⟩
def errOf (l : Fo) : Int := if mayL l = true then 0 else 4
/-- What Fresh tells, once for both ways. -/
theorem frP_one {l : Fo} {T : Tb} {tb mb told : Nat} {F' : Heap} {G' : List Grp} {u : Value} (h : FrP l T tb mb told F' G' u) (hvl : T.vs.length ≤ T.nd.length) :
    ∃ (ao : Option Addr) (q c : Nat) (na : List (List UInt8)) (T' : Tb) (told' : Nat), u = .tuple ⟨[.slice ao q c, .int .i64 (errOf l)]⟩ ∧ TabT F' tb mb T' T'.nd.length (told' : Int) G' ∧ T'.vs.length ≤ T'.nd.length ∧ T'.nd.length ≤ T.nd.length + 50000 ∧ told' ≤ told + 300000000000 ∧
      (mayL l = true → SlF F' (.slice ao q c) (renF l fun i => na.getD i []) ∧ na.length = (vnames l).length ∧ na.Nodup ∧ (∀ v ∈ na, isV v = true) ∧ (∀ v ∈ na, vget T.vs v = none ∧ v ∉ seqL l) ∧ (∀ v, vget T'.vs v = none → vget T.vs v = none ∧ v ∉ seqL l ∧ v ∉ na)) := by
  rcases h with ⟨hm, rfl, hT⟩ | ⟨hm, ao, q, c, na, T', t', rfl, h1, h2, h3, h4, h5, h6, h7, h8, h9, h10⟩
  · refine ⟨none, 0, 0, [], T, told, ?_, hT, hvl, by omega, by omega, fun h => by rw [hm] at h; cases h⟩
    unfold errOf
    rw [if_neg (by rw [hm]; decide)]
  · refine ⟨ao, q, c, na, T', t', ?_, h7, h8, h9, h10, fun _ => ⟨h1, h2, h3, h4, h5, h6⟩⟩
    unfold errOf
    rw [if_pos hm]
set_option maxRecDepth 20000 in
set_option maxHeartbeats 32000000 in
theorem unifyFreshCt (F : Heap) (l : Fo) (v : Value) (h0 : SlF F v l) (hTF : TabF F) : Ct Tryd.prog 3 [v] F [] (fun _ _ u => u = .bool true) := by
  have hl0 := h0
  obtain ⟨ao, cap, rfl, hcap, hpos⟩ := h0
  refine Ct.enter Tryd.func3 rfl Tryd.ntmps3 rfl fun w0 a S => ?_
  (refine wp_seq_k ?_; intro Kq1 hKq1)
  refine wp_region_lit ?_
  (refine wpl_v S rfl rfl rfl (sv_pure S rfl) ?_; clear S a; intro a S)
  refine wpList_nil ?_
  (refine hKq1 _ _ ?_; try (clear hKq1 Kq1))
  (refine wp_seq_k ?_; intro Kq2 hKq2)
  (refine wp_seq_k ?_; intro Kq3 hKq3)
  refine wp_region_lit ?_
  (refine wpl_call0 S rfl rfl rfl rfl rfl rfl (worksCt F) rfl ?_; clear S a; intro v a w hv S; subst hv)
  (refine wpl_v S rfl rfl rfl (sv_lit (c := false) (sv_pure S rfl) (by rfl)) ?_; clear S a; intro a S)
  (refine wpl_v S rfl rfl rfl (sv_pure S rfl) ?_; clear S a; intro a S)
  refine wpl_take S rfl rfl rfl ?_
  (refine wpl_v S rfl rfl rfl (sv_pure S rfl) ?_; clear S a; intro a S)
  refine wpl_take S rfl rfl rfl ?_
  (refine wpl_v S rfl rfl rfl (sv_lenSl S rfl rfl) ?_; clear S a; intro a S)
  refine wpl_take S rfl rfl rfl ?_
  (refine wpl_v S rfl rfl rfl (sv_pure S rfl) ?_; clear S a; intro a S)
  first | (refine wpl_v S rfl rfl rfl (sv_pure S rfl) ?_; clear S a; intro a S) | (refine wpl_v S rfl rfl rfl (sv_pickB S rfl rfl rfl rfl) ?_; clear S a; intro a S)
  (refine wpl_v S rfl rfl rfl (sv_pure S rfl) ?_; clear S a; intro a S)
  refine wpl_guard S rfl rfl rfl rfl rfl ?_ ?_
  · (intro h S'; clear S; have S := S'; clear S'; (try simp only [decide_eq_true_eq, decide_eq_false_iff_not, beq_iff_eq, bne_iff_ne, bne_eq_false_iff_eq, beq_eq_false_iff_ne, ne_eq, Bool.not_eq_true', Bool.not_eq_false', Bool.not_eq_true, Bool.not_eq_false, Bool.not_true, Bool.not_false, Int.ofNat_lt, Int.ofNat_le, Nat.not_lt, Nat.not_le] at h))
    (refine wpl_v S rfl rfl rfl (sv_pure S rfl) ?_; clear S a; intro a S)
    refine wpl_take S rfl rfl rfl ?_
    (refine wpl_call0 S rfl rfl rfl rfl rfl rfl (largeCt F l _ 200 hl0) rfl ?_; clear S a; intro v a w hv S; obtain ⟨b18, rfl⟩ := hv)
    first | (refine wpl_v S rfl rfl rfl (sv_pure S rfl) ?_; clear S a; intro a S) | (refine wpl_v S rfl rfl rfl (sv_pickB S rfl rfl rfl rfl) ?_; clear S a; intro a S)
    refine wpList_nil ?_
    (refine hKq3 _ _ ?_; try (clear hKq3 Kq3))
    refine wpc_split S rfl (fun h => ?_) (fun h => ?_)
    · (skip; (try simp only [decide_eq_true_eq, decide_eq_false_iff_not, beq_iff_eq, bne_iff_ne, bne_eq_false_iff_eq, beq_eq_false_iff_ne, ne_eq, Bool.not_eq_true', Bool.not_eq_false', Bool.not_eq_true, Bool.not_eq_false, Bool.not_true, Bool.not_false, Int.ofNat_lt, Int.ofNat_le, Nat.not_lt, Nat.not_le] at h))
      (refine wp_seq_k ?_; intro Kq4 hKq4)
      refine wp_region_lit ?_
      (refine wpl_call0 S rfl rfl rfl rfl rfl rfl (worksCt F) rfl ?_; clear S a; intro v a w hv S; subst hv)
      (refine wpl_v S rfl rfl rfl (sv_pure S rfl) ?_; clear S a; intro a S)
      refine wpList_nil ?_
      (refine hKq4 _ _ ?_; try (clear hKq4 Kq4))
      refine wp_ret ?_
      refine fin_ret S (results1 Tryd.results3 (RV.tmp S rfl)) ?_
      (first | rfl | (congr 1; simp; done) | (have he4 : ¬ errOf l = 0 := (by first | assumption | simpa using h); have he5 : errOf l = 4 := (by unfold errOf at he4 ⊢; split; (rename_i h9; rw [if_pos h9] at he4; exact absurd rfl he4); rfl); rw [he5]; rfl) | trace_state)
    · (skip; (try simp only [decide_eq_true_eq, decide_eq_false_iff_not, beq_iff_eq, bne_iff_ne, bne_eq_false_iff_eq, beq_eq_false_iff_ne, ne_eq, Bool.not_eq_true', Bool.not_eq_false', Bool.not_eq_true, Bool.not_eq_false, Bool.not_true, Bool.not_false, Int.ofNat_lt, Int.ofNat_le, Nat.not_lt, Nat.not_le] at h))
      refine wp_skip ?_
      (refine hKq2 _ _ ?_; try (clear hKq2 Kq2))
      (refine wp_seq_k ?_; intro Kq4 hKq4)
      refine wp_region_lit ?_
      (refine wpl_call (Gs := []) (Gr := []) S rfl rfl rfl rfl rfl rfl (newTCt F) rfl (by simp) ?_; clear S a; intro u9 F2 G2 a w hv hF2 S; obtain ⟨tb, mb, rfl, hTab2⟩ := hv; rw [List.append_nil] at S)
      (refine wpl_v S rfl rfl rfl (sv_pure S rfl) ?_; clear S a; intro a S)
      refine wpList_nil ?_
      (refine hKq4 _ _ ?_; try (clear hKq4 Kq4))
      (refine wp_seq_k ?_; intro Kq5 hKq5)
      refine wp_region_lit ?_
      (refine wpl_v S rfl rfl rfl (sv_pure S rfl) ?_; clear S a; intro a S)
      (refine wpl_v S rfl rfl rfl (sv_pure S rfl) ?_; clear S a; intro a S)
      (refine wpl_call (Gs := G2) (Gr := []) S rfl rfl rfl rfl rfl rfl (freshCt F2 tb mb Tb0 0 G2 l _ (hl0.mono hF2) (by omega) hTab2 (by decide) (by decide) (by decide) (hTF.mono hF2)) rfl (by simp) ?_; clear S a; intro u9 F3 G3 a w hv hF3 S; obtain ⟨aa, qa, ca, na, T3, t3, rfl, hTab3, hvl3, hnl3, ht3, hA⟩ := frP_one hv (by decide); rw [List.append_nil] at S)
      (refine wpl_v S rfl rfl rfl (sv_pure S rfl) ?_; clear S a; intro a S)
      (refine wpl_v S rfl rfl rfl (sv_pure S rfl) ?_; clear S a; intro a S)
      (refine wpl_v S rfl rfl rfl (sv_pure S rfl) ?_; clear S a; intro a S)
      (refine wpl_v S rfl rfl rfl (sv_pure S rfl) ?_; clear S a; intro a S)
      (refine wpl_v S rfl rfl rfl (sv_pure S rfl) ?_; clear S a; intro a S)
      refine wpList_nil ?_
      (refine hKq5 _ _ ?_; try (clear hKq5 Kq5))
      (refine wp_seq_k ?_; intro Kq6 hKq6)
      refine wp_region_lit ?_
      (refine wpl_v S rfl rfl rfl (sv_pure S rfl) ?_; clear S a; intro a S)
      (refine wpl_v S rfl rfl rfl (sv_pure S rfl) ?_; clear S a; intro a S)
      (refine wpl_call (Gs := G3) (Gr := []) S rfl rfl rfl rfl rfl rfl (freshCt F3 tb mb T3 t3 G3 l _ ((hl0.mono hF2).mono hF3) (by omega) hTab3 (by have : Tb0.nd.length = 0 := rfl; omega) hvl3 (by omega) ((hTF.mono hF2).mono hF3)) rfl (by simp) ?_; clear S a; intro u9 F4 G4 a w hv hF4 S; obtain ⟨ab, qb, cb, nb, T4, t4, rfl, hTab4, hvl4, hnl4, ht4, hB⟩ := frP_one hv hvl3; rw [List.append_nil] at S)
      (refine wpl_v S rfl rfl rfl (sv_pure S rfl) ?_; clear S a; intro a S)
      (refine wpl_v S rfl rfl rfl (sv_pure S rfl) ?_; clear S a; intro a S)
      (refine wpl_v S rfl rfl rfl (sv_pure S rfl) ?_; clear S a; intro a S)
      (refine wpl_v S rfl rfl rfl (sv_pure S rfl) ?_; clear S a; intro a S)
      (refine wpl_v S rfl rfl rfl (sv_pure S rfl) ?_; clear S a; intro a S)
      refine wpList_nil ?_
      (refine hKq6 _ _ ?_; try (clear hKq6 Kq6))
      (refine wp_seq_k ?_; intro Kq7 hKq7)
      (refine wp_seq_k ?_; intro Kq8 hKq8)
      refine wp_region_lit ?_
      (refine wpl_v S rfl rfl rfl (sv_pure S rfl) ?_; clear S a; intro a S)
      (refine wpl_v S rfl rfl rfl (sv_pure S rfl) ?_; clear S a; intro a S)
      (refine wpl_v S rfl rfl rfl (sv_lit (c := false) (sv_pure S rfl) (by simp)) ?_; clear S a; intro a S)
      (refine wpl_v S rfl rfl rfl (sv_pure S rfl) ?_; clear S a; intro a S)
      refine wpl_take S rfl rfl rfl ?_
      (refine wpl_v S rfl rfl rfl (sv_pure S rfl) ?_; clear S a; intro a S)
      refine wpl_take S rfl rfl rfl ?_
      (refine wpl_v S rfl rfl rfl (sv_pure S rfl) ?_; clear S a; intro a S)
      first | (refine wpl_v S rfl rfl rfl (sv_pure S rfl) ?_; clear S a; intro a S) | (refine wpl_v S rfl rfl rfl (sv_pickB S rfl rfl rfl rfl) ?_; clear S a; intro a S)
      refine wpList_nil ?_
      (refine hKq8 _ _ ?_; try (clear hKq8 Kq8))
      refine wpc_split S rfl (fun h => ?_) (fun h => ?_)
      · (skip; (try simp only [decide_eq_true_eq, decide_eq_false_iff_not, beq_iff_eq, bne_iff_ne, bne_eq_false_iff_eq, beq_eq_false_iff_ne, ne_eq, Bool.not_eq_true', Bool.not_eq_false', Bool.not_eq_true, Bool.not_eq_false, Bool.not_true, Bool.not_false, Int.ofNat_lt, Int.ofNat_le, Nat.not_lt, Nat.not_le] at h))
        (refine wp_seq_k ?_; intro Kq9 hKq9)
        refine wp_region_lit ?_
        (refine wpl_v S rfl rfl rfl (sv_pure S rfl) ?_; clear S a; intro a S)
        (refine wpl_v S rfl rfl rfl (sv_pure S rfl) ?_; clear S a; intro a S)
        (refine wpl_v S rfl rfl rfl (sv_lit (c := true) (sv_pure S rfl) (by simp)) ?_; clear S a; intro a S)
        (refine wpl_v S rfl rfl rfl (sv_pure S rfl) ?_; clear S a; intro a S)
        refine wpl_take S rfl rfl rfl ?_
        (refine wpl_v S rfl rfl rfl (sv_pure S rfl) ?_; clear S a; intro a S)
        refine wpl_take S rfl rfl rfl ?_
        (refine wpl_v S rfl rfl rfl (sv_pure S rfl) ?_; clear S a; intro a S)
        first | (refine wpl_v S rfl rfl rfl (sv_pure S rfl) ?_; clear S a; intro a S) | (refine wpl_v S rfl rfl rfl (sv_pickB S rfl rfl rfl rfl) ?_; clear S a; intro a S)
        (refine wpl_v S rfl rfl rfl (sv_pure S rfl) ?_; clear S a; intro a S)
        refine wpList_nil ?_
        (refine hKq9 _ _ ?_; try (clear hKq9 Kq9))
        refine wp_ret ?_
        refine fin_ret S (results1 Tryd.results3 (RV.tmp S rfl)) ?_
        (first | rfl | (congr 1; simp; done) | (have he4 : ¬ errOf l = 0 := (by first | assumption | simpa using h); have he5 : errOf l = 4 := (by unfold errOf at he4 ⊢; split; (rename_i h9; rw [if_pos h9] at he4; exact absurd rfl he4); rfl); rw [he5]; rfl) | trace_state)
      · (skip; (try simp only [decide_eq_true_eq, decide_eq_false_iff_not, beq_iff_eq, bne_iff_ne, bne_eq_false_iff_eq, beq_eq_false_iff_ne, ne_eq, Bool.not_eq_true', Bool.not_eq_false', Bool.not_eq_true, Bool.not_eq_false, Bool.not_true, Bool.not_false, Int.ofNat_lt, Int.ofNat_le, Nat.not_lt, Nat.not_le] at h))
        refine wp_skip ?_
        (refine hKq7 _ _ ?_; try (clear hKq7 Kq7))
        (refine wp_seq_k ?_; intro Kq9 hKq9)
        (refine wp_seq_k ?_; intro Kq10 hKq10)
        (have he0 : errOf l = 0 := (by first | assumption | simpa using h); have hml : mayL l = true := (by unfold errOf at he0; split at he0; assumption; omega); have hszl := mayL_size l hml; obtain ⟨hsa, hna, hnda, hiva, hva, hka⟩ := hA hml; obtain ⟨hsb, hnb, hndb, hivb, hvb, hkb⟩ := hB hml; obtain ⟨hlaw1, hlaw2, hlaw3⟩ := fresh_law hml hna hnb hnda hndb hiva hivb (fun v h => (hva v h).2) (fun v h => ⟨(hka v (hvb v h).1).2.1, (hka v (hvb v h).1).2.2⟩); have hF14 : ∀ b o, F b = some o → F4 b = some o := (fun b o h => hF4 _ _ (hF3 _ _ (hF2 _ _ h))); have hla := renF_len l (fun i => na.getD i []); have hlb := renF_len l (fun i => nb.getD i []); have hza := renF_size l (fun i => na.getD i []); have hzb := renF_size l (fun i => nb.getD i []); have hva1 := vnames_size (renF l fun i => na.getD i []); have hvb1 := vnames_size (renF l fun i => nb.getD i []); have hvl1 := vnames_size l)
        refine wp_region_lit ?_
        (refine wpl_v S rfl rfl rfl (sv_pure S rfl) ?_; clear S a; intro a S)
        (refine wpl_callF S rfl rfl rfl rfl rfl rfl (canonCt F4 _ _ (hsa.mono hF4) (by omega) (thin_size _ (by omega)) (hTF.mono hF14) (by omega)) rfl ?_; clear S a; intro uv F5 a w hv hF5 S; rw [hlaw1] at hv; have hv49 := hv; obtain ⟨a49, c49, rfl, -, -⟩ := hv)
        (refine wpl_v S rfl rfl rfl (sv_pure S rfl) ?_; clear S a; intro a S)
        (refine wpl_callF S rfl rfl rfl rfl rfl rfl (canonCt F5 l _ ((hl0.mono hF14).mono hF5) (by omega) (thin_size _ (by omega)) ((hTF.mono hF14).mono hF5) (by omega)) rfl ?_; clear S a; intro uv F6 a w hv hF6 S; have hv51 := hv; obtain ⟨a51, c51, rfl, -, -⟩ := hv)
        (refine wpl_call0 S rfl rfl rfl rfl rfl rfl (samesCt F6 (canF l) _ _ (hv49.mono hF6) hv51 (by rw [show (canF l).len = l.len from subL_len _ l]; omega)) rfl ?_; clear S a; intro v a w hv S; subst hv)
        (refine wpl_v S rfl rfl rfl (sv_lit (c := false) (sv_pure S rfl) (by rfl)) ?_; clear S a; intro a S)
        (refine wpl_v S rfl rfl rfl (sv_pure S rfl) ?_; clear S a; intro a S)
        refine wpl_take S rfl rfl rfl ?_
        (refine wpl_v S rfl rfl rfl (sv_pure S rfl) ?_; clear S a; intro a S)
        refine wpl_take S rfl rfl rfl ?_
        (refine wpl_callF S rfl rfl rfl rfl rfl rfl (canonCt F6 _ _ (hsb.mono (fun b o h => hF6 _ _ (hF5 _ _ h))) (by omega) (thin_size _ (by omega)) (hTF.mono (fun b o h => hF6 _ _ (hF5 _ _ (hF14 _ _ h)))) (by omega)) rfl ?_; clear S a; intro uv F7 a w hv hF7 S; rw [hlaw2] at hv; have hv56 := hv; obtain ⟨a56, c56, rfl, -, -⟩ := hv)
        refine wpl_take S rfl rfl rfl ?_
        (refine wpl_v S rfl rfl rfl (sv_pure S rfl) ?_; clear S a; intro a S)
        refine wpl_take S rfl rfl rfl ?_
        (have hF17 : ∀ b o, F b = some o → F7 b = some o := (fun b o h => hF7 _ _ (hF6 _ _ (hF5 _ _ (hF14 _ _ h)))); refine wpl_callF S rfl rfl rfl rfl rfl rfl (canonCt F7 l _ (hl0.mono hF17) (by omega) (thin_size _ (by omega)) (hTF.mono hF17) (by omega)) rfl ?_; clear S a; intro uv F8 a w hv hF8 S; have hv58 := hv; obtain ⟨a58, c58, rfl, -, -⟩ := hv)
        refine wpl_take S rfl rfl rfl ?_
        (refine wpl_call0 S rfl rfl rfl rfl rfl rfl (samesCt F8 (canF l) _ _ (hv56.mono hF8) hv58 (by rw [show (canF l).len = l.len from subL_len _ l]; omega)) rfl ?_; clear S a; intro v a w hv S; subst hv)
        refine wpl_take S rfl rfl rfl ?_
        (refine wpl_v S rfl rfl rfl (sv_lit (c := false) (sv_pure S rfl) (by rfl)) ?_; clear S a; intro a S)
        first | (refine wpl_v S rfl rfl rfl (sv_pure S rfl) ?_; clear S a; intro a S) | (refine wpl_v S rfl rfl rfl (sv_pickB S rfl rfl rfl rfl) ?_; clear S a; intro a S)
        refine wpList_nil ?_
        (refine hKq10 _ _ ?_; try (clear hKq10 Kq10))
        refine wpc_false S rfl ?_
        refine wp_skip ?_
        (refine hKq9 _ _ ?_; try (clear hKq9 Kq9))
        (refine wp_seq_k ?_; intro Kq11 hKq11)
        (have hF48 : ∀ b o, F4 b = some o → F8 b = some o := (fun b o h => hF8 _ _ (hF7 _ _ (hF6 _ _ (hF5 _ _ h)))); have hl8 := (hl0.mono hF14).mono hF48; obtain ⟨ao1, cap1, xl, el, hxl, hxl2, hxl3, hxl4⟩ := slf_cells hl8; cases el; obtain ⟨aa1, ca1, xa, ea, hxa, hxa2, hxa3, hxa4⟩ := slf_cells ((hsa.mono hF4).mono hF48); cases ea; obtain ⟨ab1, cb1, xb, eb, hxb, hxb2, hxb3, hxb4⟩ := slf_cells (hsb.mono hF48); cases eb)
        refine wp_region_lit ?_
        (refine wpl_buildSlice S rfl rfl rfl rfl rfl rfl (by rfl) (by simp [Value.cells, splice, splice]) rfl (by rfl) (by rfl) ?_; clear S a; intro b62 a w hown S)
        (refine wpl_v S rfl rfl rfl (sv_pure S rfl) ?_; clear S a; intro a S)
        (refine wpl_appendSl S rfl rfl rfl rfl rfl rfl hown (by rfl) hxl2 hxl3 hxl4 (by omega) (by omega) ?_; clear hown S a; intro v g a w hown S)
        (refine wpl_v S rfl rfl rfl (sv_pure S rfl) ?_; clear S a; intro a S)
        (refine wpl_appendSl S rfl rfl rfl rfl rfl rfl hown (by rfl) hxa2 hxa3 hxa4 (by omega) (by omega) ?_; clear hown S a; intro v g a w hown S)
        (refine wpl_v S rfl rfl rfl (sv_pure S rfl) ?_; clear S a; intro a S)
        (refine wpl_appendSl S rfl rfl rfl rfl rfl rfl hown (by rfl) hxb2 hxb3 hxb4 (by omega) (by omega) ?_; clear hown S a; intro v g a w hown S)
        (refine wpl_v S rfl rfl rfl (sv_pure S rfl) ?_; clear S a; intro a S)
        refine wpList_nil ?_
        (refine hKq11 _ _ ?_; try (clear hKq11 Kq11))
        (refine wp_seq_k ?_; intro Kq12 hKq12)
        (have hfc := FoC.app (FoC.app hxl hxa) hxb; replace hown : OwnS 36 2 _ (l.len + (renF l fun i => na.getD i []).len + (renF l fun i => nb.getD i []).len) (xl ++ xa ++ xb) g := (by simpa using hown); have hle := add_le (G1 := []) S; replace S := St.freeze (G1 := []) S; (simp only [List.nil_append] at S hle); have hall : SlF (F8.add g) _ ((l.app (renF l fun i => na.getD i [])).app (renF l fun i => nb.getD i [])) := FoC.slf hown hfc (by rw [Fo.len_app, Fo.len_app]) hle (by omega); generalize F8.add g = F9 at S hle hall)
        refine wp_region_lit ?_
        (refine wpl_v S rfl rfl rfl (sv_pure S rfl) ?_; clear S a; intro a S)
        (refine wpl_callF S rfl rfl rfl rfl rfl rfl (varsCt F9 _ _ hall (by rw [Fo.len_app, Fo.len_app]; omega)) rfl ?_; clear S a; intro uv F10 a w hv hF10 S; obtain ⟨av, cv, rfl, -, hv10⟩ := hv; rw [hlaw3] at S)
        (refine wpl_v S rfl rfl rfl (sv_lenSl S rfl rfl) ?_; clear S a; intro a S)
        (refine wpl_v S rfl rfl rfl (sv_pure S rfl) ?_; clear S a; intro a S)
        (refine wpl_callF S rfl rfl rfl rfl rfl rfl (varsCt F10 l _ ((hl8.mono hle).mono hF10) (by omega)) rfl ?_; clear S a; intro uv F11 a w hv hF11 S; obtain ⟨av2, cv2, rfl, -, hv11⟩ := hv)
        (refine wpl_v S rfl rfl rfl (sv_lenSl S rfl rfl) ?_; clear S a; intro a S)
        (refine wpl_v S rfl rfl rfl (sv_mul S rfl rfl rfl (by first | omega | (simp only [List.length_append, List.length_cons, List.length_nil]; omega))) ?_; clear S a; intro a S)
        (refine wpl_v S rfl rfl rfl (sv_pure S rfl) ?_; clear S a; intro a S)
        (refine wpl_v S rfl rfl rfl (sv_pure S rfl) ?_; clear S a; intro a S)
        refine wpList_nil ?_
        (refine hKq12 _ _ ?_; try (clear hKq12 Kq12))
        refine wp_ret ?_
        refine fin_ret S (results1 Tryd.results3 (RV.tmp S rfl)) ?_
        (first | rfl | (congr 1; simp; done) | (have he4 : ¬ errOf l = 0 := (by first | assumption | simpa using h); have he5 : errOf l = 4 := (by unfold errOf at he4 ⊢; split; (rename_i h9; rw [if_pos h9] at he4; exact absurd rfl he4); rfl); rw [he5]; rfl) | trace_state)
  · (intro h; clear S a; intro a S; (try simp only [decide_eq_true_eq, decide_eq_false_iff_not, beq_iff_eq, bne_iff_ne, bne_eq_false_iff_eq, beq_eq_false_iff_ne, ne_eq, Bool.not_eq_true', Bool.not_eq_false', Bool.not_eq_true, Bool.not_eq_false, Bool.not_true, Bool.not_false, Int.ofNat_lt, Int.ofNat_le, Nat.not_lt, Nat.not_le] at h))
    (refine wpl_skip S rfl rfl rfl rfl rfl ?_; clear S a; intro a S)
    first | (refine wpl_v S rfl rfl rfl (sv_pure S rfl) ?_; clear S a; intro a S) | (refine wpl_v S rfl rfl rfl (sv_pickB S rfl rfl rfl rfl) ?_; clear S a; intro a S)
    refine wpList_nil ?_
    (refine hKq3 _ _ ?_; try (clear hKq3 Kq3))
    refine wpc_true S rfl ?_
    (refine wp_seq_k ?_; intro Kq4 hKq4)
    refine wp_region_lit ?_
    (refine wpl_call0 S rfl rfl rfl rfl rfl rfl (worksCt F) rfl ?_; clear S a; intro v a w hv S; subst hv)
    (refine wpl_v S rfl rfl rfl (sv_pure S rfl) ?_; clear S a; intro a S)
    refine wpList_nil ?_
    (refine hKq4 _ _ ?_; try (clear hKq4 Kq4))
    refine wp_ret ?_
    refine fin_ret S (results1 Tryd.results3 (RV.tmp S rfl)) ?_
    (first | rfl | (congr 1; simp; done) | (have he4 : ¬ errOf l = 0 := (by first | assumption | simpa using h); have he5 : errOf l = 4 := (by unfold errOf at he4 ⊢; split; (rename_i h9; rw [if_pos h9] at he4; exact absurd rfl he4); rfl); rw [he5]; rfl) | trace_state)
end Go.Proofs.YtcjnmehpkcblfaaDoor
