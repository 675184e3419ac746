/- The walks of Subst and of its function. -/
import Derived.Test.YtcjnmehpkcblfaaUnVr
namespace Go.Proofs.Ytcjnmehpkcblfaa
open Go Go.Wk Go.Un
set_option linter.unusedSimpArgs false
set_option linter.unusedVariables false
attribute [local irreducible] Go.wpList Go.Code.wp Go.wpStill Go.Wk.wpPre Go.bodyPost Go.Calls Go.Wk.Ct Go.Wk.OwnS
attribute [local irreducible] Go.Wk.wpG Go.Wk.wpM

theorem noneCb (F : Heap) (B : Nat) : CbCt F 29 [] [] B (fun _ G => G = []) (fun _ => none) := by
  unfold CbCt
  intro F' k G nm hF hnm hk hI
  subst hI
  exact Ct.mono (ct_nil (Post := fun _ u => u = .tuple ⟨[.agg ⟨[.string (bs []), .slice none 0 0]⟩, .bool false]⟩) (noneCt F' nm)) fun F'' G' u hu => ⟨none, 0, 0, ([], .nil), hu.1, SlF.nil _, fun t h => (by cases h), hu.2⟩
theorem cbS_none : cbS (fun _ => none) = vid := rfl
/-- own that replaces nothing: a copy. -/
theorem ownNoneCt (F : Heap) (nm : List UInt8) (ar : Fo) (cs : List Value) (h : TyC F cs nm ar) (h1 : ar.len * 40 ≤ 140737488355328) (h2 : Thin ar) : Ct Try.prog 27 [.agg ⟨cs⟩, .func (.func 29) ⟨[]⟩ ⟨[]⟩] F [] (fun F' G' u => ∃ ao q c, u = .agg ⟨[.string (bs nm), .slice ao q c]⟩ ∧ SlF F' (.slice ao q c) ar ∧ G' = []) :=
  Ct.mono (ownCt F 29 [] [] (ar.size + 1) (fun _ G => G = []) (fun _ => none) (noneCb F _) (ar.size + 1) F nm ar cs 0 [] (Nat.lt_succ_self _) (fun _ _ h => h) h h1 h2 (by omega) rfl) fun F' G' u hu => by
    obtain ⟨ao, q, c, k', e1, e2, _, e4⟩ := hu
    rw [cbS_none, subT_id] at e1 e2
    exact ⟨ao, q, c, e1, e2, e4⟩
/-- What Subst's function tells. -/
def sbC (names : List (List UInt8)) (l : Fo) : List UInt8 → Option Ty := fun nm => if 0 ≤ idxOf names nm then l.get? (idxOf names nm).toNat else none
theorem sbC_none {names : List (List UInt8)} {l : Fo} {nm : List UInt8} (h : idxOf names nm < 0 ∨ (l.len : Int) ≤ idxOf names nm) : sbC names l nm = none := by
  unfold sbC
  split
  · cases hg : l.get? (idxOf names nm).toNat with
    | none => rfl
    | some x => exfalso; have := Fo.lt_get hg; omega
  · rfl
def sbv (names : List (List UInt8)) (l : Fo) (a : Ty) : Ty := if may a.1 a.2 = true ∧ mayL l = true then subT (cbS (sbC names l)) a else a
set_option maxHeartbeats 4000000 in
theorem subst1Ct (F : Heap) (bn bb : Nat) (names : List (List UInt8)) (l : Fo) (vn vb : Value) (hbn : Cel F bn 0 vn) (hbb : Cel F bb 0 vb) (hn : SlC F vn names.length (strs names)) (hnl : names.length ≤ 9223372036854775807) (hs : SlF F vb l) (hth : Thin l) (B : Nat) :
    CbCt F 30 [] [.pointer (some ⟨bn, 0, none⟩), .pointer (some ⟨bb, 0, none⟩)] B (fun _ G => G = []) (sbC names l) := by
  unfold CbCt
  intro F' k G nm hF hnm hk hI
  subst hI
  have hn0 := hn.mono hF
  obtain ⟨an, cn, rfl, -, -⟩ := hn
  have hs0 := hs.mono hF
  obtain ⟨ab, cb, rfl, hcb, hposb⟩ := hs
  replace hbn := hbn.mono hF
  replace hbb := hbb.mono hF
  refine Ct.enter Try.func30 rfl Try.ntmps30 rfl fun w0 a S => ?_
  (refine wp_seq_k ?_; intro Kq1 hKq1)
  refine wp_region_lit ?_
  (refine wpl_alloc S rfl rfl rfl rfl ?_; clear S a; intro b4 a w S)
  (refine wpl_v S rfl rfl rfl (sv_pure S rfl) ?_; clear S a; intro a S)
  refine wpList_nil ?_
  (refine hKq1 _ _ ?_; try (clear hKq1 Kq1))
  (refine wp_seq_k ?_; intro Kq2 hKq2)
  refine wp_region_lit ?_
  first | (refine wpl_v S rfl rfl rfl (sv_loadO S rfl rfl (by rfl)) ?_; clear S a; intro a S) | (refine wpl_v S rfl rfl rfl (sv_loadF S rfl rfl (by assumption)) ?_; clear S a; intro a S) | (refine wpl_v S rfl rfl rfl (sv_loadF S rfl rfl hbn) ?_; clear S a; intro a S) | (refine wpl_v S rfl rfl rfl (sv_loadF S rfl rfl hbb) ?_; clear S a; intro a S)
  (refine wpl_v S rfl rfl rfl (sv_pure S rfl) ?_; clear S a; intro a S)
  (refine wpl_call0 S rfl rfl rfl rfl rfl rfl (indexSCt F' names nm _ hn0 hnl) rfl ?_; clear S a; intro v a w hv S; subst hv)
  (refine wpl_v S rfl rfl rfl (sv_pure S rfl) ?_; clear S a; intro a S)
  refine wpList_nil ?_
  (refine hKq2 _ _ ?_; try (clear hKq2 Kq2))
  (refine wp_seq_k ?_; intro Kq3 hKq3)
  (refine wp_seq_k ?_; intro Kq4 hKq4)
  refine wp_region_lit ?_
  (refine wpl_v S rfl rfl rfl (sv_pure S rfl) ?_; clear S a; intro a S)
  (refine wpl_v S rfl rfl rfl (sv_pure S rfl) ?_; clear S a; intro a S)
  (refine wpl_v S rfl rfl rfl (sv_pure S rfl) ?_; clear S a; intro a S)
  refine wpl_guard S rfl rfl rfl rfl rfl ?_ ?_
  · (intro h S'; clear S; have S := S'; clear S'; (try simp only [decide_eq_true_eq, decide_eq_false_iff_not, beq_iff_eq, bne_iff_ne, bne_eq_false_iff_eq, beq_eq_false_iff_ne, ne_eq, Bool.not_eq_true', Bool.not_eq_false', Bool.not_eq_true, Bool.not_eq_false, Bool.not_true, Bool.not_false, Int.ofNat_lt, Int.ofNat_le, Nat.not_lt, Nat.not_le] at h))
    (refine wpl_v S rfl rfl rfl (sv_pure S rfl) ?_; clear S a; intro a S)
    refine wpl_take S rfl rfl rfl ?_
    first | (refine wpl_v S rfl rfl rfl (sv_loadO S rfl rfl (by rfl)) ?_; clear S a; intro a S) | (refine wpl_v S rfl rfl rfl (sv_loadF S rfl rfl (by assumption)) ?_; clear S a; intro a S) | (refine wpl_v S rfl rfl rfl (sv_loadF S rfl rfl hbn) ?_; clear S a; intro a S) | (refine wpl_v S rfl rfl rfl (sv_loadF S rfl rfl hbb) ?_; clear S a; intro a S)
    refine wpl_take S rfl rfl rfl ?_
    (refine wpl_v S rfl rfl rfl (sv_lenSl S rfl rfl) ?_; clear S a; intro a S)
    refine wpl_take S rfl rfl rfl ?_
    (refine wpl_v S rfl rfl rfl (sv_pure S rfl) ?_; clear S a; intro a S)
    first | (refine wpl_v S rfl rfl rfl (sv_pure S rfl) ?_; clear S a; intro a S) | (refine wpl_v S rfl rfl rfl (sv_pickB S rfl rfl rfl rfl) ?_; clear S a; intro a S)
    refine wpList_nil ?_
    (refine hKq4 _ _ ?_; try (clear hKq4 Kq4))
    refine wpc_split S rfl (fun h => ?_) (fun h => ?_)
    · (skip; (try simp only [decide_eq_true_eq, decide_eq_false_iff_not, beq_iff_eq, bne_iff_ne, bne_eq_false_iff_eq, beq_eq_false_iff_ne, ne_eq, Bool.not_eq_true', Bool.not_eq_false', Bool.not_eq_true, Bool.not_eq_false, Bool.not_true, Bool.not_false, Int.ofNat_lt, Int.ofNat_le, Nat.not_lt, Nat.not_le] at h))
      (refine wp_seq_k ?_; intro Kq5 hKq5)
      refine wp_region_lit ?_
      (refine wpl_v S rfl rfl rfl (sv_build S rfl rfl rfl) ?_; clear S a; intro a S)
      (refine wpl_storeO S rfl rfl rfl rfl rfl (by rfl) (by simp [Value.cells, Value.oneCell', splice]) (by rfl) ?_; clear S; intro w S)
      (refine wpl_v S rfl rfl rfl (sv_pure S rfl) ?_; clear S a; intro a S)
      refine wpList_nil ?_
      (refine hKq5 _ _ ?_; try (clear hKq5 Kq5))
      refine wp_ret ?_
      (have S0 := S; replace S := S.drop1)
      
      refine fin_ret S (results2 Try.results30 (RV.cellO S0 rfl (by rfl)) (RV.tmp S0 rfl)) ?_
      (first | (have h9 := hs9; have e9 : sbC names l nm = some x := (by unfold sbC; rw [if_pos (by omega), hj, Int.toNat_natCast]; exact hx); rw [e9]; exact ⟨_, _, _, x, rfl, hs9, (fun t h => by cases h; rfl), rfl⟩) | (have e9 : sbC names l nm = none := sbC_none (by omega); rw [e9]; exact ⟨none, 0, 0, ([], .nil), rfl, SlF.nil _, (fun t h => by cases h), rfl⟩) | trace_state)
    · (skip; (try simp only [decide_eq_true_eq, decide_eq_false_iff_not, beq_iff_eq, bne_iff_ne, bne_eq_false_iff_eq, beq_eq_false_iff_ne, ne_eq, Bool.not_eq_true', Bool.not_eq_false', Bool.not_eq_true, Bool.not_eq_false, Bool.not_true, Bool.not_false, Int.ofNat_lt, Int.ofNat_le, Nat.not_lt, Nat.not_le] at h))
      refine wp_skip ?_
      (refine hKq3 _ _ ?_; try (clear hKq3 Kq3))
      (refine wp_seq_k ?_; intro Kq5 hKq5)
      (obtain ⟨j, hj⟩ : ∃ j : Nat, idxOf names nm = (j : Int) := ⟨(idxOf names nm).toNat, (by omega)⟩; rw [hj] at S; obtain ⟨b8, o8, hao, x, v1, hx, hc1, hT1⟩ := FoM.pos hposb (k := j) (by omega); replace hc1 := Cels.mono hF hc1; replace hT1 := hT1.mono hF; have hT1c := hT1; obtain ⟨a91, c91, rfl, -⟩ := hT1c; obtain ⟨hx40, hxth⟩ := hth.get hx)
      refine wp_region_lit ?_
      (refine wpl_v S rfl rfl rfl (sv_loadF S rfl rfl hbb) ?_; clear S a; intro a S)
      (rw [hao] at S)
      (refine wpl_v S rfl rfl rfl (sv_pure S rfl) ?_; clear S a; intro a S)
      (refine wpl_v S rfl rfl rfl (sv_indexAddrSl S rfl rfl rfl (by first | omega | (simp only [List.length_append, List.length_cons, List.length_nil]; omega))) ?_; clear S a; intro a S)
      first | (refine wpl_v S rfl rfl rfl (sv_loadAO S rfl rfl (by rfl)) ?_; clear S a; intro a S) | (refine wpl_v S rfl rfl rfl (sv_loadAF S rfl rfl (by assumption) (by rfl)) ?_; clear S a; intro a S)
      (refine wpl_call (Gs := []) (Gr := [[(b4, _)]]) S rfl rfl rfl rfl rfl rfl (ownNoneCt F' x.1 x.2 _ ⟨_, rfl, hT1⟩ hx40 hxth) rfl (by exact List.Perm.refl _) ?_; clear S a; intro u9 F9 G9 a w hv hF9 S; obtain ⟨a9, q9, c9, rfl, hs9, rfl⟩ := hv; (simp only [List.nil_append] at S))
      (refine wpl_storeO S rfl rfl rfl rfl rfl (by rfl) (by simp [Value.cells, Value.oneCell', splice]) (by rfl) ?_; clear S; intro w S)
      (refine wpl_v S rfl rfl rfl (sv_pure S rfl) ?_; clear S a; intro a S)
      refine wpList_nil ?_
      (refine hKq5 _ _ ?_; try (clear hKq5 Kq5))
      refine wp_ret ?_
      (have S0 := S; replace S := S.drop1)
      
      refine fin_ret S (results2 Try.results30 (RV.cellO S0 rfl (by rfl)) (RV.tmp S0 rfl)) ?_
      (first | (have h9 := hs9; have e9 : sbC names l nm = some x := (by unfold sbC; rw [if_pos (by omega), hj, Int.toNat_natCast]; exact hx); rw [e9]; exact ⟨_, _, _, x, rfl, hs9, (fun t h => by cases h; rfl), rfl⟩) | (have e9 : sbC names l nm = none := sbC_none (by omega); rw [e9]; exact ⟨none, 0, 0, ([], .nil), rfl, SlF.nil _, (fun t h => by cases h), rfl⟩) | trace_state)
  · (intro h; clear S a; intro a S; (try simp only [decide_eq_true_eq, decide_eq_false_iff_not, beq_iff_eq, bne_iff_ne, bne_eq_false_iff_eq, beq_eq_false_iff_ne, ne_eq, Bool.not_eq_true', Bool.not_eq_false', Bool.not_eq_true, Bool.not_eq_false, Bool.not_true, Bool.not_false, Int.ofNat_lt, Int.ofNat_le, Nat.not_lt, Nat.not_le] at h))
    (refine wpl_skip S rfl rfl rfl rfl rfl ?_; clear S a; intro a S)
    (refine wpl_skip S rfl rfl rfl rfl rfl ?_; clear S a; intro a S)
    (refine wpl_skip S rfl rfl rfl rfl rfl ?_; clear S a; intro a S)
    first | (refine wpl_v S rfl rfl rfl (sv_pure S rfl) ?_; clear S a; intro a S) | (refine wpl_v S rfl rfl rfl (sv_pickB S rfl rfl rfl rfl) ?_; clear S a; intro a S)
    refine wpList_nil ?_
    (refine hKq4 _ _ ?_; try (clear hKq4 Kq4))
    refine wpc_true S rfl ?_
    (refine wp_seq_k ?_; intro Kq5 hKq5)
    refine wp_region_lit ?_
    (refine wpl_v S rfl rfl rfl (sv_build S rfl rfl rfl) ?_; clear S a; intro a S)
    (refine wpl_storeO S rfl rfl rfl rfl rfl (by rfl) (by simp [Value.cells, Value.oneCell', splice]) (by rfl) ?_; clear S; intro w S)
    (refine wpl_v S rfl rfl rfl (sv_pure S rfl) ?_; clear S a; intro a S)
    refine wpList_nil ?_
    (refine hKq5 _ _ ?_; try (clear hKq5 Kq5))
    refine wp_ret ?_
    (have S0 := S; replace S := S.drop1)
    
    refine fin_ret S (results2 Try.results30 (RV.cellO S0 rfl (by rfl)) (RV.tmp S0 rfl)) ?_
    (first | (have h9 := hs9; have e9 : sbC names l nm = some x := (by unfold sbC; rw [if_pos (by omega), hj, Int.toNat_natCast]; exact hx); rw [e9]; exact ⟨_, _, _, x, rfl, hs9, (fun t h => by cases h; rfl), rfl⟩) | (have e9 : sbC names l nm = none := sbC_none (by omega); rw [e9]; exact ⟨none, 0, 0, ([], .nil), rfl, SlF.nil _, (fun t h => by cases h), rfl⟩) | trace_state)
set_option maxHeartbeats 4000000 in
theorem substCt (F : Heap) (nm : List UInt8) (ar : Fo) (cs : List Value) (names : List (List UInt8)) (l : Fo) (vn vb : Value) (h : TyC F cs nm ar) (h1 : ar.len * 40 ≤ 140737488355328) (h2 : Thin ar) (hn : SlC F vn names.length (strs names)) (hnl : names.length ≤ 9223372036854775807) (hs : SlF F vb l) (hth : Thin l) :
    Ct Try.prog 14 [.agg ⟨cs⟩, vn, vb] F [] (fun F' _ u => ∃ ao q c, u = .agg ⟨[.string (bs (sbv names l (nm, ar)).1), .slice ao q c]⟩ ∧ SlF F' (.slice ao q c) (sbv names l (nm, ar)).2) := by
  have h0 := h
  obtain ⟨v, rfl, ao, cap, rfl, hcap, hpos⟩ := h
  have hn0 := hn
  obtain ⟨an, cn, rfl, hcn, -⟩ := hn
  have hs0 := hs
  obtain ⟨ab, cb, rfl, hcb, hposb⟩ := hs
  refine Ct.enter Try.func14 rfl Try.ntmps14 rfl fun w0 a S => ?_
  (refine wp_seq_k ?_; intro Kq1 hKq1)
  refine wp_region_lit ?_
  (refine wpl_box S rfl rfl rfl rfl rfl ?_; clear S a; intro b3 a w S)
  (refine wpl_box S rfl rfl rfl rfl rfl ?_; clear S a; intro b4 a w S)
  (refine wpl_box S rfl rfl rfl rfl rfl ?_; clear S a; intro b5 a w S)
  (refine wpl_alloc S rfl rfl rfl rfl ?_; clear S a; intro b6 a w S)
  refine wpList_nil ?_
  (refine hKq1 _ _ ?_; try (clear hKq1 Kq1))
  (refine wp_seq_k ?_; intro Kq2 hKq2)
  (refine wp_seq_k ?_; intro Kq3 hKq3)
  refine wp_region_lit ?_
  first | (refine wpl_v S rfl rfl rfl (sv_loadAO S rfl rfl (by rfl)) ?_; clear S a; intro a S) | (refine wpl_v S rfl rfl rfl (sv_loadAF S rfl rfl (by assumption) (by rfl)) ?_; clear S a; intro a S)
  (refine wpl_call0 S rfl rfl rfl rfl rfl rfl (mayCt F nm ar _ h0) rfl ?_; clear S a; intro v a w hv S; subst hv)
  (refine wpl_v S rfl rfl rfl (sv_pure S rfl) ?_; clear S a; intro a S)
  (refine wpl_v S rfl rfl rfl (sv_pure S rfl) ?_; clear S a; intro a S)
  refine wpl_guard S rfl rfl rfl rfl rfl ?_ ?_
  · (intro h S'; clear S; have S := S'; clear S'; (try simp only [decide_eq_true_eq, decide_eq_false_iff_not, beq_iff_eq, bne_iff_ne, bne_eq_false_iff_eq, beq_eq_false_iff_ne, ne_eq, Bool.not_eq_true', Bool.not_eq_false', Bool.not_eq_true, Bool.not_eq_false, Bool.not_true, Bool.not_false, Int.ofNat_lt, Int.ofNat_le, Nat.not_lt, Nat.not_le] at h))
    first | (refine wpl_v S rfl rfl rfl (sv_loadO S rfl rfl (by rfl)) ?_; clear S a; intro a S) | (refine wpl_v S rfl rfl rfl (sv_loadF S rfl rfl (by assumption)) ?_; clear S a; intro a S)
    refine wpl_take S rfl rfl rfl ?_
    (refine wpl_call0 S rfl rfl rfl rfl rfl rfl (mayLCt F l _ hs0) rfl ?_; clear S a; intro v a w hv S; subst hv)
    refine wpl_take S rfl rfl rfl ?_
    (refine wpl_v S rfl rfl rfl (sv_pure S rfl) ?_; clear S a; intro a S)
    first | (refine wpl_v S rfl rfl rfl (sv_pure S rfl) ?_; clear S a; intro a S) | (refine wpl_v S rfl rfl rfl (sv_pickB S rfl rfl rfl rfl) ?_; clear S a; intro a S)
    refine wpList_nil ?_
    (refine hKq3 _ _ ?_; try (clear hKq3 Kq3))
    refine wpc_split S rfl (fun h => ?_) (fun h => ?_)
    · (skip; (try simp only [decide_eq_true_eq, decide_eq_false_iff_not, beq_iff_eq, bne_iff_ne, bne_eq_false_iff_eq, beq_eq_false_iff_ne, ne_eq, Bool.not_eq_true', Bool.not_eq_false', Bool.not_eq_true, Bool.not_eq_false, Bool.not_true, Bool.not_false, Int.ofNat_lt, Int.ofNat_le, Nat.not_lt, Nat.not_le] at h))
      (refine wp_seq_k ?_; intro Kq4 hKq4)
      refine wp_region_lit ?_
      first | (refine wpl_v S rfl rfl rfl (sv_loadAO S rfl rfl (by rfl)) ?_; clear S a; intro a S) | (refine wpl_v S rfl rfl rfl (sv_loadAF S rfl rfl (by assumption) (by rfl)) ?_; clear S a; intro a S)
      (refine wpl_call (Gs := []) (Gr := [[(b6, _)], [(b5, _)], [(b4, _)], [(b3, _)]]) S rfl rfl rfl rfl rfl rfl (ownNoneCt F nm ar _ h0 h1 h2) rfl (by exact List.Perm.refl _) ?_; clear S a; intro u9 F9 G9 a w hv hF9 S; obtain ⟨a9, q9, c9, rfl, hs9, rfl⟩ := hv; (simp only [List.nil_append] at S))
      (refine wpl_storeO S rfl rfl rfl rfl rfl (by rfl) (by simp [Value.cells, Value.oneCell', splice]) (by rfl) ?_; clear S; intro w S)
      refine wpList_nil ?_
      (refine hKq4 _ _ ?_; try (clear hKq4 Kq4))
      refine wp_ret ?_
      refine fin_ret S (results1 Try.results14 (RV.cellO S rfl (by rfl))) ?_
      (first | (have hmm : may nm ar = true ∧ mayL l = true := (by constructor <;> first | assumption | (simp at *; done) | simp_all); have e9 : sbv names l (nm, ar) = subT (cbS (sbC names l)) (nm, ar) := (by unfold sbv; rw [if_pos hmm]); rw [e9]; exact ⟨_, _, _, rfl, hs9⟩) | (have hmm : ¬ (may nm ar = true ∧ mayL l = true) := (by rintro ⟨h1, h2⟩; simp_all); have e9 : sbv names l (nm, ar) = (nm, ar) := (by unfold sbv; rw [if_neg hmm]); rw [e9]; exact ⟨_, _, _, rfl, hs9⟩) | trace_state)
    · (skip; (try simp only [decide_eq_true_eq, decide_eq_false_iff_not, beq_iff_eq, bne_iff_ne, bne_eq_false_iff_eq, beq_eq_false_iff_ne, ne_eq, Bool.not_eq_true', Bool.not_eq_false', Bool.not_eq_true, Bool.not_eq_false, Bool.not_true, Bool.not_false, Int.ofNat_lt, Int.ofNat_le, Nat.not_lt, Nat.not_le] at h))
      refine wp_skip ?_
      (refine hKq2 _ _ ?_; try (clear hKq2 Kq2))
      (refine wp_seq_k ?_; intro Kq4 hKq4)
      refine wp_region_lit ?_
      first | (refine wpl_v S rfl rfl rfl (sv_loadAO S rfl rfl (by rfl)) ?_; clear S a; intro a S) | (refine wpl_v S rfl rfl rfl (sv_loadAF S rfl rfl (by assumption) (by rfl)) ?_; clear S a; intro a S)
      (refine wpl_v S rfl rfl rfl (sv_pure S rfl) ?_; clear S a; intro a S)
      (replace S : St _ _ _ _ _ F [[(b5, .cells ⟨[.slice ab l.len cb]⟩ 25 (0, 0))], [(b4, .cells ⟨[.slice an names.length cn]⟩ 42 (0, 0))], [(b6, .cells ⟨[.string (bs []), .slice none 0 0]⟩ 32 (0, 0))], [(b3, .cells ⟨[.string (bs nm), .slice ao ar.len cap]⟩ 32 (0, 0))]] _ _ := St.permI S 4 rfl [1, 2, 0, 3] (by decide); have hle1 := add_le (G1 := []) S; replace S := St.freeze (G1 := []) S; (simp only [List.nil_append] at S hle1); have hb5 : Cel (F.add [(b5, .cells ⟨[.slice ab l.len cb]⟩ 25 (0, 0))]) b5 0 (.slice ab l.len cb) := ⟨_, _, _, Heap.add_new (p := (b5, _)) (List.mem_singleton.2 rfl) (by simp), rfl⟩; generalize (F.add [(b5, .cells ⟨[.slice ab l.len cb]⟩ 25 (0, 0))]) = F1 at S hle1 hb5; have hle2 := add_le (G1 := []) S; replace S := St.freeze (G1 := []) S; (simp only [List.nil_append] at S hle2); have hb4 : Cel (F1.add [(b4, .cells ⟨[.slice an names.length cn]⟩ 42 (0, 0))]) b4 0 (.slice an names.length cn) := ⟨_, _, _, Heap.add_new (p := (b4, _)) (List.mem_singleton.2 rfl) (by simp), rfl⟩; generalize (F1.add [(b4, .cells ⟨[.slice an names.length cn]⟩ 42 (0, 0))]) = F2 at S hle2 hb4; have hF2 : ∀ b o, F b = some o → F2 b = some o := (fun b o h => hle2 _ _ (hle1 _ _ h)); refine wpl_call (Gs := []) (Gr := [[(b6, _)], [(b3, _)]]) S rfl rfl rfl rfl rfl rfl (ownCt F2 30 [] [.pointer (some ⟨b4, 0, none⟩), .pointer (some ⟨b5, 0, none⟩)] (ar.size + 1) (fun _ G => G = []) (sbC names l) (subst1Ct F2 b4 b5 names l _ _ hb4 (hb5.mono hle2) (hn0.mono hF2) hnl (hs0.mono hF2) hth _) (ar.size + 1) F2 nm ar _ 0 [] (Nat.lt_succ_self _) (fun _ _ h => h) (h0.mono hF2) h1 h2 (by omega) rfl) rfl (by exact List.Perm.refl _) ?_; clear S a; intro u9 F9 G9 a w hv hF9 S; obtain ⟨a9, q9, c9, k9, rfl, hs9, -, rfl⟩ := hv; (simp only [List.nil_append] at S))
      (refine wpl_storeO S rfl rfl rfl rfl rfl (by rfl) (by simp [Value.cells, Value.oneCell', splice]) (by rfl) ?_; clear S; intro w S)
      refine wpList_nil ?_
      (refine hKq4 _ _ ?_; try (clear hKq4 Kq4))
      refine wp_ret ?_
      refine fin_ret S (results1 Try.results14 (RV.cellO S rfl (by rfl))) ?_
      (first | (have hmm : may nm ar = true ∧ mayL l = true := (by constructor <;> first | assumption | (simp at *; done) | simp_all); have e9 : sbv names l (nm, ar) = subT (cbS (sbC names l)) (nm, ar) := (by unfold sbv; rw [if_pos hmm]); rw [e9]; exact ⟨_, _, _, rfl, hs9⟩) | (have hmm : ¬ (may nm ar = true ∧ mayL l = true) := (by rintro ⟨h1, h2⟩; simp_all); have e9 : sbv names l (nm, ar) = (nm, ar) := (by unfold sbv; rw [if_neg hmm]); rw [e9]; exact ⟨_, _, _, rfl, hs9⟩) | trace_state)
  · (intro h; clear S a; intro a S; (try simp only [decide_eq_true_eq, decide_eq_false_iff_not, beq_iff_eq, bne_iff_ne, bne_eq_false_iff_eq, beq_eq_false_iff_ne, ne_eq, Bool.not_eq_true', Bool.not_eq_false', Bool.not_eq_true, Bool.not_eq_false, Bool.not_true, Bool.not_false, Int.ofNat_lt, Int.ofNat_le, Nat.not_lt, Nat.not_le] at h))
    (refine wpl_skip S rfl rfl rfl rfl rfl ?_; clear S a; intro a S)
    (refine wpl_skip S rfl rfl rfl rfl rfl ?_; clear S a; intro a S)
    first | (refine wpl_v S rfl rfl rfl (sv_pure S rfl) ?_; clear S a; intro a S) | (refine wpl_v S rfl rfl rfl (sv_pickB S rfl rfl rfl rfl) ?_; clear S a; intro a S)
    refine wpList_nil ?_
    (refine hKq3 _ _ ?_; try (clear hKq3 Kq3))
    refine wpc_true S rfl ?_
    (refine wp_seq_k ?_; intro Kq4 hKq4)
    refine wp_region_lit ?_
    first | (refine wpl_v S rfl rfl rfl (sv_loadAO S rfl rfl (by rfl)) ?_; clear S a; intro a S) | (refine wpl_v S rfl rfl rfl (sv_loadAF S rfl rfl (by assumption) (by rfl)) ?_; clear S a; intro a S)
    (refine wpl_call (Gs := []) (Gr := [[(b6, _)], [(b5, _)], [(b4, _)], [(b3, _)]]) S rfl rfl rfl rfl rfl rfl (ownNoneCt F nm ar _ h0 h1 h2) rfl (by exact List.Perm.refl _) ?_; clear S a; intro u9 F9 G9 a w hv hF9 S; obtain ⟨a9, q9, c9, rfl, hs9, rfl⟩ := hv; (simp only [List.nil_append] at S))
    (refine wpl_storeO S rfl rfl rfl rfl rfl (by rfl) (by simp [Value.cells, Value.oneCell', splice]) (by rfl) ?_; clear S; intro w S)
    refine wpList_nil ?_
    (refine hKq4 _ _ ?_; try (clear hKq4 Kq4))
    refine wp_ret ?_
    refine fin_ret S (results1 Try.results14 (RV.cellO S rfl (by rfl))) ?_
    (first | (have hmm : may nm ar = true ∧ mayL l = true := (by constructor <;> first | assumption | (simp at *; done) | simp_all); have e9 : sbv names l (nm, ar) = subT (cbS (sbC names l)) (nm, ar) := (by unfold sbv; rw [if_pos hmm]); rw [e9]; exact ⟨_, _, _, rfl, hs9⟩) | (have hmm : ¬ (may nm ar = true ∧ mayL l = true) := (by rintro ⟨h1, h2⟩; simp_all); have e9 : sbv names l (nm, ar) = (nm, ar) := (by unfold sbv; rw [if_neg hmm]); rw [e9]; exact ⟨_, _, _, rfl, hs9⟩) | trace_state)
end Go.Proofs.Ytcjnmehpkcblfaa
