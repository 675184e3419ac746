/- The walks of New and Resolve. -/
import Derived.Test.YtcjnmehpkcblfaaDoorUnP
import Derived.Test.YtcjnmehpkcblfaaDoorUnX
namespace Go.Proofs.YtcjnmehpkcblfaaDoor
open Go Go.Wk Go.Un
set_option linter.unusedSimpArgs false
set_option linter.unusedVariables false
attribute [local irreducible] Go.wpList Go.Code.wp Go.wpStill Go.Wk.wpPre Go.bodyPost Go.Calls Go.Wk.Ct Go.Wk.OwnS
attribute [local irreducible] Go.Wk.wpG Go.Wk.wpM

/-- The table at tb says σ. -/
def TabQ (F : Heap) (tb N : Nat) (σ : List UInt8 → Ty) (G : List Grp) : Prop := ∃ mb T A, TabN F tb mb T G ∧ TK T A σ ∧ T.nd.length ≤ N
theorem TabQ.mono {F F' : Heap} (hF : ∀ b o, F b = some o → F' b = some o) {tb N : Nat} {σ : List UInt8 → Ty} {G : List Grp} (h : TabQ F tb N σ G) : TabQ F' tb N σ G := by
  obtain ⟨mb, T, A, h1, h2, h3⟩ := h
  exact ⟨mb, T, A, TabM.mono hF h1, h2, h3⟩
theorem TabQ.good {F : Heap} {tb N : Nat} {σ : List UInt8 → Ty} {G : List Grp} (h : TabQ F tb N σ G) : Go.Un.Good σ := by
  obtain ⟨mb, T, A, h1, h2, h3⟩ := h
  exact h2.t.good h2.i
theorem TabQ.le {F : Heap} {tb N M : Nat} {σ : List UInt8 → Ty} {G : List Grp} (h : TabQ F tb N σ G) (hN : N ≤ M) : TabQ F tb M σ G := by
  obtain ⟨mb, T, A, h1, h2, h3⟩ := h
  exact ⟨mb, T, A, h1, h2, by omega⟩
theorem rd_tk {F : Heap} {tb mb : Nat} {T T' : Tb} {A : Ab} {σ : List UInt8 → Ty} {GG : List Grp} (hK : TK T A σ) (h : RdP F tb mb T.nd.length T.nd A T T' GG) : TabN F tb mb T' GG ∧ TK T' A σ ∧ T'.nd.length = T.nd.length := by
  obtain ⟨nd, vs, pa, st, le⟩ := T
  obtain ⟨nd', vs', pa', st', le'⟩ := T'
  obtain ⟨h1, h2, h3, h4⟩ := h
  simp only at h1 h2 h3 h4
  subst h1; subst h2
  exact ⟨h3, ⟨h4, hK.i, hK.t⟩, rfl⟩
/-- What Resolve tells. -/
def resv (σ : List UInt8 → Ty) (a : Ty) : Int × Ty := if may a.1 a.2 = true then (if (wholeT (subT σ a).2 1 2048).1 = true then (0, subT σ a) else (40, ([], .nil))) else (4, ([], .nil))
set_option maxHeartbeats 4000000 in
theorem resolveCt (F : Heap) (tb N : Nat) (σ : List UInt8 → Ty) (G : List Grp) (nm : List UInt8) (ar : Fo) (cs : List Value) (hT : TyC F cs nm ar) (hN : N + 2048 ≤ 10000000) (hQ : TabQ F tb N σ G) :
    Ct Tryd.prog 29 [.pointer (some ⟨tb, 0, none⟩), .agg ⟨cs⟩] F G (fun F' G' u => ∃ ao q c, u = .tuple ⟨[.agg ⟨[.string (bs (resv σ (nm, ar)).2.1), .slice ao q c]⟩, .int .i64 (resv σ (nm, ar)).1]⟩ ∧ SlF F' (.slice ao q c) (resv σ (nm, ar)).2.2 ∧ TabQ F' tb (N + 2048) σ G') := by
  have hQ0 := hQ
  obtain ⟨mb, T, A, hTab, hK, hlN⟩ := hQ
  have hT0 := hT
  obtain ⟨v, rfl, ao, cap, rfl, hcap, hpos⟩ := hT
  refine Ct.enter Tryd.func29 rfl Tryd.ntmps29 rfl fun w0 a S => ?_
  (refine wp_seq_k ?_; intro Kq1 hKq1)
  refine wp_region_lit ?_
  (refine wpl_box S rfl rfl rfl rfl rfl ?_; clear S a; intro b3 a w S)
  (refine wpl_alloc S rfl rfl rfl rfl ?_; clear S a; intro b4 a w S)
  (refine wpl_v S rfl rfl rfl (sv_pure S rfl) ?_; clear S a; intro a S)
  refine wpList_nil ?_
  (refine hKq1 _ _ ?_; try (clear hKq1 Kq1))
  (refine wp_seq_k ?_; intro Kq2 hKq2)
  refine wp_block ?_
  (refine wp_seq_k ?_; intro Kq3 hKq3)
  refine wp_region_lit ?_
  (refine wpl_v S rfl rfl rfl (sv_pure S rfl) ?_; clear S a; intro a S)
  (refine wpl_v S rfl rfl rfl (sv_lit (c := false) (sv_eqPtrSome S rfl rfl rfl) (by rfl)) ?_; clear S a; intro a S)
  (refine wpl_v S rfl rfl rfl (sv_lit (c := false) (sv_pure S rfl) (by rfl)) ?_; clear S a; intro a S)
  refine wpList_nil ?_
  (refine hKq3 _ _ ?_; try (clear hKq3 Kq3))
  refine wpc_false S rfl ?_
  (refine wp_seq_k ?_; intro Kq4 hKq4)
  refine wp_region_lit ?_
  first | (refine wpl_v S rfl rfl rfl (sv_loadAO S rfl rfl (by rfl)) ?_; clear S a; intro a S) | (refine wpl_v S rfl rfl rfl (sv_loadAF S rfl rfl (by assumption) (by rfl)) ?_; clear S a; intro a S)
  (refine wpl_call0 S rfl rfl rfl rfl rfl rfl (mayCt F nm ar _ hT0) rfl ?_; clear S a; intro v a w hv S; subst hv)
  (refine wpl_v S rfl rfl rfl (sv_pure S rfl) ?_; clear S a; intro a S)
  (refine wpl_v S rfl rfl rfl (sv_pure S rfl) ?_; clear S a; intro a S)
  refine wpList_nil ?_
  (refine hKq4 _ _ ?_; try (clear hKq4 Kq4))
  refine wpc_split S rfl (fun h => ?_) (fun h => ?_)
  · (skip; (try simp only [decide_eq_true_eq, decide_eq_false_iff_not, beq_iff_eq, bne_iff_ne, bne_eq_false_iff_eq, beq_eq_false_iff_ne, ne_eq, Bool.not_eq_true', Bool.not_eq_false', Bool.not_eq_true, Bool.not_eq_false, Bool.not_true, Bool.not_false, Int.ofNat_lt, Int.ofNat_le, Nat.not_lt, Nat.not_le] at h))
    (refine wp_seq_k ?_; intro Kq5 hKq5)
    refine wp_region_lit ?_
    (refine wpl_v S rfl rfl rfl (sv_build S rfl rfl rfl) ?_; clear S a; intro a S)
    (refine wpl_storeO S rfl rfl rfl rfl rfl (by rfl) (by simp [Value.cells, Value.oneCell', splice]) (by rfl) ?_; clear S; intro w S)
    (refine wpl_v S rfl rfl rfl (sv_pure S rfl) ?_; clear S a; intro a S)
    refine wpList_nil ?_
    (refine hKq5 _ _ ?_; try (clear hKq5 Kq5))
    refine wp_ret ?_
    (have S0 := S; (first | (have h9 := hWR; replace S := S.drop1.drop1.drop1.drop1) | (replace S := S.drop1.drop1)))
    
    refine fin_ret S (results2 Tryd.results29 (RV.cellO S0 rfl (by rfl)) (RV.tmp S0 rfl)) ?_
    (first | (have h9 := hWR; obtain ⟨hTab3, hK3, hl3⟩ := rd_tk hK1 hR3; have hq3 : TabQ F2 tb (N + 2048) σ GG3 := ⟨mb, T3, A1, hTab3, hK3, by omega⟩; first | (have hbad : (wholeT (subT σ (nm, ar)).2 1 2048).1 = false := (by simpa using h); have e9 : resv σ (nm, ar) = (40, ([], .nil)) := (by unfold resv; rw [if_pos hmay, if_neg (by rw [hbad]; simp)]); rw [e9]; exact ⟨none, 0, 0, rfl, SlF.nil _, hq3⟩) | (have hok : (wholeT (subT σ (nm, ar)).2 1 2048).1 = true := (by simpa using h); have e9 : resv σ (nm, ar) = (0, subT σ (nm, ar)) := (by unfold resv; rw [if_pos hmay, if_pos hok]); rw [e9]; obtain ⟨rfl, hs9⟩ := hWR.1 hok; exact ⟨_, _, _, rfl, hs9, hq3⟩)) | (have hbad : may nm ar = false := (by simpa using h); have e9 : resv σ (nm, ar) = (4, ([], .nil)) := (by unfold resv; rw [if_neg (by rw [hbad]; simp)]); rw [e9]; exact ⟨none, 0, 0, rfl, SlF.nil _, hQ0.le (by omega)⟩) | trace_state)
  · (skip; (try simp only [decide_eq_true_eq, decide_eq_false_iff_not, beq_iff_eq, bne_iff_ne, bne_eq_false_iff_eq, beq_eq_false_iff_ne, ne_eq, Bool.not_eq_true', Bool.not_eq_false', Bool.not_eq_true, Bool.not_eq_false, Bool.not_true, Bool.not_false, Int.ofNat_lt, Int.ofNat_le, Nat.not_lt, Nat.not_le] at h))
    refine wp_skip ?_
    (refine hKq2 _ _ ?_; try (clear hKq2 Kq2))
    (refine wp_seq_k ?_; intro Kq5 hKq5)
    (have hmay : may nm ar = true := (by first | assumption | simpa using h); have hsz := may_size hmay; have hlen9 := takeT_len nm ar T)
    refine wp_region_lit ?_
    (refine wpl_alloc S rfl rfl rfl rfl ?_; clear S a; intro b6 a w S)
    (refine wpl_store1 S rfl rfl rfl rfl rfl rfl (by first | (simp; done) | (simp [Value.cells]; done) | exact Nat.le_of_ble_eq_true rfl) ?_; clear S; intro w S)
    refine wpList_nil ?_
    (refine hKq5 _ _ ?_; try (clear hKq5 Kq5))
    (refine wp_seq_k ?_; intro Kq6 hKq6)
    refine wp_region_lit ?_
    (refine wpl_v S rfl rfl rfl (sv_pure S rfl) ?_; clear S a; intro a S)
    (refine wpl_v S rfl rfl rfl (sv_pure S rfl) ?_; clear S a; intro a S)
    first | (refine wpl_v S rfl rfl rfl (sv_loadAO S rfl rfl (by rfl)) ?_; clear S a; intro a S) | (refine wpl_v S rfl rfl rfl (sv_loadAF S rfl rfl (by assumption) (by rfl)) ?_; clear S a; intro a S)
    (refine wpl_call (Gs := G) (Gr := [[(b6, _)], [(b4, _)], [(b3, _)]]) S rfl rfl rfl rfl rfl rfl (takeCt tb mb (ar.size + 1) F nm ar _ T G (by omega) hT0 hTab (by omega)) rfl (grp_perm (A := [[(b6, _)], [(b4, _)], [(b3, _)]])) ?_; clear S a; intro u9 F1 G1 a w hv hF1 S; obtain ⟨rfl, hTab1⟩ := hv; obtain ⟨A1, ⟨hK1, hX1⟩, hi1, hR1⟩ := takeT_law hK (may_ok hmay); replace S : St _ _ _ _ _ F1 ([(b6, _)] :: [(b4, _)] :: [(b3, _)] :: G1) _ _ := St.rotL S)
    (replace S : St _ _ _ _ _ F1 ([(b4, _)] :: [(b3, _)] :: [(b6, _)] :: G1) _ _ := ⟨S.fr, S.tr.perm (by simp only [List.flatten_cons]; exact List.perm_append_comm.trans (by simp only [List.append_assoc]; exact List.Perm.append_left _ (List.Perm.append_left _ (List.perm_append_comm))))⟩; refine wpl_call (Gs := [(b6, _)] :: G1) (Gr := [[(b4, _)], [(b3, _)]]) S rfl rfl rfl rfl rfl rfl (wholeCt tb mb (takeT nm ar T).1.nd.length _ A1 rfl (by omega) hK1.i.j.w ((subT σ (nm, ar)).2.size + 1) F1 (takeT nm ar T).1 G1 (takeT nm ar T).2 b6 1 2048 (subT σ (nm, ar)).1 (subT σ (nm, ar)).2 (by omega) rfl hTab1 hK1.r hi1 hR1 (by omega) (by omega) (by omega) (by omega)) rfl (grp_perm (A := [[(b4, _)], [(b3, _)]])) ?_; clear S a; intro u9 F2 G2 a w hv hF2 S; obtain ⟨T3, GG3, nm3, ao3, q3, c3, rfl, rfl, hR3, hWR⟩ := hv; replace S : St _ _ _ _ _ F2 ([(b4, _)] :: [(b3, _)] :: [(b6, _)] :: GG3) _ _ := St.rotL S)
    (refine wpl_v S rfl rfl rfl (sv_pure S rfl) ?_; clear S a; intro a S)
    (refine wpl_v S rfl rfl rfl (sv_pure S rfl) ?_; clear S a; intro a S)
    (refine wpl_v S rfl rfl rfl (sv_pure S rfl) ?_; clear S a; intro a S)
    (refine wpl_alloc S rfl rfl rfl rfl ?_; clear S a; intro b7 a w S)
    (refine wpl_storeO S rfl rfl rfl rfl rfl (by rfl) (by simp [Value.cells, Value.oneCell', splice]) (by rfl) ?_; clear S; intro w S)
    (refine wpl_v S rfl rfl rfl (sv_pure S rfl) ?_; clear S a; intro a S)
    refine wpList_nil ?_
    (refine hKq6 _ _ ?_; try (clear hKq6 Kq6))
    (refine wp_seq_k ?_; intro Kq7 hKq7)
    (refine wp_seq_k ?_; intro Kq8 hKq8)
    refine wp_region_lit ?_
    (refine wpl_v S rfl rfl rfl (sv_pure S rfl) ?_; clear S a; intro a S)
    (refine wpl_v S rfl rfl rfl (sv_pure S rfl) ?_; clear S a; intro a S)
    refine wpList_nil ?_
    (refine hKq8 _ _ ?_; try (clear hKq8 Kq8))
    refine wpc_split S rfl (fun h => ?_) (fun h => ?_)
    · (skip; (try simp only [decide_eq_true_eq, decide_eq_false_iff_not, beq_iff_eq, bne_iff_ne, bne_eq_false_iff_eq, beq_eq_false_iff_ne, ne_eq, Bool.not_eq_true', Bool.not_eq_false', Bool.not_eq_true, Bool.not_eq_false, Bool.not_true, Bool.not_false, Int.ofNat_lt, Int.ofNat_le, Nat.not_lt, Nat.not_le] at h))
      (refine wp_seq_k ?_; intro Kq9 hKq9)
      refine wp_region_lit ?_
      (refine wpl_v S rfl rfl rfl (sv_build S rfl rfl rfl) ?_; clear S a; intro a S)
      (refine wpl_storeO S rfl rfl rfl rfl rfl (by rfl) (by simp [Value.cells, Value.oneCell', splice]) (by rfl) ?_; clear S; intro w S)
      (refine wpl_v S rfl rfl rfl (sv_pure S rfl) ?_; clear S a; intro a S)
      refine wpList_nil ?_
      (refine hKq9 _ _ ?_; try (clear hKq9 Kq9))
      refine wp_ret ?_
      (have S0 := S; (first | (have h9 := hWR; replace S := S.drop1.drop1.drop1.drop1) | (replace S := S.drop1.drop1)))
      
      refine fin_ret S (results2 Tryd.results29 (RV.cellO S0 rfl (by rfl)) (RV.tmp S0 rfl)) ?_
      (first | (have h9 := hWR; obtain ⟨hTab3, hK3, hl3⟩ := rd_tk hK1 hR3; have hq3 : TabQ F2 tb (N + 2048) σ GG3 := ⟨mb, T3, A1, hTab3, hK3, by omega⟩; first | (have hbad : (wholeT (subT σ (nm, ar)).2 1 2048).1 = false := (by simpa using h); have e9 : resv σ (nm, ar) = (40, ([], .nil)) := (by unfold resv; rw [if_pos hmay, if_neg (by rw [hbad]; simp)]); rw [e9]; exact ⟨none, 0, 0, rfl, SlF.nil _, hq3⟩) | (have hok : (wholeT (subT σ (nm, ar)).2 1 2048).1 = true := (by simpa using h); have e9 : resv σ (nm, ar) = (0, subT σ (nm, ar)) := (by unfold resv; rw [if_pos hmay, if_pos hok]); rw [e9]; obtain ⟨rfl, hs9⟩ := hWR.1 hok; exact ⟨_, _, _, rfl, hs9, hq3⟩)) | (have hbad : may nm ar = false := (by simpa using h); have e9 : resv σ (nm, ar) = (4, ([], .nil)) := (by unfold resv; rw [if_neg (by rw [hbad]; simp)]); rw [e9]; exact ⟨none, 0, 0, rfl, SlF.nil _, hQ0.le (by omega)⟩) | trace_state)
    · (skip; (try simp only [decide_eq_true_eq, decide_eq_false_iff_not, beq_iff_eq, bne_iff_ne, bne_eq_false_iff_eq, beq_eq_false_iff_ne, ne_eq, Bool.not_eq_true', Bool.not_eq_false', Bool.not_eq_true, Bool.not_eq_false, Bool.not_true, Bool.not_false, Int.ofNat_lt, Int.ofNat_le, Nat.not_lt, Nat.not_le] at h))
      refine wp_skip ?_
      (refine hKq7 _ _ ?_; try (clear hKq7 Kq7))
      (refine wp_seq_k ?_; intro Kq9 hKq9)
      refine wp_region_lit ?_
      first | (refine wpl_v S rfl rfl rfl (sv_loadAO S rfl rfl (by rfl)) ?_; clear S a; intro a S) | (refine wpl_v S rfl rfl rfl (sv_loadAF S rfl rfl (by assumption) (by rfl)) ?_; clear S a; intro a S)
      (refine wpl_storeO S rfl rfl rfl rfl rfl (by rfl) (by simp [Value.cells, Value.oneCell', splice]) (by rfl) ?_; clear S; intro w S)
      (refine wpl_v S rfl rfl rfl (sv_pure S rfl) ?_; clear S a; intro a S)
      refine wpList_nil ?_
      (refine hKq9 _ _ ?_; try (clear hKq9 Kq9))
      refine wp_ret ?_
      (have S0 := S; (first | (have h9 := hWR; replace S := S.drop1.drop1.drop1.drop1) | (replace S := S.drop1.drop1)))
      
      refine fin_ret S (results2 Tryd.results29 (RV.cellO S0 rfl (by rfl)) (RV.tmp S0 rfl)) ?_
      (first | (have h9 := hWR; obtain ⟨hTab3, hK3, hl3⟩ := rd_tk hK1 hR3; have hq3 : TabQ F2 tb (N + 2048) σ GG3 := ⟨mb, T3, A1, hTab3, hK3, by omega⟩; first | (have hbad : (wholeT (subT σ (nm, ar)).2 1 2048).1 = false := (by simpa using h); have e9 : resv σ (nm, ar) = (40, ([], .nil)) := (by unfold resv; rw [if_pos hmay, if_neg (by rw [hbad]; simp)]); rw [e9]; exact ⟨none, 0, 0, rfl, SlF.nil _, hq3⟩) | (have hok : (wholeT (subT σ (nm, ar)).2 1 2048).1 = true := (by simpa using h); have e9 : resv σ (nm, ar) = (0, subT σ (nm, ar)) := (by unfold resv; rw [if_pos hmay, if_pos hok]); rw [e9]; obtain ⟨rfl, hs9⟩ := hWR.1 hok; exact ⟨_, _, _, rfl, hs9, hq3⟩)) | (have hbad : may nm ar = false := (by simpa using h); have e9 : resv σ (nm, ar) = (4, ([], .nil)) := (by unfold resv; rw [if_neg (by rw [hbad]; simp)]); rw [e9]; exact ⟨none, 0, 0, rfl, SlF.nil _, hQ0.le (by omega)⟩) | trace_state)
end Go.Proofs.YtcjnmehpkcblfaaDoor
