/- The walks of Vars and of its function. -/
import Derived.Test.YtcjnmehpkcblfaaUnOw
namespace Go.Proofs.Ytcjnmehpkcblfaa
open Go Go.Wk Go.Un
set_option linter.unusedSimpArgs false
set_option linter.unusedVariables false
attribute [local irreducible] Go.wpList Go.Code.wp Go.wpStill Go.Wk.wpPre Go.bodyPost Go.Calls Go.Wk.Ct Go.Wk.OwnS
attribute [local irreducible] Go.Wk.wpG Go.Wk.wpM

def IntE (es : List (List UInt8 × Value)) : Prop := ∀ p ∈ es, ∃ z : Int, p.2 = .int .i64 z
theorem IntE.get {es : List (List UInt8 × Value)} (h : IntE es) (nm : List UInt8) : ∃ z : Int, (mGet es nm).getD (.int .i64 0) = .int .i64 z := by
  unfold mGet
  cases hf : es.find? (fun p => decide (nm = p.1)) with
  | none => exact ⟨0, rfl⟩
  | some p => obtain ⟨z, hz⟩ := h p (List.mem_of_find?_eq_some hf); exact ⟨z, hz⟩
theorem IntE.set : ∀ {es : List (List UInt8 × Value)}, IntE es → ∀ (nm : List UInt8) (z : Int), IntE (mSet es nm (.int .i64 z))
  | [], _, nm, z => fun p hp => by rw [mSet, List.mem_singleton] at hp; subst hp; exact ⟨z, rfl⟩
  | (a, u) :: r, h, nm, z => by
    unfold mSet
    split
    · intro p hp
      rcases List.mem_cons.1 hp with rfl | hp
      · exact ⟨z, rfl⟩
      · exact h p (List.mem_cons_of_mem _ hp)
    · intro p hp
      rcases List.mem_cons.1 hp with rfl | hp
      · exact h _ (List.mem_cons_self ..)
      · exact IntE.set (fun q hq => h q (List.mem_cons_of_mem _ hq)) nm z p hp
def VarI (bm bo mb : Nat) (k : Nat) (G : List Grp) : Prop := ∃ (v : Value) (g : Grp) (es : List (List UInt8 × Value)) (names : List (List UInt8)), G = [[(bm, .cells ⟨[.map (some mb)]⟩ 51 (0, 0))], [(mb, mObj kS es)], [(bo, .cells ⟨[v]⟩ 42 (0, 0))], g] ∧ OwnS 9 1 v names.length (strs names) g ∧ names.length ≤ k ∧ IntE es
set_option maxHeartbeats 4000000 in
theorem vars1Ct (F : Heap) (bm bo mb : Nat) : CbCt F 28 [] [.pointer (some ⟨bm, 0, none⟩), .pointer (some ⟨bo, 0, none⟩)] 10000000 (VarI bm bo mb) (fun _ => none) := by
  unfold CbCt
  intro F' k G nm hF hnm hk hI
  obtain ⟨v, g, es, names, rfl, hown, hnl, hE⟩ := hI
  refine Ct.enter Try.func28 rfl Try.ntmps28 rfl fun w0 a S => ?_
  (refine wp_seq_k ?_; intro Kq1 hKq1)
  refine wp_region_lit ?_
  (refine wpl_alloc S rfl rfl rfl rfl ?_; clear S a; intro b4 a w S)
  (refine wpl_v S rfl rfl rfl (sv_pure S rfl) ?_; clear S a; intro a S)
  refine wpList_nil ?_
  (refine hKq1 _ _ ?_; try (clear hKq1 Kq1))
  (refine wp_seq_k ?_; intro Kq2 hKq2)
  (refine wp_seq_k ?_; intro Kq3 hKq3)
  refine wp_region_lit ?_
  first | (refine wpl_v S rfl rfl rfl (sv_loadO S rfl rfl (by rfl)) ?_; clear S a; intro a S) | (refine wpl_v S rfl rfl rfl (sv_loadF S rfl rfl (by assumption)) ?_; clear S a; intro a S)
  (refine wpl_v S rfl rfl rfl (sv_pure S rfl) ?_; clear S a; intro a S)
  first | (refine wpl_v S rfl rfl rfl (sv_lookupO (enc := kS) S rfl rfl rfl) ?_; clear S a; intro a S) | (refine wpl_v S rfl rfl rfl (sv_lookupF (enc := kS) S rfl rfl rfl (by assumption)) ?_; clear S a; intro a S)
  (obtain ⟨z8, hz8⟩ := hE.get nm; rw [hz8] at S)
  (refine wpl_v S rfl rfl rfl (sv_addW S rfl rfl rfl) ?_; clear S a; intro a S)
  (refine wpl_mapSet (enc := kS) S rfl rfl rfl rfl rfl rfl ?_; clear S; intro w S)
  refine wpList_nil ?_
  (refine hKq3 _ _ ?_; try (clear hKq3 Kq3))
  (refine wp_seq_k ?_; intro Kq4 hKq4)
  (have hE2 := hE.set nm (IntKind.i64.wrap (z8 + 1)))
  refine wp_region_lit ?_
  first | (refine wpl_v S rfl rfl rfl (sv_loadO S rfl rfl (by rfl)) ?_; clear S a; intro a S) | (refine wpl_v S rfl rfl rfl (sv_loadF S rfl rfl (by assumption)) ?_; clear S a; intro a S)
  (refine wpl_v S rfl rfl rfl (sv_pure S rfl) ?_; clear S a; intro a S)
  first | (refine wpl_v S rfl rfl rfl (sv_lookupO (enc := kS) S rfl rfl rfl) ?_; clear S a; intro a S) | (refine wpl_v S rfl rfl rfl (sv_lookupF (enc := kS) S rfl rfl rfl (by assumption)) ?_; clear S a; intro a S)
  (obtain ⟨z12, hz12⟩ := hE2.get nm; rw [hz12] at S)
  (refine wpl_v S rfl rfl rfl (sv_pure S rfl) ?_; clear S a; intro a S)
  refine wpList_nil ?_
  (refine hKq4 _ _ ?_; try (clear hKq4 Kq4))
  refine wpc_split S rfl (fun h => ?_) (fun h => ?_)
  · (skip; (try simp only [decide_eq_true_eq, decide_eq_false_iff_not, beq_iff_eq, bne_iff_ne, bne_eq_false_iff_eq, beq_eq_false_iff_ne, ne_eq, Bool.not_eq_true', Bool.not_eq_false', Bool.not_eq_true, Bool.not_eq_false, Bool.not_true, Bool.not_false, Int.ofNat_lt, Int.ofNat_le, Nat.not_lt, Nat.not_le] at h))
    refine wp_region_lit ?_
    first | (refine wpl_v S rfl rfl rfl (sv_loadO S rfl rfl (by rfl)) ?_; clear S a; intro a S) | (refine wpl_v S rfl rfl rfl (sv_loadF S rfl rfl (by assumption)) ?_; clear S a; intro a S)
    (refine wpl_v S rfl rfl rfl (sv_pure S rfl) ?_; clear S a; intro a S)
    (refine wpl_append S rfl rfl rfl rfl rfl rfl rfl rfl rfl rfl rfl (fun _ => rfl) hown (by rfl) (by simp [Value.cells, splice, splice]) (by simp [Value.cells, Value.oneCell', splice, splice]) rfl (by rfl) (by rfl) rfl (by omega) (by omega) ?_; clear hown S a; intro v u g a w hown S)
    (refine wpl_store1 S rfl rfl rfl rfl rfl hown.oneCell (by first | (simp; done) | (simp [Value.cells]; done) | exact Nat.le_of_ble_eq_true rfl) ?_; clear S; intro w S)
    refine wpList_nil ?_
    (refine hKq2 _ _ ?_; try (clear hKq2 Kq2))
    (refine wp_seq_k ?_; intro Kq5 hKq5)
    refine wp_region_lit ?_
    (refine wpl_v S rfl rfl rfl (sv_build S rfl rfl rfl) ?_; clear S a; intro a S)
    (refine wpl_storeO S rfl rfl rfl rfl rfl (by rfl) (by simp [Value.cells, Value.oneCell', splice]) (by rfl) ?_; clear S; intro w S)
    (refine wpl_v S rfl rfl rfl (sv_pure S rfl) ?_; clear S a; intro a S)
    refine wpList_nil ?_
    (refine hKq5 _ _ ?_; try (clear hKq5 Kq5))
    refine wp_ret ?_
    (have S0 := S; replace S := S.drop1)
    
    refine fin_ret S (results2 Try.results28 (RV.cellO S0 rfl (by rfl)) (RV.tmp S0 rfl)) ?_
    (first | (have h1 : z12 = 1 := (by assumption); exact ⟨none, 0, 0, ([], .nil), rfl, SlF.nil _, (fun t h => by cases h), ⟨_, _, _, names ++ [nm], rfl, (by rw [List.length_append, strs, List.map_append]; exact hown), (by rw [List.length_append]; simp; omega), hE2⟩⟩) | (have h1 : ¬ z12 = 1 := (by assumption); exact ⟨none, 0, 0, ([], .nil), rfl, SlF.nil _, (fun t h => by cases h), ⟨_, _, _, names, rfl, hown, by omega, hE2⟩⟩) | trace_state)
  · (skip; (try simp only [decide_eq_true_eq, decide_eq_false_iff_not, beq_iff_eq, bne_iff_ne, bne_eq_false_iff_eq, beq_eq_false_iff_ne, ne_eq, Bool.not_eq_true', Bool.not_eq_false', Bool.not_eq_true, Bool.not_eq_false, Bool.not_true, Bool.not_false, Int.ofNat_lt, Int.ofNat_le, Nat.not_lt, Nat.not_le] at h))
    refine wp_skip ?_
    (refine hKq2 _ _ ?_; try (clear hKq2 Kq2))
    (refine wp_seq_k ?_; intro Kq5 hKq5)
    refine wp_region_lit ?_
    (refine wpl_v S rfl rfl rfl (sv_build S rfl rfl rfl) ?_; clear S a; intro a S)
    (refine wpl_storeO S rfl rfl rfl rfl rfl (by rfl) (by simp [Value.cells, Value.oneCell', splice]) (by rfl) ?_; clear S; intro w S)
    (refine wpl_v S rfl rfl rfl (sv_pure S rfl) ?_; clear S a; intro a S)
    refine wpList_nil ?_
    (refine hKq5 _ _ ?_; try (clear hKq5 Kq5))
    refine wp_ret ?_
    (have S0 := S; replace S := S.drop1)
    
    refine fin_ret S (results2 Try.results28 (RV.cellO S0 rfl (by rfl)) (RV.tmp S0 rfl)) ?_
    (first | (have h1 : z12 = 1 := (by assumption); exact ⟨none, 0, 0, ([], .nil), rfl, SlF.nil _, (fun t h => by cases h), ⟨_, _, _, names ++ [nm], rfl, (by rw [List.length_append, strs, List.map_append]; exact hown), (by rw [List.length_append]; simp; omega), hE2⟩⟩) | (have h1 : ¬ z12 = 1 := (by assumption); exact ⟨none, 0, 0, ([], .nil), rfl, SlF.nil _, (fun t h => by cases h), ⟨_, _, _, names, rfl, hown, by omega, hE2⟩⟩) | trace_state)
theorem mayL_get : ∀ {l : Fo} {k : Nat} {x : Ty}, mayL l = true → l.get? k = some x → may x.1 x.2 = true
  | .cons nm ar r, 0, x, h, hx => by cases hx; exact ((Bool.and_eq_true _ _).mp h).1
  | .cons nm ar r, k + 1, x, h, hx => mayL_get ((Bool.and_eq_true _ _).mp h).2 hx
theorem thin_size : ∀ (l : Fo), l.size ≤ 1000000 → Thin l
  | .nil, _ => trivial
  | .cons nm ar r, h => by
    simp only [Fo.size] at h
    have := Fo.len_size ar
    exact ⟨by omega, thin_size ar (by omega), thin_size r (by omega)⟩
set_option maxHeartbeats 4000000 in
theorem varsCt (F : Heap) (l : Fo) (v : Value) (h : SlF F v l) (hl : l.len ≤ 1000) : Ct Try.prog 13 [v] F [] (fun F' _ u => ∃ (ao : Option Addr) (c : Nat) (names : List (List UInt8)), u = .slice ao names.length c ∧ SlC F' u names.length (strs names) ∧ names.length ≤ 10000000) := by
  have h0 := h
  obtain ⟨ao, cap, rfl, hcap, hpos⟩ := h
  refine Ct.enter Try.func13 rfl Try.ntmps13 rfl fun w0 a S => ?_
  (refine wp_seq_k ?_; intro Kq1 hKq1)
  refine wp_region_lit ?_
  (refine wpl_v S rfl rfl rfl (sv_pure S rfl) ?_; clear S a; intro a S)
  refine wpList_nil ?_
  (refine hKq1 _ _ ?_; try (clear hKq1 Kq1))
  (refine wp_seq_k ?_; intro Kq2 hKq2)
  (refine wp_seq_k ?_; intro Kq3 hKq3)
  refine wp_region_lit ?_
  (refine wpl_v S rfl rfl rfl (sv_pure S rfl) ?_; clear S a; intro a S)
  (refine wpl_call0 S rfl rfl rfl rfl rfl rfl (mayLCt F l _ h0) rfl ?_; clear S a; intro v a w hv S; subst hv)
  (refine wpl_v S rfl rfl rfl (sv_pure S rfl) ?_; clear S a; intro a S)
  refine wpList_nil ?_
  (refine hKq3 _ _ ?_; try (clear hKq3 Kq3))
  refine wpc_split S rfl (fun h => ?_) (fun h => ?_)
  · (skip; (try simp only [decide_eq_true_eq, decide_eq_false_iff_not, beq_iff_eq, bne_iff_ne, bne_eq_false_iff_eq, beq_eq_false_iff_ne, ne_eq, Bool.not_eq_true', Bool.not_eq_false', Bool.not_eq_true, Bool.not_eq_false, Bool.not_true, Bool.not_false, Int.ofNat_lt, Int.ofNat_le, Nat.not_lt, Nat.not_le] at h))
    (refine wp_seq_k ?_; intro Kq4 hKq4)
    refine wp_region_lit ?_
    (refine wpl_v S rfl rfl rfl (sv_pure S rfl) ?_; clear S a; intro a S)
    refine wpList_nil ?_
    (refine hKq4 _ _ ?_; try (clear hKq4 Kq4))
    refine wp_ret ?_
    (first | (have h9 := hown; replace S := S.drop1.drop1.drop1; have hle := add_le (G1 := []) S; replace S := St.freeze (G1 := []) S; (simp only [List.nil_append] at S hle)) | skip)
    
    refine fin_ret S (results1 Try.results13 (RV.tmp S rfl)) ?_
    (first | (have h9 := hown; exact ⟨_, _, names, rfl, hown.slC F3, by omega⟩) | (exact ⟨none, 0, [], rfl, ⟨none, 0, rfl, Nat.le_refl _, fun h => absurd h (by decide)⟩, by decide⟩) | trace_state)
  · (skip; (try simp only [decide_eq_true_eq, decide_eq_false_iff_not, beq_iff_eq, bne_iff_ne, bne_eq_false_iff_eq, beq_eq_false_iff_ne, ne_eq, Bool.not_eq_true', Bool.not_eq_false', Bool.not_eq_true, Bool.not_eq_false, Bool.not_true, Bool.not_false, Int.ofNat_lt, Int.ofNat_le, Nat.not_lt, Nat.not_le] at h))
    refine wp_skip ?_
    (refine hKq2 _ _ ?_; try (clear hKq2 Kq2))
    (refine wp_seq_k ?_; intro Kq4 hKq4)
    refine wp_region_lit ?_
    (refine wpl_alloc S rfl rfl rfl rfl ?_; clear S a; intro b3 a w S)
    refine wpList_nil ?_
    (refine hKq4 _ _ ?_; try (clear hKq4 Kq4))
    (refine wp_seq_k ?_; intro Kq5 hKq5)
    refine wp_region_lit ?_
    (refine wpl_makeMap kS S rfl rfl rfl rfl ?_; clear S a; intro b10 a w S)
    (refine wpl_alloc S rfl rfl rfl rfl ?_; clear S a; intro b4 a w S)
    (refine wpl_store1 S rfl rfl rfl rfl rfl rfl (by first | (simp; done) | (simp [Value.cells]; done) | exact Nat.le_of_ble_eq_true rfl) ?_; clear S; intro w S)
    refine wpList_nil ?_
    (refine hKq5 _ _ ?_; try (clear hKq5 Kq5))
    (refine wp_seq_k ?_; intro Kq6 hKq6)
    (refine wp_seq_k ?_; intro Kq7 hKq7)
    refine wp_region_lit ?_
    (refine wpl_v S rfl rfl rfl (sv_pure S rfl) ?_; clear S a; intro a S)
    (refine wpl_v S rfl rfl rfl (sv_lenSl S rfl rfl) ?_; clear S a; intro a S)
    (refine wpl_v S rfl rfl rfl (sv_pure S rfl) ?_; clear S a; intro a S)
    refine wpList_nil ?_
    (refine hKq7 _ _ ?_; try (clear hKq7 Kq7))
    refine wp_block ?_
    refine wpc_loop (fun m a w' => ∃ (i : Nat) (F3 : Heap) (G3 : List Grp) (k3 : Nat), m = l.len - i ∧ i ≤ l.len ∧ (∀ b o, F b = some o → F3 b = some o) ∧ VarI b4 b3 b10 k3 G3 ∧ k3 ≤ i * 2048 ∧ St 22 [(3, ptr b3), (4, ptr b4), (11, .slice ao l.len cap), (12, .int .i64 l.len), (13, .int .i64 i)] w0 F [] F3 G3 a w') ?_ ?_
    · (replace S := S.nilg; replace S := St.permI S 4 rfl [1, 2, 3, 0] (by decide); refine ⟨l.len, 0, F, _, 0, by omega, Nat.zero_le _, fun _ _ h => h, ⟨.slice none 0 0, [], [], [], rfl, OwnS.nil _ _, Nat.le_refl _, fun p hp => absurd hp List.not_mem_nil⟩, by omega, ?_⟩; refine S.keep ?_; repeat (first | exact trivial | refine ⟨rfl, ?_⟩))
    · (clear S; rintro m a w ⟨i, F3, G3, k3, rfl, hil, hF3, hI3, hk3, S⟩)
      (refine wp_seq_k ?_; intro Kq8 hKq8)
      refine wp_region_lit ?_
      (refine wpl_v S rfl rfl rfl (sv_pure S rfl) ?_; clear S a; intro a S)
      refine wpList_nil ?_
      (refine hKq8 _ _ ?_; try (clear hKq8 Kq8))
      (refine wp_seq_k ?_; intro Kq9 hKq9)
      refine wpc_split S rfl (fun h => ?_) (fun h => ?_)
      · (skip; (try simp only [decide_eq_true_eq, decide_eq_false_iff_not, beq_iff_eq, bne_iff_ne, bne_eq_false_iff_eq, beq_eq_false_iff_ne, ne_eq, Bool.not_eq_true', Bool.not_eq_false', Bool.not_eq_true, Bool.not_eq_false, Bool.not_true, Bool.not_false, Int.ofNat_lt, Int.ofNat_le, Nat.not_lt, Nat.not_le] at h))
        refine wp_skip ?_
        (refine hKq9 _ _ ?_; try (clear hKq9 Kq9))
        (refine wp_seq_k ?_; intro Kq10 hKq10)
        refine wp_block ?_
        (refine wp_seq_k ?_; intro Kq11 hKq11)
        (have hml : mayL l = true := (by assumption); obtain ⟨b8, o8, hao, x, v1, hx, hc1, hT1⟩ := FoM.pos hpos (k := i) (by omega); rw [hao] at S; replace hc1 := Cels.mono hF3 hc1; replace hT1 := hT1.mono hF3; have hT1c := hT1; obtain ⟨a91, c91, rfl, -⟩ := hT1c; have hxs := may_size (mayL_get hml hx); have hxl := Fo.len_size x.2)
        refine wp_region_lit ?_
        (refine wpl_v S rfl rfl rfl (sv_indexAddrSl S rfl rfl rfl (by first | omega | (simp only [List.length_append, List.length_cons, List.length_nil]; omega))) ?_; clear S a; intro a S)
        first | (refine wpl_v S rfl rfl rfl (sv_loadAO S rfl rfl (by rfl)) ?_; clear S a; intro a S) | (refine wpl_v S rfl rfl rfl (sv_loadAF S rfl rfl (by assumption) (by rfl)) ?_; clear S a; intro a S)
        (refine wpl_alloc S rfl rfl rfl rfl ?_; clear S a; intro b6 a w S)
        (refine wpl_storeO S rfl rfl rfl rfl rfl (by rfl) (by simp [Value.cells, Value.oneCell', splice]) (by rfl) ?_; clear S; intro w S)
        refine wpList_nil ?_
        (refine hKq11 _ _ ?_; try (clear hKq11 Kq11))
        refine wp_region_lit ?_
        first | (refine wpl_v S rfl rfl rfl (sv_loadAO S rfl rfl (by rfl)) ?_; clear S a; intro a S) | (refine wpl_v S rfl rfl rfl (sv_loadAF S rfl rfl (by assumption) (by rfl)) ?_; clear S a; intro a S)
        (refine wpl_v S rfl rfl rfl (sv_pure S rfl) ?_; clear S a; intro a S)
        (refine wpl_call (Gs := G3) (Gr := [[(b6, _)]]) S rfl rfl rfl rfl rfl rfl (ownCt F 28 [] [.pointer (some ⟨b4, 0, none⟩), .pointer (some ⟨b3, 0, none⟩)] 10000000 (VarI b4 b3 b10) (fun _ => none) (vars1Ct F b4 b3 b10) (x.2.size + 1) F3 x.1 x.2 _ k3 G3 (by omega) hF3 ⟨_, rfl, hT1⟩ (by omega) (thin_size _ (by omega)) (by omega) hI3) rfl (grp_perm (A := [[(b6, _)]])) ?_; clear S a; intro u9 F4 G4 a w hv hF4 S; obtain ⟨a4, q4, c4, k4, rfl, hs4, hk4, hI4⟩ := hv; replace S : St _ _ _ _ _ F4 ([(b6, _)] :: G4) _ _ := St.rotL S)
        refine wpList_nil ?_
        (refine hKq10 _ _ ?_; try (clear hKq10 Kq10))
        refine wp_region_lit ?_
        (refine wpl_v S rfl rfl rfl (sv_add S rfl rfl rfl (by first | omega | (simp only [List.length_append, List.length_cons, List.length_nil]; omega))) ?_; clear S a; intro a S)
        (refine wpl_v S rfl rfl rfl (sv_pure S rfl) ?_; clear S a; intro a S)
        refine wpList_nil ?_
        change ∃ m', _ ∧ _
        (rw [← hao] at S; replace S := S.drop1; refine ⟨l.len - (i + 1), by omega, i + 1, F4, G4, k4, rfl, by omega, fun b o h => hF4 _ _ (hF3 _ _ h), hI4, by omega, ?_⟩; refine S.keep ?_; repeat (first | exact trivial | refine ⟨rfl, ?_⟩))
      · (skip; (try simp only [decide_eq_true_eq, decide_eq_false_iff_not, beq_iff_eq, bne_iff_ne, bne_eq_false_iff_eq, beq_eq_false_iff_ne, ne_eq, Bool.not_eq_true', Bool.not_eq_false', Bool.not_eq_true, Bool.not_eq_false, Bool.not_true, Bool.not_false, Int.ofNat_lt, Int.ofNat_le, Nat.not_lt, Nat.not_le] at h))
        refine wp_exit ?_
        (refine hKq6 _ _ ?_; try (clear hKq6 Kq6))
        (refine wp_seq_k ?_; intro Kq10 hKq10)
        (obtain ⟨vo, go, es, names, rfl, hown, hnl, hE⟩ := hI3; obtain ⟨aoN, cN9, rfl, -, -, -⟩ := hown.at)
        refine wp_region_lit ?_
        first | (refine wpl_v S rfl rfl rfl (sv_loadO S rfl rfl (by rfl)) ?_; clear S a; intro a S) | (refine wpl_v S rfl rfl rfl (sv_loadF S rfl rfl (by assumption)) ?_; clear S a; intro a S)
        (refine wpl_v S rfl rfl rfl (sv_pure S rfl) ?_; clear S a; intro a S)
        refine wpList_nil ?_
        (refine hKq10 _ _ ?_; try (clear hKq10 Kq10))
        refine wp_ret ?_
        (first | (have h9 := hown; replace S := S.drop1.drop1.drop1; have hle := add_le (G1 := []) S; replace S := St.freeze (G1 := []) S; (simp only [List.nil_append] at S hle)) | skip)
        
        refine fin_ret S (results1 Try.results13 (RV.tmp S rfl)) ?_
        (first | (have h9 := hown; exact ⟨_, _, names, rfl, hown.slC F3, by omega⟩) | (exact ⟨none, 0, [], rfl, ⟨none, 0, rfl, Nat.le_refl _, fun h => absurd h (by decide)⟩, by decide⟩) | trace_state)
end Go.Proofs.Ytcjnmehpkcblfaa
