/- The walks of Vars and of its function, exactly. -/
import Derived.Test.YtcjnmehpkcblfaaDoorUfO
namespace Go.Proofs.YtcjnmehpkcblfaaDoor
open Go Go.Wk Go.Un
set_option linter.unusedSimpArgs false
set_option linter.unusedVariables false
attribute [local irreducible] Go.wpList Go.Code.wp Go.wpStill Go.Wk.wpPre Go.bodyPost Go.Calls Go.Wk.Ct Go.Wk.OwnS
attribute [local irreducible] Go.Wk.wpG Go.Wk.wpM

/-- The map counts what was met. -/
def CntE (es : List (List UInt8 × Value)) (k : List (List UInt8)) : Prop := ∀ nm, (mGet es nm).getD (.int .i64 0) = .int .i64 ((k.count nm : Nat) : Int)
theorem CntE.set {es : List (List UInt8 × Value)} {k : List (List UInt8)} (h : CntE es k) (nm : List UInt8) (n : Nat) (hn : n = k.count nm + 1) : CntE (mSet es nm (.int .i64 (n : Int))) (k ++ [nm]) := fun x => by
  rw [List.count_append, List.count_singleton]
  by_cases e : nm = x
  · subst e
    rw [mGet_set, if_pos rfl]
    simp [hn]
  · rw [mGet_set, if_neg (fun h2 => e h2.symm), h x]
    have : (nm == x) = false := by simpa using e
    rw [this]; simp
def VarI (bm bo mb : Nat) (k : List (List UInt8)) (G : List Grp) : Prop := ∃ (v : Value) (g : Grp) (es : List (List UInt8 × Value)), G = [[(bm, .cells ⟨[.map (some mb)]⟩ 43 (0, 0))], [(mb, mObj kS es)], [(bo, .cells ⟨[v]⟩ 32 (0, 0))], g] ∧ OwnS 9 1 v (dds k).length (strs (dds k)) g ∧ CntE es k
theorem wrap_small {n : Nat} (h : n ≤ 10000001) : IntKind.i64.wrap (n : Int) = (n : Int) := IntWalk.i64_in _ (by omega)
set_option maxHeartbeats 4000000 in
theorem vars1Ct (F : Heap) (bm bo mb : Nat) : CbCt F 25 [] [.pointer (some ⟨bm, 0, none⟩), .pointer (some ⟨bo, 0, none⟩)] 10000000 (VarI bm bo mb) (fun _ => none) := by
  unfold CbCt
  intro F' k G nm hF hnm hk hI
  obtain ⟨v, g, es, rfl, hown, hE⟩ := hI
  have hct : k.count nm ≤ k.length := List.count_le_length
  have hnl := dds_len k
  refine Ct.enter Tryd.func25 rfl Tryd.ntmps25 rfl fun w0 a S => ?_
  (refine wp_seq_k ?_; intro Kq1 hKq1)
  refine wp_region_lit ?_
  (refine wpl_alloc S rfl rfl rfl rfl ?_; clear S a; intro b4 a w S)
  (refine wpl_v S rfl rfl rfl (sv_pure S rfl) ?_; clear S a; intro a S)
  refine wpList_nil ?_
  (refine hKq1 _ _ ?_; try (clear hKq1 Kq1))
  (refine wp_seq_k ?_; intro Kq2 hKq2)
  (refine wp_seq_k ?_; intro Kq3 hKq3)
  refine wp_region_lit ?_
  first | (refine wpl_v S rfl rfl rfl (sv_loadO S rfl rfl (by rfl)) ?_; clear S a; intro a S) | (refine wpl_v S rfl rfl rfl (sv_loadF S rfl rfl (by assumption)) ?_; clear S a; intro a S)
  (refine wpl_v S rfl rfl rfl (sv_pure S rfl) ?_; clear S a; intro a S)
  first | (refine wpl_v S rfl rfl rfl (sv_lookupO (enc := kS) S rfl rfl rfl) ?_; clear S a; intro a S) | (refine wpl_v S rfl rfl rfl (sv_lookupF (enc := kS) S rfl rfl rfl (by assumption)) ?_; clear S a; intro a S)
  (rw [hE nm] at S)
  (refine wpl_v S rfl rfl rfl (sv_addW S rfl rfl rfl) ?_; clear S a; intro a S)
  (have e9 : IntKind.i64.wrap (((k.count nm : Nat) : Int) + 1) = ((k.count nm + 1 : Nat) : Int) := (by rw [show (((k.count nm : Nat) : Int) + 1) = ((k.count nm + 1 : Nat) : Int) from (by simp)]; exact wrap_small (by omega)); rw [e9] at S)
  (refine wpl_mapSet (enc := kS) S rfl rfl rfl rfl rfl rfl ?_; clear S; intro w S)
  refine wpList_nil ?_
  (refine hKq3 _ _ ?_; try (clear hKq3 Kq3))
  (refine wp_seq_k ?_; intro Kq4 hKq4)
  refine wp_region_lit ?_
  first | (refine wpl_v S rfl rfl rfl (sv_loadO S rfl rfl (by rfl)) ?_; clear S a; intro a S) | (refine wpl_v S rfl rfl rfl (sv_loadF S rfl rfl (by assumption)) ?_; clear S a; intro a S)
  (refine wpl_v S rfl rfl rfl (sv_pure S rfl) ?_; clear S a; intro a S)
  first | (refine wpl_v S rfl rfl rfl (sv_lookupO (enc := kS) S rfl rfl rfl) ?_; clear S a; intro a S) | (refine wpl_v S rfl rfl rfl (sv_lookupF (enc := kS) S rfl rfl rfl (by assumption)) ?_; clear S a; intro a S)
  (have hE2 := hE.set nm _ rfl; rw [hE2 nm] at S)
  (refine wpl_v S rfl rfl rfl (sv_pure S rfl) ?_; clear S a; intro a S)
  refine wpList_nil ?_
  (refine hKq4 _ _ ?_; try (clear hKq4 Kq4))
  refine wpc_split S rfl (fun h => ?_) (fun h => ?_)
  · (skip; (try simp only [decide_eq_true_eq, decide_eq_false_iff_not, beq_iff_eq, bne_iff_ne, bne_eq_false_iff_eq, beq_eq_false_iff_ne, ne_eq, Bool.not_eq_true', Bool.not_eq_false', Bool.not_eq_true, Bool.not_eq_false, Bool.not_true, Bool.not_false, Int.ofNat_lt, Int.ofNat_le, Nat.not_lt, Nat.not_le] at h))
    refine wp_region_lit ?_
    first | (refine wpl_v S rfl rfl rfl (sv_loadO S rfl rfl (by rfl)) ?_; clear S a; intro a S) | (refine wpl_v S rfl rfl rfl (sv_loadF S rfl rfl (by assumption)) ?_; clear S a; intro a S)
    (refine wpl_v S rfl rfl rfl (sv_pure S rfl) ?_; clear S a; intro a S)
    (refine wpl_append S rfl rfl rfl rfl rfl rfl rfl rfl rfl rfl rfl (fun _ => rfl) hown (by rfl) (by simp [Value.cells, splice, splice]) (by simp [Value.cells, Value.oneCell', splice, splice]) rfl (by rfl) (by rfl) rfl (by omega) (by omega) ?_; clear hown S a; intro v u g a w hown S)
    (refine wpl_store1 S rfl rfl rfl rfl rfl hown.oneCell (by first | (simp; done) | (simp [Value.cells]; done) | exact Nat.le_of_ble_eq_true rfl) ?_; clear S; intro w S)
    refine wpList_nil ?_
    (refine hKq2 _ _ ?_; try (clear hKq2 Kq2))
    (refine wp_seq_k ?_; intro Kq5 hKq5)
    refine wp_region_lit ?_
    (refine wpl_v S rfl rfl rfl (sv_build S rfl rfl rfl) ?_; clear S a; intro a S)
    (refine wpl_storeO S rfl rfl rfl rfl rfl (by rfl) (by simp [Value.cells, Value.oneCell', splice]) (by rfl) ?_; clear S; intro w S)
    (refine wpl_v S rfl rfl rfl (sv_pure S rfl) ?_; clear S a; intro a S)
    refine wpList_nil ?_
    (refine hKq5 _ _ ?_; try (clear hKq5 Kq5))
    refine wp_ret ?_
    (have S0 := S; replace S := S.drop1)
    
    refine fin_ret S (results2 Tryd.results25 (RV.cellO S0 rfl (by rfl)) (RV.tmp S0 rfl)) ?_
    (have hE9 := hE.set nm _ rfl; first | (have h1 : (((k ++ [nm]).count nm : Nat) : Int) = 1 := (by assumption); have hm : nm ∉ k := (by intro hm; have := List.count_pos_iff.2 hm; rw [List.count_append, List.count_singleton] at h1; simp at h1; omega); have hd : dds (k ++ [nm]) = dds k ++ [nm] := (by rw [dds_app1]; unfold put1; rw [if_neg fun h => hm ((mem_dds _ _).1 h)]); exact ⟨none, 0, 0, ([], .nil), rfl, SlF.nil _, (fun t h => by cases h), ⟨_, _, _, rfl, (by rw [hd, List.length_append, strs, List.map_append]; exact hown), hE9⟩⟩) | (have h1 : ¬ (((k ++ [nm]).count nm : Nat) : Int) = 1 := (by assumption); have hm : nm ∈ k := (by apply Classical.byContradiction; intro hm; have := List.count_eq_zero.2 hm; rw [List.count_append, List.count_singleton, this] at h1; simp at h1); have hd : dds (k ++ [nm]) = dds k := (by rw [dds_app1]; unfold put1; rw [if_pos ((mem_dds _ _).2 hm)]); exact ⟨none, 0, 0, ([], .nil), rfl, SlF.nil _, (fun t h => by cases h), ⟨_, _, _, rfl, (by rw [hd]; exact hown), hE9⟩⟩) | trace_state)
  · (skip; (try simp only [decide_eq_true_eq, decide_eq_false_iff_not, beq_iff_eq, bne_iff_ne, bne_eq_false_iff_eq, beq_eq_false_iff_ne, ne_eq, Bool.not_eq_true', Bool.not_eq_false', Bool.not_eq_true, Bool.not_eq_false, Bool.not_true, Bool.not_false, Int.ofNat_lt, Int.ofNat_le, Nat.not_lt, Nat.not_le] at h))
    refine wp_skip ?_
    (refine hKq2 _ _ ?_; try (clear hKq2 Kq2))
    (refine wp_seq_k ?_; intro Kq5 hKq5)
    refine wp_region_lit ?_
    (refine wpl_v S rfl rfl rfl (sv_build S rfl rfl rfl) ?_; clear S a; intro a S)
    (refine wpl_storeO S rfl rfl rfl rfl rfl (by rfl) (by simp [Value.cells, Value.oneCell', splice]) (by rfl) ?_; clear S; intro w S)
    (refine wpl_v S rfl rfl rfl (sv_pure S rfl) ?_; clear S a; intro a S)
    refine wpList_nil ?_
    (refine hKq5 _ _ ?_; try (clear hKq5 Kq5))
    refine wp_ret ?_
    (have S0 := S; replace S := S.drop1)
    
    refine fin_ret S (results2 Tryd.results25 (RV.cellO S0 rfl (by rfl)) (RV.tmp S0 rfl)) ?_
    (have hE9 := hE.set nm _ rfl; first | (have h1 : (((k ++ [nm]).count nm : Nat) : Int) = 1 := (by assumption); have hm : nm ∉ k := (by intro hm; have := List.count_pos_iff.2 hm; rw [List.count_append, List.count_singleton] at h1; simp at h1; omega); have hd : dds (k ++ [nm]) = dds k ++ [nm] := (by rw [dds_app1]; unfold put1; rw [if_neg fun h => hm ((mem_dds _ _).1 h)]); exact ⟨none, 0, 0, ([], .nil), rfl, SlF.nil _, (fun t h => by cases h), ⟨_, _, _, rfl, (by rw [hd, List.length_append, strs, List.map_append]; exact hown), hE9⟩⟩) | (have h1 : ¬ (((k ++ [nm]).count nm : Nat) : Int) = 1 := (by assumption); have hm : nm ∈ k := (by apply Classical.byContradiction; intro hm; have := List.count_eq_zero.2 hm; rw [List.count_append, List.count_singleton, this] at h1; simp at h1); have hd : dds (k ++ [nm]) = dds k := (by rw [dds_app1]; unfold put1; rw [if_pos ((mem_dds _ _).2 hm)]); exact ⟨none, 0, 0, ([], .nil), rfl, SlF.nil _, (fun t h => by cases h), ⟨_, _, _, rfl, (by rw [hd]; exact hown), hE9⟩⟩) | trace_state)
theorem mayL_get : ∀ {l : Fo} {k : Nat} {x : Ty}, mayL l = true → l.get? k = some x → may x.1 x.2 = true
  | .cons nm ar r, 0, x, h, hx => by cases hx; exact ((Bool.and_eq_true _ _).mp h).1
  | .cons nm ar r, k + 1, x, h, hx => mayL_get ((Bool.and_eq_true _ _).mp h).2 hx
theorem thin_size : ∀ (l : Fo), l.size ≤ 1000000 → Thin l
  | .nil, _ => trivial
  | .cons nm ar r, h => by
    simp only [Fo.size] at h
    have := Fo.len_size ar
    exact ⟨by omega, thin_size ar (by omega), thin_size r (by omega)⟩
theorem seqL_drop {l : Fo} {k : Nat} {x : Ty} (h : l.get? k = some x) : seqL (l.drop k) = seqT x ++ seqL (l.drop (k + 1)) := by rw [Fo.drop_get h, seqL_cons]
set_option maxHeartbeats 4000000 in
theorem varsCt (F : Heap) (l : Fo) (v : Value) (h : SlF F v l) (hl : l.len ≤ 1000) : Ct Tryd.prog 10 [v] F [] (fun F' _ u => ∃ (ao : Option Addr) (c : Nat), u = .slice ao (vnames l).length c ∧ SlC F' u (vnames l).length (strs (vnames l)) ∧ (vnames l).length ≤ 10000000) := by
  have h0 := h
  obtain ⟨ao, cap, rfl, hcap, hpos⟩ := h
  refine Ct.enter Tryd.func10 rfl Tryd.ntmps10 rfl fun w0 a S => ?_
  (refine wp_seq_k ?_; intro Kq1 hKq1)
  refine wp_region_lit ?_
  (refine wpl_v S rfl rfl rfl (sv_pure S rfl) ?_; clear S a; intro a S)
  refine wpList_nil ?_
  (refine hKq1 _ _ ?_; try (clear hKq1 Kq1))
  (refine wp_seq_k ?_; intro Kq2 hKq2)
  (refine wp_seq_k ?_; intro Kq3 hKq3)
  refine wp_region_lit ?_
  (refine wpl_v S rfl rfl rfl (sv_pure S rfl) ?_; clear S a; intro a S)
  (refine wpl_call0 S rfl rfl rfl rfl rfl rfl (mayLCt F l _ h0) rfl ?_; clear S a; intro v a w hv S; subst hv)
  (refine wpl_v S rfl rfl rfl (sv_pure S rfl) ?_; clear S a; intro a S)
  refine wpList_nil ?_
  (refine hKq3 _ _ ?_; try (clear hKq3 Kq3))
  refine wpc_split S rfl (fun h => ?_) (fun h => ?_)
  · (skip; (try simp only [decide_eq_true_eq, decide_eq_false_iff_not, beq_iff_eq, bne_iff_ne, bne_eq_false_iff_eq, beq_eq_false_iff_ne, ne_eq, Bool.not_eq_true', Bool.not_eq_false', Bool.not_eq_true, Bool.not_eq_false, Bool.not_true, Bool.not_false, Int.ofNat_lt, Int.ofNat_le, Nat.not_lt, Nat.not_le] at h))
    (refine wp_seq_k ?_; intro Kq4 hKq4)
    refine wp_region_lit ?_
    (refine wpl_v S rfl rfl rfl (sv_pure S rfl) ?_; clear S a; intro a S)
    refine wpList_nil ?_
    (refine hKq4 _ _ ?_; try (clear hKq4 Kq4))
    refine wp_ret ?_
    (first | (have h9 := hown; replace S := S.drop1.drop1.drop1; have hle := add_le (G1 := []) S; replace S := St.freeze (G1 := []) S; (simp only [List.nil_append] at S hle)) | skip)
    
    refine fin_ret S (results1 Tryd.results10 (RV.tmp S rfl)) ?_
    (first | (have h9 := hown; exact ⟨_, _, rfl, hown.slC F3, by omega⟩) | (have hm0 : ¬ mayL l = true := (by first | assumption | simp_all); have e9 : vnames l = [] := (by unfold vnames; rw [if_neg hm0]); rw [e9]; exact ⟨none, 0, rfl, ⟨none, 0, rfl, Nat.le_refl _, fun h => absurd h (by decide)⟩, by decide⟩) | trace_state)
  · (skip; (try simp only [decide_eq_true_eq, decide_eq_false_iff_not, beq_iff_eq, bne_iff_ne, bne_eq_false_iff_eq, beq_eq_false_iff_ne, ne_eq, Bool.not_eq_true', Bool.not_eq_false', Bool.not_eq_true, Bool.not_eq_false, Bool.not_true, Bool.not_false, Int.ofNat_lt, Int.ofNat_le, Nat.not_lt, Nat.not_le] at h))
    refine wp_skip ?_
    (refine hKq2 _ _ ?_; try (clear hKq2 Kq2))
    (refine wp_seq_k ?_; intro Kq4 hKq4)
    refine wp_region_lit ?_
    (refine wpl_alloc S rfl rfl rfl rfl ?_; clear S a; intro b3 a w S)
    refine wpList_nil ?_
    (refine hKq4 _ _ ?_; try (clear hKq4 Kq4))
    (refine wp_seq_k ?_; intro Kq5 hKq5)
    refine wp_region_lit ?_
    (refine wpl_makeMap kS S rfl rfl rfl rfl ?_; clear S a; intro b10 a w S)
    (refine wpl_alloc S rfl rfl rfl rfl ?_; clear S a; intro b4 a w S)
    (refine wpl_store1 S rfl rfl rfl rfl rfl rfl (by first | (simp; done) | (simp [Value.cells]; done) | exact Nat.le_of_ble_eq_true rfl) ?_; clear S; intro w S)
    refine wpList_nil ?_
    (refine hKq5 _ _ ?_; try (clear hKq5 Kq5))
    (refine wp_seq_k ?_; intro Kq6 hKq6)
    (refine wp_seq_k ?_; intro Kq7 hKq7)
    refine wp_region_lit ?_
    (refine wpl_v S rfl rfl rfl (sv_pure S rfl) ?_; clear S a; intro a S)
    (refine wpl_v S rfl rfl rfl (sv_lenSl S rfl rfl) ?_; clear S a; intro a S)
    (refine wpl_v S rfl rfl rfl (sv_pure S rfl) ?_; clear S a; intro a S)
    refine wpList_nil ?_
    (refine hKq7 _ _ ?_; try (clear hKq7 Kq7))
    refine wp_block ?_
    refine wpc_loop (fun m a w' => ∃ (i : Nat) (F3 : Heap) (G3 : List Grp) (k3 : List (List UInt8)), m = l.len - i ∧ i ≤ l.len ∧ (∀ b o, F b = some o → F3 b = some o) ∧ VarI b4 b3 b10 k3 G3 ∧ k3 ++ seqL (l.drop i) = seqL l ∧ k3.length ≤ i * 2048 ∧ St 22 [(3, ptr b3), (4, ptr b4), (11, .slice ao l.len cap), (12, .int .i64 l.len), (13, .int .i64 i)] w0 F [] F3 G3 a w') ?_ ?_
    · (replace S := S.nilg; replace S := St.permI S 4 rfl [1, 2, 3, 0] (by decide); refine ⟨l.len, 0, F, _, [], by omega, Nat.zero_le _, fun _ _ h => h, ⟨.slice none 0 0, [], [], rfl, OwnS.nil _ _, fun nm => rfl⟩, rfl, Nat.zero_le _, ?_⟩; refine S.keep ?_; repeat (first | exact trivial | refine ⟨rfl, ?_⟩))
    · (clear S; rintro m a w ⟨i, F3, G3, k3, rfl, hil, hF3, hI3, hks, hk3, S⟩)
      (refine wp_seq_k ?_; intro Kq8 hKq8)
      refine wp_region_lit ?_
      (refine wpl_v S rfl rfl rfl (sv_pure S rfl) ?_; clear S a; intro a S)
      refine wpList_nil ?_
      (refine hKq8 _ _ ?_; try (clear hKq8 Kq8))
      (refine wp_seq_k ?_; intro Kq9 hKq9)
      refine wpc_split S rfl (fun h => ?_) (fun h => ?_)
      · (skip; (try simp only [decide_eq_true_eq, decide_eq_false_iff_not, beq_iff_eq, bne_iff_ne, bne_eq_false_iff_eq, beq_eq_false_iff_ne, ne_eq, Bool.not_eq_true', Bool.not_eq_false', Bool.not_eq_true, Bool.not_eq_false, Bool.not_true, Bool.not_false, Int.ofNat_lt, Int.ofNat_le, Nat.not_lt, Nat.not_le] at h))
        refine wp_skip ?_
        (refine hKq9 _ _ ?_; try (clear hKq9 Kq9))
        (refine wp_seq_k ?_; intro Kq10 hKq10)
        refine wp_block ?_
        (refine wp_seq_k ?_; intro Kq11 hKq11)
        (have hml : mayL l = true := (by assumption); obtain ⟨b8, o8, hao, x, v1, hx, hc1, hT1⟩ := FoM.pos hpos (k := i) (by omega); rw [hao] at S; replace hc1 := Cels.mono hF3 hc1; replace hT1 := hT1.mono hF3; have hT1c := hT1; obtain ⟨a91, c91, rfl, -⟩ := hT1c; have hxs := may_size (mayL_get hml hx); have hxl := Fo.len_size x.2; have hxq := seqT_len x)
        refine wp_region_lit ?_
        (refine wpl_v S rfl rfl rfl (sv_indexAddrSl S rfl rfl rfl (by first | omega | (simp only [List.length_append, List.length_cons, List.length_nil]; omega))) ?_; clear S a; intro a S)
        first | (refine wpl_v S rfl rfl rfl (sv_loadAO S rfl rfl (by rfl)) ?_; clear S a; intro a S) | (refine wpl_v S rfl rfl rfl (sv_loadAF S rfl rfl (by assumption) (by rfl)) ?_; clear S a; intro a S)
        (refine wpl_alloc S rfl rfl rfl rfl ?_; clear S a; intro b6 a w S)
        (refine wpl_storeO S rfl rfl rfl rfl rfl (by rfl) (by simp [Value.cells, Value.oneCell', splice]) (by rfl) ?_; clear S; intro w S)
        refine wpList_nil ?_
        (refine hKq11 _ _ ?_; try (clear hKq11 Kq11))
        refine wp_region_lit ?_
        first | (refine wpl_v S rfl rfl rfl (sv_loadAO S rfl rfl (by rfl)) ?_; clear S a; intro a S) | (refine wpl_v S rfl rfl rfl (sv_loadAF S rfl rfl (by assumption) (by rfl)) ?_; clear S a; intro a S)
        (refine wpl_v S rfl rfl rfl (sv_pure S rfl) ?_; clear S a; intro a S)
        (refine wpl_call (Gs := G3) (Gr := [[(b6, _)]]) S rfl rfl rfl rfl rfl rfl (ownCt F 25 [] [.pointer (some ⟨b4, 0, none⟩), .pointer (some ⟨b3, 0, none⟩)] 10000000 (VarI b4 b3 b10) (fun _ => none) (vars1Ct F b4 b3 b10) (x.2.size + 1) F3 x.1 x.2 _ k3 G3 (by omega) hF3 ⟨_, rfl, hT1⟩ (by omega) (thin_size _ (by omega)) (by omega) hI3) rfl (grp_perm (A := [[(b6, _)]])) ?_; clear S a; intro u9 F4 G4 a w hv hF4 S; obtain ⟨a4, q4, c4, rfl, hs4, hI4⟩ := hv; replace S : St _ _ _ _ _ F4 ([(b6, _)] :: G4) _ _ := St.rotL S)
        refine wpList_nil ?_
        (refine hKq10 _ _ ?_; try (clear hKq10 Kq10))
        refine wp_region_lit ?_
        (refine wpl_v S rfl rfl rfl (sv_add S rfl rfl rfl (by first | omega | (simp only [List.length_append, List.length_cons, List.length_nil]; omega))) ?_; clear S a; intro a S)
        (refine wpl_v S rfl rfl rfl (sv_pure S rfl) ?_; clear S a; intro a S)
        refine wpList_nil ?_
        change ∃ m', _ ∧ _
        (rw [← hao] at S; replace S := S.drop1; refine ⟨l.len - (i + 1), by omega, i + 1, F4, G4, k3 ++ seqT x, rfl, by omega, fun b o h => hF4 _ _ (hF3 _ _ h), hI4, by rw [List.append_assoc, ← seqL_drop hx, hks], by rw [List.length_append]; omega, ?_⟩; refine S.keep ?_; repeat (first | exact trivial | refine ⟨rfl, ?_⟩))
      · (skip; (try simp only [decide_eq_true_eq, decide_eq_false_iff_not, beq_iff_eq, bne_iff_ne, bne_eq_false_iff_eq, beq_eq_false_iff_ne, ne_eq, Bool.not_eq_true', Bool.not_eq_false', Bool.not_eq_true, Bool.not_eq_false, Bool.not_true, Bool.not_false, Int.ofNat_lt, Int.ofNat_le, Nat.not_lt, Nat.not_le] at h))
        refine wp_exit ?_
        (refine hKq6 _ _ ?_; try (clear hKq6 Kq6))
        (refine wp_seq_k ?_; intro Kq10 hKq10)
        (have hii : i = l.len := (by omega); have hk9 : k3 = seqL l := (by rw [← hks, Fo.drop_len (by omega)]; simp [seqL]); have hvn : vnames l = dds k3 := (by have hml : mayL l = true := (by assumption); unfold vnames vnm; rw [if_pos hml, hk9]); have hnl := dds_len k3; obtain ⟨vo, go, es, rfl, hown, hE⟩ := hI3; rw [← hvn] at hown hnl; obtain ⟨aoN, cN9, rfl, -, -, -⟩ := hown.at)
        refine wp_region_lit ?_
        first | (refine wpl_v S rfl rfl rfl (sv_loadO S rfl rfl (by rfl)) ?_; clear S a; intro a S) | (refine wpl_v S rfl rfl rfl (sv_loadF S rfl rfl (by assumption)) ?_; clear S a; intro a S)
        (refine wpl_v S rfl rfl rfl (sv_pure S rfl) ?_; clear S a; intro a S)
        refine wpList_nil ?_
        (refine hKq10 _ _ ?_; try (clear hKq10 Kq10))
        refine wp_ret ?_
        (first | (have h9 := hown; replace S := S.drop1.drop1.drop1; have hle := add_le (G1 := []) S; replace S := St.freeze (G1 := []) S; (simp only [List.nil_append] at S hle)) | skip)
        
        refine fin_ret S (results1 Tryd.results10 (RV.tmp S rfl)) ?_
        (first | (have h9 := hown; exact ⟨_, _, rfl, hown.slC F3, by omega⟩) | (have hm0 : ¬ mayL l = true := (by first | assumption | simp_all); have e9 : vnames l = [] := (by unfold vnames; rw [if_neg hm0]); rw [e9]; exact ⟨none, 0, rfl, ⟨none, 0, rfl, Nat.le_refl _, fun h => absurd h (by decide)⟩, by decide⟩) | trace_state)
end Go.Proofs.YtcjnmehpkcblfaaDoor
