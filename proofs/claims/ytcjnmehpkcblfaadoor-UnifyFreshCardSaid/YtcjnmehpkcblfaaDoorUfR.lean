/- The walks of renamed, its function, Canon, and sames. -/
import Derived.Test.YtcjnmehpkcblfaaDoorUfVr
import Derived.Test.YtcjnmehpkcblfaaDoorUfL
namespace Go.Proofs.YtcjnmehpkcblfaaDoor
open Go Go.Wk Go.Un
set_option linter.unusedSimpArgs false
set_option linter.unusedVariables false
attribute [local irreducible] Go.wpList Go.Code.wp Go.wpStill Go.Wk.wpPre Go.bodyPost Go.Calls Go.Wk.Ct Go.Wk.OwnS
attribute [local irreducible] Go.Wk.wpG Go.Wk.wpM

/-- What a function of places tells. -/
def NmCt (F : Heap) (fid : FuncId) (fi ca : List Value) (n : Nat) (na : Nat → List UInt8) : Prop := ∀ (F' : Heap) (i : Nat), (∀ b o, F b = some o → F' b = some o) → i < n → Ct Tryd.prog fid (fi ++ [.int .i64 (i : Int)] ++ ca) F' [] (fun _ _ u => u = .string (bs (na i)))
theorem idxOf_neg {vs : List (List UInt8)} {v : List UInt8} (h : idxOf vs v < 0) : v ∉ vs := fun hm => by
  unfold idxOf at h
  rw [if_pos hm] at h
  omega
theorem idxOf_pos {vs : List (List UInt8)} {v : List UInt8} (h : ¬ idxOf vs v < 0) : v ∈ vs ∧ idxOf vs v = ((vs.idxOf v : Nat) : Int) ∧ vs.idxOf v < vs.length := by
  have hm : v ∈ vs := by
    apply Classical.byContradiction
    intro hm
    unfold idxOf at h
    rw [if_neg hm] at h
    exact h (by decide)
  refine ⟨hm, ?_, List.idxOf_lt_length_iff.2 hm⟩
  unfold idxOf
  rw [if_pos hm]
set_option maxHeartbeats 4000000 in
theorem renamed1Ct (F : Heap) (bn bf : Nat) (vs : List (List UInt8)) (vn : Value) (fid : FuncId) [hfn : HasFn Tryd.prog fid] (fi ca : List Value) (na : Nat → List UInt8) (hbn : Cel F bn 0 vn) (hbf : Cel F bf 0 (.func (.func fid) ⟨fi⟩ ⟨ca⟩)) (hn : SlC F vn vs.length (strs vs)) (hnl : vs.length ≤ 9223372036854775807) (hN : NmCt F fid fi ca vs.length na) (B : Nat) :
    CbCt F 35 [] [.pointer (some ⟨bn, 0, none⟩), .pointer (some ⟨bf, 0, none⟩)] B (fun _ G => G = []) (rnC vs na) := by
  unfold CbCt
  intro F' k G nm hF hnm hk hI
  subst hI
  have hn0 := hn.mono hF
  obtain ⟨an, cn, rfl, -, -⟩ := hn
  replace hbn := hbn.mono hF
  replace hbf := hbf.mono hF
  refine Ct.enter Tryd.func35 rfl Tryd.ntmps35 rfl fun w0 a S => ?_
  (refine wp_seq_k ?_; intro Kq1 hKq1)
  refine wp_region_lit ?_
  (refine wpl_alloc S rfl rfl rfl rfl ?_; clear S a; intro b4 a w S)
  (refine wpl_v S rfl rfl rfl (sv_pure S rfl) ?_; clear S a; intro a S)
  refine wpList_nil ?_
  (refine hKq1 _ _ ?_; try (clear hKq1 Kq1))
  (refine wp_seq_k ?_; intro Kq2 hKq2)
  refine wp_region_lit ?_
  first | (refine wpl_v S rfl rfl rfl (sv_loadO S rfl rfl (by rfl)) ?_; clear S a; intro a S) | (refine wpl_v S rfl rfl rfl (sv_loadF S rfl rfl (by assumption)) ?_; clear S a; intro a S) | (refine wpl_v S rfl rfl rfl (sv_loadF S rfl rfl hbn) ?_; clear S a; intro a S) | (refine wpl_v S rfl rfl rfl (sv_loadF S rfl rfl hbf) ?_; clear S a; intro a S)
  (refine wpl_v S rfl rfl rfl (sv_pure S rfl) ?_; clear S a; intro a S)
  (refine wpl_call0 S rfl rfl rfl rfl rfl rfl (indexSCt F' vs nm _ hn0 hnl) rfl ?_; clear S a; intro v a w hv S; subst hv)
  (refine wpl_v S rfl rfl rfl (sv_pure S rfl) ?_; clear S a; intro a S)
  refine wpList_nil ?_
  (refine hKq2 _ _ ?_; try (clear hKq2 Kq2))
  (refine wp_seq_k ?_; intro Kq3 hKq3)
  (refine wp_seq_k ?_; intro Kq4 hKq4)
  refine wp_region_lit ?_
  (refine wpl_v S rfl rfl rfl (sv_pure S rfl) ?_; clear S a; intro a S)
  (refine wpl_v S rfl rfl rfl (sv_pure S rfl) ?_; clear S a; intro a S)
  refine wpList_nil ?_
  (refine hKq4 _ _ ?_; try (clear hKq4 Kq4))
  refine wpc_split S rfl (fun h => ?_) (fun h => ?_)
  · (skip; (try simp only [decide_eq_true_eq, decide_eq_false_iff_not, beq_iff_eq, bne_iff_ne, bne_eq_false_iff_eq, beq_eq_false_iff_ne, ne_eq, Bool.not_eq_true', Bool.not_eq_false', Bool.not_eq_true, Bool.not_eq_false, Bool.not_true, Bool.not_false, Int.ofNat_lt, Int.ofNat_le, Nat.not_lt, Nat.not_le] at h))
    (refine wp_seq_k ?_; intro Kq5 hKq5)
    refine wp_region_lit ?_
    (refine wpl_v S rfl rfl rfl (sv_build S rfl rfl rfl) ?_; clear S a; intro a S)
    (refine wpl_storeO S rfl rfl rfl rfl rfl (by rfl) (by simp [Value.cells, Value.oneCell', splice]) (by rfl) ?_; clear S; intro w S)
    (refine wpl_v S rfl rfl rfl (sv_pure S rfl) ?_; clear S a; intro a S)
    refine wpList_nil ?_
    (refine hKq5 _ _ ?_; try (clear hKq5 Kq5))
    refine wp_ret ?_
    (have S0 := S; replace S := S.drop1)
    
    refine fin_ret S (results2 Tryd.results35 (RV.cellO S0 rfl (by rfl)) (RV.tmp S0 rfl)) ?_
    (first | (have e9 : rnC vs na nm = some (na (vs.idxOf nm), .nil) := (by unfold rnC; rw [if_pos hm9]); rw [e9]; exact ⟨none, 0, 0, (na (vs.idxOf nm), .nil), rfl, SlF.nil _, (fun t h => by cases h; rfl), rfl⟩) | (have hm9 := idxOf_neg (show idxOf vs nm < 0 by first | assumption | omega); have e9 : rnC vs na nm = none := (by unfold rnC; rw [if_neg hm9]); rw [e9]; exact ⟨none, 0, 0, ([], .nil), rfl, SlF.nil _, (fun t h => by cases h), rfl⟩) | trace_state)
  · (skip; (try simp only [decide_eq_true_eq, decide_eq_false_iff_not, beq_iff_eq, bne_iff_ne, bne_eq_false_iff_eq, beq_eq_false_iff_ne, ne_eq, Bool.not_eq_true', Bool.not_eq_false', Bool.not_eq_true, Bool.not_eq_false, Bool.not_true, Bool.not_false, Int.ofNat_lt, Int.ofNat_le, Nat.not_lt, Nat.not_le] at h))
    refine wp_skip ?_
    (refine hKq3 _ _ ?_; try (clear hKq3 Kq3))
    (refine wp_seq_k ?_; intro Kq5 hKq5)
    (obtain ⟨hm9, hj, hjl⟩ := idxOf_pos (show ¬ idxOf vs nm < 0 by first | assumption | omega); rw [hj] at S)
    refine wp_region_lit ?_
    (refine wpl_v S rfl rfl rfl (sv_loadF S rfl rfl hbf) ?_; clear S a; intro a S)
    (refine wpl_v S rfl rfl rfl (sv_pure S rfl) ?_; clear S a; intro a S)
    (refine wpl_call0 S rfl rfl rfl rfl rfl rfl (hN F' (vs.idxOf nm) hF hjl) rfl ?_; clear S a; intro v a w hv S; subst hv)
    (refine wpl_v S rfl rfl rfl (sv_build S rfl rfl rfl) ?_; clear S a; intro a S)
    (refine wpl_storeO S rfl rfl rfl rfl rfl (by rfl) (by simp [Value.cells, Value.oneCell', splice]) (by rfl) ?_; clear S; intro w S)
    (refine wpl_v S rfl rfl rfl (sv_pure S rfl) ?_; clear S a; intro a S)
    refine wpList_nil ?_
    (refine hKq5 _ _ ?_; try (clear hKq5 Kq5))
    refine wp_ret ?_
    (have S0 := S; replace S := S.drop1)
    
    refine fin_ret S (results2 Tryd.results35 (RV.cellO S0 rfl (by rfl)) (RV.tmp S0 rfl)) ?_
    (first | (have e9 : rnC vs na nm = some (na (vs.idxOf nm), .nil) := (by unfold rnC; rw [if_pos hm9]); rw [e9]; exact ⟨none, 0, 0, (na (vs.idxOf nm), .nil), rfl, SlF.nil _, (fun t h => by cases h; rfl), rfl⟩) | (have hm9 := idxOf_neg (show idxOf vs nm < 0 by first | assumption | omega); have e9 : rnC vs na nm = none := (by unfold rnC; rw [if_neg hm9]); rw [e9]; exact ⟨none, 0, 0, ([], .nil), rfl, SlF.nil _, (fun t h => by cases h), rfl⟩) | trace_state)
theorem cbS_rnC (vs : List (List UInt8)) (na : Nat → List UInt8) : cbS (rnC vs na) = rnm (rnR vs na) := rnC_sub vs na
set_option maxHeartbeats 8000000 in
theorem renamedCt (F : Heap) (l : Fo) (v : Value) (h : SlF F v l) (hl : l.len ≤ 1000) (hth : Thin l) (fid : FuncId) [hfn : HasFn Tryd.prog fid] (fi ca : List Value) (na : Nat → List UInt8) (hN : NmCt F fid fi ca (vnames l).length na) :
    Ct Tryd.prog 20 [v, .func (.func fid) ⟨fi⟩ ⟨ca⟩] F [] (fun F' _ u => SlF F' u (renF l na)) := by
  have h0 := h
  obtain ⟨ao, cap, rfl, hcap, hpos⟩ := h
  refine Ct.enter Tryd.func20 rfl Tryd.ntmps20 rfl fun w0 a S => ?_
  (refine wp_seq_k ?_; intro Kq1 hKq1)
  refine wp_region_lit ?_
  (refine wpl_box S rfl rfl rfl rfl rfl ?_; clear S a; intro b3 a w S)
  (refine wpl_v S rfl rfl rfl (sv_pure S rfl) ?_; clear S a; intro a S)
  refine wpList_nil ?_
  (refine hKq1 _ _ ?_; try (clear hKq1 Kq1))
  (refine wp_seq_k ?_; intro Kq2 hKq2)
  refine wp_region_lit ?_
  (refine wpl_v S rfl rfl rfl (sv_pure S rfl) ?_; clear S a; intro a S)
  (refine wpl_callF S rfl rfl rfl rfl rfl rfl (varsCt F l _ h0 hl) rfl ?_; clear S a; intro uv F1 a w hv hF1 S; obtain ⟨av, cv, rfl, hnm, hnl⟩ := hv)
  (refine wpl_alloc S rfl rfl rfl rfl ?_; clear S a; intro b5 a w S)
  (refine wpl_store1 S rfl rfl rfl rfl rfl rfl (by first | (simp; done) | (simp [Value.cells]; done) | exact Nat.le_of_ble_eq_true rfl) ?_; clear S; intro w S)
  refine wpList_nil ?_
  (refine hKq2 _ _ ?_; try (clear hKq2 Kq2))
  (refine wp_seq_k ?_; intro Kq3 hKq3)
  refine wp_region_lit ?_
  (refine wpl_v S rfl rfl rfl (sv_pure S rfl) ?_; clear S a; intro a S)
  refine wpList_nil ?_
  (refine hKq3 _ _ ?_; try (clear hKq3 Kq3))
  (refine wp_seq_k ?_; intro Kq4 hKq4)
  (refine wp_seq_k ?_; intro Kq5 hKq5)
  (replace S : St _ _ _ _ _ F1 [[(b5, .cells ⟨[.slice av (vnames l).length cv]⟩ 32 (0, 0))], [(b3, .cells ⟨[.func (.func fid) ⟨fi⟩ ⟨ca⟩]⟩ 51 (0, 0))]] _ _ := S; have hle1 := add_le (G1 := []) S; replace S := St.freeze (G1 := []) S; (simp only [List.nil_append] at S hle1); have hb5 : Cel (F1.add [(b5, .cells ⟨[.slice av (vnames l).length cv]⟩ 32 (0, 0))]) b5 0 (.slice av (vnames l).length cv) := ⟨_, _, _, Heap.add_new (p := (b5, _)) (List.mem_singleton.2 rfl) (by simp), rfl⟩; generalize (F1.add [(b5, .cells ⟨[.slice av (vnames l).length cv]⟩ 32 (0, 0))]) = F11 at S hle1 hb5; have hle2 := add_le (G1 := []) S; replace S := St.freeze (G1 := []) S; (simp only [List.nil_append] at S hle2); have hb3 : Cel (F11.add [(b3, .cells ⟨[.func (.func fid) ⟨fi⟩ ⟨ca⟩]⟩ 51 (0, 0))]) b3 0 (.func (.func fid) ⟨fi⟩ ⟨ca⟩) := ⟨_, _, _, Heap.add_new (p := (b3, _)) (List.mem_singleton.2 rfl) (by simp), rfl⟩; generalize (F11.add [(b3, .cells ⟨[.func (.func fid) ⟨fi⟩ ⟨ca⟩]⟩ 51 (0, 0))]) = F2 at S hle2 hb3; have hF2 : ∀ b o, F b = some o → F2 b = some o := (fun b o h => hle2 _ _ (hle1 _ _ (hF1 _ _ h))); replace hb5 := hb5.mono hle2; have hnm2 := hnm.mono (fun b o h => hle2 _ _ (hle1 _ _ h)); have hN2 : NmCt F2 fid fi ca (vnames l).length na := (fun F' i hF hi => hN F' i (fun b o h => hF _ _ (hF2 _ _ h)) hi))
  refine wp_region_lit ?_
  (refine wpl_v S rfl rfl rfl (sv_pure S rfl) ?_; clear S a; intro a S)
  (refine wpl_v S rfl rfl rfl (sv_lenSl S rfl rfl) ?_; clear S a; intro a S)
  (refine wpl_v S rfl rfl rfl (sv_pure S rfl) ?_; clear S a; intro a S)
  refine wpList_nil ?_
  (refine hKq5 _ _ ?_; try (clear hKq5 Kq5))
  refine wp_block ?_
  refine wpc_loop (fun m a w' => ∃ (i : Nat) (v : Value) (g : Grp) (xs : List Value) (pre : Fo) (F3 : Heap), m = l.len - i ∧ i ≤ l.len ∧ (∀ b o, F2 b = some o → F3 b = some o) ∧ OwnS 36 2 v i xs g ∧ FoC F3 xs pre ∧ pre.len = i ∧ pre.app (subL (rnm (rnR (vnames l) na)) (l.drop i)) = renF l na ∧ St 25 [(3, ptr b3), (5, ptr b5), (6, v), (11, .slice ao l.len cap), (12, .int .i64 l.len), (13, .int .i64 i)] w0 F [] F3 [g] a w') ?_ ?_
  · (replace S := S.nilg; refine ⟨l.len, 0, .slice none 0 0, [], [], .nil, F2, by omega, Nat.zero_le _, fun _ _ h => h, OwnS.nil _ _, trivial, rfl, rfl, ?_⟩; refine S.keep ?_; repeat (first | exact trivial | refine ⟨rfl, ?_⟩))
  · (clear S; rintro m a w ⟨i, v, g, xs, pre, F3, rfl, hil, hF3, hown, hfc, hpre, happ, S⟩)
    (refine wp_seq_k ?_; intro Kq6 hKq6)
    refine wp_region_lit ?_
    (refine wpl_v S rfl rfl rfl (sv_pure S rfl) ?_; clear S a; intro a S)
    refine wpList_nil ?_
    (refine hKq6 _ _ ?_; try (clear hKq6 Kq6))
    (refine wp_seq_k ?_; intro Kq7 hKq7)
    refine wpc_split S rfl (fun h => ?_) (fun h => ?_)
    · (skip; (try simp only [decide_eq_true_eq, decide_eq_false_iff_not, beq_iff_eq, bne_iff_ne, bne_eq_false_iff_eq, beq_eq_false_iff_ne, ne_eq, Bool.not_eq_true', Bool.not_eq_false', Bool.not_eq_true, Bool.not_eq_false, Bool.not_true, Bool.not_false, Int.ofNat_lt, Int.ofNat_le, Nat.not_lt, Nat.not_le] at h))
      refine wp_skip ?_
      (refine hKq7 _ _ ?_; try (clear hKq7 Kq7))
      (refine wp_seq_k ?_; intro Kq8 hKq8)
      refine wp_block ?_
      (refine wp_seq_k ?_; intro Kq9 hKq9)
      (obtain ⟨b9, o9, hao, x, v1, hx, hc1, hT1⟩ := FoM.pos hpos (k := i) (by omega); rw [hao] at S; replace hc1 := Cels.mono hF3 (Cels.mono hF2 hc1); replace hT1 := (hT1.mono hF2).mono hF3; have hT1c := hT1; obtain ⟨a91, c91, rfl, -⟩ := hT1c; obtain ⟨hx40, hxth⟩ := hth.get hx; have hdr := Fo.drop_get hx)
      refine wp_region_lit ?_
      (refine wpl_v S rfl rfl rfl (sv_indexAddrSl S rfl rfl rfl (by first | omega | (simp only [List.length_append, List.length_cons, List.length_nil]; omega))) ?_; clear S a; intro a S)
      first | (refine wpl_v S rfl rfl rfl (sv_loadAO S rfl rfl (by rfl)) ?_; clear S a; intro a S) | (refine wpl_v S rfl rfl rfl (sv_loadAF S rfl rfl (by assumption) (by rfl)) ?_; clear S a; intro a S)
      (refine wpl_alloc S rfl rfl rfl rfl ?_; clear S a; intro b8 a w S)
      (refine wpl_storeO S rfl rfl rfl rfl rfl (by rfl) (by simp [Value.cells, Value.oneCell', splice]) (by rfl) ?_; clear S; intro w S)
      refine wpList_nil ?_
      (refine hKq9 _ _ ?_; try (clear hKq9 Kq9))
      refine wp_region_lit ?_
      (refine wpl_v S rfl rfl rfl (sv_pure S rfl) ?_; clear S a; intro a S)
      first | (refine wpl_v S rfl rfl rfl (sv_loadAO S rfl rfl (by rfl)) ?_; clear S a; intro a S) | (refine wpl_v S rfl rfl rfl (sv_loadAF S rfl rfl (by assumption) (by rfl)) ?_; clear S a; intro a S)
      (refine wpl_v S rfl rfl rfl (sv_pure S rfl) ?_; clear S a; intro a S)
      (refine wpl_call (Gs := []) (Gr := [[(b8, _)], g]) S rfl rfl rfl rfl rfl rfl (ownCt F2 35 [] [.pointer (some ⟨b5, 0, none⟩), .pointer (some ⟨b3, 0, none⟩)] (x.2.size + 1) (fun _ G => G = []) (rnC (vnames l) na) (renamed1Ct F2 b5 b3 (vnames l) _ fid fi ca na hb5 hb3 hnm2 (by omega) hN2 _) (x.2.size + 1) F3 x.1 x.2 _ [] [] (Nat.lt_succ_self _) hF3 ⟨_, rfl, hT1⟩ hx40 hxth (by simp) rfl) rfl (by exact List.Perm.refl _) ?_; clear S a; intro u9 F4 G4 a w hv hF4 S; obtain ⟨a4, q4, c4, rfl, hs4, rfl⟩ := hv; (simp only [List.nil_append] at S); rw [cbS_rnC] at hs4 S)
      (refine wpl_append S rfl rfl rfl rfl rfl rfl rfl rfl rfl rfl rfl (fun _ => rfl) hown (by rfl) (by simp [Value.cells, splice, splice]) (by simp [Value.cells, Value.oneCell', splice, splice]) rfl (by rfl) (by rfl) rfl (by omega) (by omega) ?_; clear hown S a; intro v u g a w hown S)
      (refine wpl_v S rfl rfl rfl (sv_pure S rfl) ?_; clear S a; intro a S)
      refine wpList_nil ?_
      (refine hKq8 _ _ ?_; try (clear hKq8 Kq8))
      refine wp_region_lit ?_
      (refine wpl_v S rfl rfl rfl (sv_add S rfl rfl rfl (by first | omega | (simp only [List.length_append, List.length_cons, List.length_nil]; omega))) ?_; clear S a; intro a S)
      (refine wpl_v S rfl rfl rfl (sv_pure S rfl) ?_; clear S a; intro a S)
      refine wpList_nil ?_
      change ∃ m', _ ∧ _
      (rw [← hao] at S; replace S := S.drop1; refine ⟨l.len - (i + 1), by omega, i + 1, _, _, _, pre.app (.cons (subT (rnm (rnR (vnames l) na)) x).1 (subT (rnm (rnR (vnames l) na)) x).2 .nil), F4, rfl, by omega, fun b o h => hF4 _ _ (hF3 _ _ h), hown, FoC.app (hfc.mono hF4) (FoC.one hs4), by rw [Fo.len_app, hpre]; rfl, ?_, ?_⟩; rotate_left 1; (refine S.keep ?_; repeat (first | exact trivial | refine ⟨rfl, ?_⟩)); (rw [Fo.app_assoc, ← happ, hdr, subL_cons]; rfl))
    · (skip; (try simp only [decide_eq_true_eq, decide_eq_false_iff_not, beq_iff_eq, bne_iff_ne, bne_eq_false_iff_eq, beq_eq_false_iff_ne, ne_eq, Bool.not_eq_true', Bool.not_eq_false', Bool.not_eq_true, Bool.not_eq_false, Bool.not_true, Bool.not_false, Int.ofNat_lt, Int.ofNat_le, Nat.not_lt, Nat.not_le] at h))
      refine wp_exit ?_
      (refine hKq4 _ _ ?_; try (clear hKq4 Kq4))
      (refine wp_seq_k ?_; intro Kq8 hKq8)
      refine wp_region_lit ?_
      (refine wpl_v S rfl rfl rfl (sv_pure S rfl) ?_; clear S a; intro a S)
      (refine wpl_v S rfl rfl rfl (sv_pure S rfl) ?_; clear S a; intro a S)
      refine wpList_nil ?_
      (refine hKq8 _ _ ?_; try (clear hKq8 Kq8))
      refine wp_ret ?_
      (have hii : i = l.len := (by omega); have h9 := hown; have hle := add_le (G1 := []) S; replace S := St.freeze (G1 := []) S; (simp only [List.nil_append] at S hle))
      
      refine fin_ret S (results1 Tryd.results20 (RV.tmp S rfl)) ?_
      (have hdl : l.drop i = .nil := Fo.drop_len (by omega); rw [hdl] at happ; rw [show subL (rnm (rnR (vnames l) na)) Fo.nil = Fo.nil from rfl, Fo.app_nil] at happ; rw [happ] at hfc hpre; exact FoC.slf hown hfc (by omega) hle (by omega))
theorem canonCt (F : Heap) (l : Fo) (v : Value) (h : SlF F v l) (hl : l.len ≤ 1000) (hth : Thin l) (hT : TabF F) (hv : (vnames l).length ≤ 10000000) : Ct Tryd.prog 9 [v] F [] (fun F' _ u => SlF F' u (canF l)) := by
  have hN : NmCt F 23 [] [] (vnames l).length letS := fun F' i hF hi => letterCt F' i (by omega) (hT.mono hF)
  refine Ct.enter Tryd.func9 rfl Tryd.ntmps9 rfl fun w0 a S => ?_
  (refine wp_seq_k ?_; intro Kq1 hKq1)
  refine wp_region_lit ?_
  (refine wpl_v S rfl rfl rfl (sv_pure S rfl) ?_; clear S a; intro a S)
  refine wpList_nil ?_
  (refine hKq1 _ _ ?_; try (clear hKq1 Kq1))
  (refine wp_seq_k ?_; intro Kq2 hKq2)
  refine wp_region_lit ?_
  (refine wpl_v S rfl rfl rfl (sv_pure S rfl) ?_; clear S a; intro a S)
  (refine wpl_callF S rfl rfl rfl rfl rfl rfl (renamedCt F l v h hl hth 23 [] [] letS hN) rfl ?_; clear S a; intro uv F1 a w hv hF1 S)
  (refine wpl_v S rfl rfl rfl (sv_pure S rfl) ?_; clear S a; intro a S)
  refine wpList_nil ?_
  (refine hKq2 _ _ ?_; try (clear hKq2 Kq2))
  refine wp_ret ?_
  refine fin_ret S (results1 Tryd.results9 (RV.tmp S rfl)) ?_
  exact hv
end Go.Proofs.YtcjnmehpkcblfaaDoor
