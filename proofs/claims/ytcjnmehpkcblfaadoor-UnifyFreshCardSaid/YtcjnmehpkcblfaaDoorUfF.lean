/- The walk of Fresh: what it tells, and what the table knows behind it. -/
import Derived.Test.YtcjnmehpkcblfaaDoorUfV
namespace Go.Proofs.YtcjnmehpkcblfaaDoor
open Go Go.Wk Go.Un
set_option linter.unusedSimpArgs false
set_option linter.unusedVariables false
attribute [local irreducible] Go.wpList Go.Code.wp Go.wpStill Go.Wk.wpPre Go.bodyPost Go.Calls Go.Wk.Ct Go.Wk.OwnS
attribute [local irreducible] Go.Wk.wpG Go.Wk.wpM

theorem vget_app {vs : List (List UInt8 × Nat)} {nm v : List UInt8} {k : Nat} (h : vget (vs ++ [(nm, k)]) v = none) : vget vs v = none ∧ v ≠ nm := by
  unfold vget at *
  rw [Option.map_eq_none_iff, List.find?_append] at h
  rw [Option.map_eq_none_iff]
  cases hf : vs.find? fun p => decide (v = p.1) with
  | some x => rw [hf] at h; cases h
  | none =>
    refine ⟨rfl, fun e => ?_⟩
    subst e
    rw [hf] at h
    simp at h
theorem takeV_vs {T : Tb} {nm v : List UInt8} (h : vget (takeV T nm).1.vs v = none) : vget T.vs v = none ∧ v ≠ nm := by
  unfold takeV at h
  cases hv : vget T.vs nm with
  | some i =>
    rw [hv] at h
    refine ⟨h, fun e => ?_⟩
    subst e
    rw [show vget T.vs v = none from h] at hv
    cases hv
  | none =>
    rw [hv] at h
    exact vget_app h
theorem takeL_vs : ∀ (l : Fo) (T : Tb) (v : List UInt8), vget (takeL l T).1.vs v = none → vget T.vs v = none ∧ v ∉ seqL l
  | .nil, T, v, h => ⟨h, List.not_mem_nil⟩
  | .cons nm ar r, T, v, h => by
    rw [takeL_cons] at h
    obtain ⟨h1, h2⟩ := takeL_vs r _ v h
    have h3 : vget T.vs v = none ∧ v ∉ seqT (nm, ar) := by
      unfold takeT at h1
      unfold seqT
      by_cases hv : varT nm ar = true
      · rw [if_pos hv] at h1 ⊢
        obtain ⟨h4, h5⟩ := takeV_vs h1
        exact ⟨h4, fun hm => h5 (List.mem_singleton.1 hm)⟩
      · rw [if_neg hv] at h1 ⊢
        exact takeL_vs ar T v h1
    refine ⟨h3.1, fun hm => ?_⟩
    rw [seqL_cons] at hm
    exact (List.mem_append.1 hm).elim h3.2 h2
theorem takeV_vl {T : Tb} {nm : List UInt8} (h : T.vs.length ≤ T.nd.length) : (takeV T nm).1.vs.length ≤ (takeV T nm).1.nd.length := by
  unfold takeV
  split
  · exact h
  · simp [Tb.add]; exact h
theorem takeL_vl : ∀ (l : Fo) (T : Tb), T.vs.length ≤ T.nd.length → (takeL l T).1.vs.length ≤ (takeL l T).1.nd.length
  | .nil, T, h => h
  | .cons nm ar r, T, h => by
    rw [takeL_cons]
    refine takeL_vl r _ ?_
    unfold takeT
    by_cases hv : varT nm ar = true
    · rw [if_pos hv]; exact takeV_vl h
    · rw [if_neg hv]
      have := takeL_vl ar T h
      show (takeL ar T).1.vs.length ≤ ((takeL ar T).1.nd ++ _).length
      rw [List.length_append]; omega
theorem mayL_size : ∀ (l : Fo), mayL l = true → l.size ≤ l.len * 2048
  | .nil, _ => Nat.zero_le _
  | .cons nm ar r, h => by
    have h1 := (Bool.and_eq_true _ _).mp h
    have h2 := may_size (nm := nm) (ar := ar) h1.1
    have h3 := mayL_size r h1.2
    simp only [Fo.size, Fo.len]
    omega
set_option maxHeartbeats 2000000 in
theorem fresh1Ct (F : Heap) (bn : Nat) (na : List (List UInt8)) (vn : Value) (hbn : Cel F bn 0 vn) (hn : SlC F vn na.length (strs na)) : NmCt F 21 [] [.pointer (some ⟨bn, 0, none⟩)] na.length (fun i => na.getD i []) := by
  intro F' i hF hi
  have hn0 := hn.mono hF
  obtain ⟨an, cn, rfl, hcn, hpn⟩ := hn0
  replace hbn := hbn.mono hF
  obtain ⟨b8, o8, hao, hcs⟩ := hpn (by omega)
  have hx : (strs na)[i]? = some (.string (bs (na.getD i []))) := by rw [strs, List.getElem?_map, getD_at hi, List.getElem?_eq_getElem hi]; rfl
  have hc1 : Cel F' b8 (o8 + i * 1) (.string (bs (na.getD i []))) := by rw [Nat.mul_one]; exact hcs i _ hx
  subst hao
  refine Ct.enter Tryd.func21 rfl Tryd.ntmps21 rfl fun w0 a S => ?_
  (refine wp_seq_k ?_; intro Kq1 hKq1)
  refine wp_region_lit ?_
  (refine wpl_v S rfl rfl rfl (sv_pure S rfl) ?_; clear S a; intro a S)
  refine wpList_nil ?_
  (refine hKq1 _ _ ?_; try (clear hKq1 Kq1))
  (refine wp_seq_k ?_; intro Kq2 hKq2)
  refine wp_region_lit ?_
  first | (refine wpl_v S rfl rfl rfl (sv_loadO S rfl rfl (by rfl)) ?_; clear S a; intro a S) | (refine wpl_v S rfl rfl rfl (sv_loadF S rfl rfl (by assumption)) ?_; clear S a; intro a S) | (refine wpl_v S rfl rfl rfl (sv_loadF S rfl rfl hbn) ?_; clear S a; intro a S)
  (refine wpl_v S rfl rfl rfl (sv_pure S rfl) ?_; clear S a; intro a S)
  (refine wpl_v S rfl rfl rfl (sv_indexAddrSl S rfl rfl rfl (by first | omega | (simp only [List.length_append, List.length_cons, List.length_nil]; omega))) ?_; clear S a; intro a S)
  (refine wpl_v S rfl rfl rfl (sv_loadF S rfl rfl hc1) ?_; clear S a; intro a S)
  (refine wpl_v S rfl rfl rfl (sv_pure S rfl) ?_; clear S a; intro a S)
  refine wpList_nil ?_
  (refine hKq2 _ _ ?_; try (clear hKq2 Kq2))
  refine wp_ret ?_
  refine fin_ret S (results1 Tryd.results21 (RV.tmp S rfl)) ?_
  rfl
/-- What Fresh tells. -/
def FrP (l : Fo) (T : Tb) (tb mb told : Nat) (F' : Heap) (G' : List Grp) (u : Value) : Prop :=
  (mayL l = false ∧ u = .tuple ⟨[.slice none 0 0, .int .i64 4]⟩ ∧ TabT F' tb mb T T.nd.length (told : Int) G') ∨
  (mayL l = true ∧ ∃ (ao : Option Addr) (q c : Nat) (na : List (List UInt8)) (T' : Tb) (told' : Nat), u = .tuple ⟨[.slice ao q c, .int .i64 0]⟩ ∧ SlF F' (.slice ao q c) (renF l fun i => na.getD i []) ∧ na.length = (vnames l).length ∧ na.Nodup ∧ (∀ v ∈ na, isV v = true) ∧ (∀ v ∈ na, vget T.vs v = none ∧ v ∉ seqL l) ∧ (∀ v, vget T'.vs v = none → vget T.vs v = none ∧ v ∉ seqL l ∧ v ∉ na) ∧ TabT F' tb mb T' T'.nd.length (told' : Int) G' ∧ T'.vs.length ≤ T'.nd.length ∧ T'.nd.length ≤ T.nd.length + 50000 ∧ told' ≤ told + 300000000000)
set_option maxRecDepth 20000 in
set_option maxHeartbeats 16000000 in
theorem freshCt (F : Heap) (tb mb : Nat) (T : Tb) (told : Nat) (G : List Grp) (l : Fo) (v : Value) (h : SlF F v l) (hl : l.len ≤ 12) (hTab : TabT F tb mb T T.nd.length (told : Int) G) (hlen : T.nd.length ≤ 1000000) (hvl : T.vs.length ≤ T.nd.length) (ht : told ≤ 500000000000000) (hTF : TabF F) :
    Ct Tryd.prog 7 [.pointer (some ⟨tb, 0, none⟩), v] F G (fun F' G' u => FrP l T tb mb told F' G' u) := by
  have h0 := h
  obtain ⟨ao, cap, rfl, hcap, hpos⟩ := h
  refine Ct.enter Tryd.func7 rfl Tryd.ntmps7 rfl fun w0 a S => ?_
  (refine wp_seq_k ?_; intro Kq1 hKq1)
  refine wp_region_lit ?_
  (refine wpl_v S rfl rfl rfl (sv_pure S rfl) ?_; clear S a; intro a S)
  (refine wpl_v S rfl rfl rfl (sv_pure S rfl) ?_; clear S a; intro a S)
  refine wpList_nil ?_
  (refine hKq1 _ _ ?_; try (clear hKq1 Kq1))
  (refine wp_seq_k ?_; intro Kq2 hKq2)
  refine wp_block ?_
  (refine wp_seq_k ?_; intro Kq3 hKq3)
  refine wp_region_lit ?_
  (refine wpl_v S rfl rfl rfl (sv_pure S rfl) ?_; clear S a; intro a S)
  (refine wpl_v S rfl rfl rfl (sv_lit (c := false) (sv_eqPtrSome S rfl rfl rfl) (by rfl)) ?_; clear S a; intro a S)
  (refine wpl_v S rfl rfl rfl (sv_lit (c := false) (sv_pure S rfl) (by rfl)) ?_; clear S a; intro a S)
  refine wpList_nil ?_
  (refine hKq3 _ _ ?_; try (clear hKq3 Kq3))
  refine wpc_false S rfl ?_
  (refine wp_seq_k ?_; intro Kq4 hKq4)
  refine wp_region_lit ?_
  (refine wpl_v S rfl rfl rfl (sv_pure S rfl) ?_; clear S a; intro a S)
  (refine wpl_call0 S rfl rfl rfl rfl rfl rfl (mayLCt F l _ h0) rfl ?_; clear S a; intro v a w hv S; subst hv)
  (refine wpl_v S rfl rfl rfl (sv_pure S rfl) ?_; clear S a; intro a S)
  (refine wpl_v S rfl rfl rfl (sv_pure S rfl) ?_; clear S a; intro a S)
  refine wpList_nil ?_
  (refine hKq4 _ _ ?_; try (clear hKq4 Kq4))
  refine wpc_split S rfl (fun h => ?_) (fun h => ?_)
  · (skip; (try simp only [decide_eq_true_eq, decide_eq_false_iff_not, beq_iff_eq, bne_iff_ne, bne_eq_false_iff_eq, beq_eq_false_iff_ne, ne_eq, Bool.not_eq_true', Bool.not_eq_false', Bool.not_eq_true, Bool.not_eq_false, Bool.not_true, Bool.not_false, Int.ofNat_lt, Int.ofNat_le, Nat.not_lt, Nat.not_le] at h))
    (refine wp_seq_k ?_; intro Kq5 hKq5)
    refine wp_region_lit ?_
    (refine wpl_v S rfl rfl rfl (sv_pure S rfl) ?_; clear S a; intro a S)
    (refine wpl_v S rfl rfl rfl (sv_pure S rfl) ?_; clear S a; intro a S)
    refine wpList_nil ?_
    (refine hKq5 _ _ ?_; try (clear hKq5 Kq5))
    refine wp_ret ?_
    refine fin_ret S (results2 Tryd.results7 (RV.tmp S rfl) (RV.tmp S rfl)) ?_
    (first | (have h99 := hn5; refine .inr ⟨hml, _, _, _, na, T5, t5, rfl, hv, by omega, hnd, hiv, (fun v h => hvs3 v (hn3 v h)), (fun v h => ⟨(hvs3 v (hn5 v h).1).1, (hvs3 v (hn5 v h).1).2, (hn5 v h).2⟩), hTab52.mono hF7, hvl5, by omega, by omega⟩) | (have hm0 : mayL l = false := (by first | assumption | simpa using h); exact .inl ⟨hm0, rfl, hTab⟩) | trace_state)
  · (skip; (try simp only [decide_eq_true_eq, decide_eq_false_iff_not, beq_iff_eq, bne_iff_ne, bne_eq_false_iff_eq, beq_eq_false_iff_ne, ne_eq, Bool.not_eq_true', Bool.not_eq_false', Bool.not_eq_true, Bool.not_eq_false, Bool.not_true, Bool.not_false, Int.ofNat_lt, Int.ofNat_le, Nat.not_lt, Nat.not_le] at h))
    refine wp_skip ?_
    (refine hKq2 _ _ ?_; try (clear hKq2 Kq2))
    (refine wp_seq_k ?_; intro Kq5 hKq5)
    (refine wp_seq_k ?_; intro Kq6 hKq6)
    refine wp_region_lit ?_
    (refine wpl_v S rfl rfl rfl (sv_pure S rfl) ?_; clear S a; intro a S)
    (refine wpl_v S rfl rfl rfl (sv_lenSl S rfl rfl) ?_; clear S a; intro a S)
    (refine wpl_v S rfl rfl rfl (sv_pure S rfl) ?_; clear S a; intro a S)
    refine wpList_nil ?_
    (refine hKq6 _ _ ?_; try (clear hKq6 Kq6))
    refine wp_block ?_
    refine wpc_loop (fun m a w' => ∃ (i : Nat) (T3 : Tb) (F3 : Heap) (G3 : List Grp), m = l.len - i ∧ i ≤ l.len ∧ (∀ b o, F b = some o → F3 b = some o) ∧ (takeL l T).1 = (takeL (l.drop i) T3).1 ∧ TabT F3 tb mb T3 T3.nd.length (told : Int) G3 ∧ T3.nd.length + (l.drop i).size ≤ T.nd.length + l.size ∧ St 41 [(0, ptr tb), (1, .slice ao l.len cap), (16, .slice ao l.len cap), (17, .int .i64 l.len), (18, .int .i64 i)] w0 F (keys G) F3 G3 a w') ?_ ?_
    · (refine ⟨l.len, 0, T, F, G, by omega, Nat.zero_le _, fun _ _ h => h, rfl, hTab, Nat.le_refl _, ?_⟩; refine S.keep ?_; repeat (first | exact trivial | refine ⟨rfl, ?_⟩))
    · (clear S; rintro m a w ⟨i, T3, F3, G3, rfl, hil, hF3, hst, hTab3, hsz3, S⟩)
      (refine wp_seq_k ?_; intro Kq7 hKq7)
      refine wp_region_lit ?_
      (refine wpl_v S rfl rfl rfl (sv_pure S rfl) ?_; clear S a; intro a S)
      refine wpList_nil ?_
      (refine hKq7 _ _ ?_; try (clear hKq7 Kq7))
      (refine wp_seq_k ?_; intro Kq8 hKq8)
      refine wpc_split S rfl (fun h => ?_) (fun h => ?_)
      · (skip; (try simp only [decide_eq_true_eq, decide_eq_false_iff_not, beq_iff_eq, bne_iff_ne, bne_eq_false_iff_eq, beq_eq_false_iff_ne, ne_eq, Bool.not_eq_true', Bool.not_eq_false', Bool.not_eq_true, Bool.not_eq_false, Bool.not_true, Bool.not_false, Int.ofNat_lt, Int.ofNat_le, Nat.not_lt, Nat.not_le] at h))
        refine wp_skip ?_
        (refine hKq8 _ _ ?_; try (clear hKq8 Kq8))
        (refine wp_seq_k ?_; intro Kq9 hKq9)
        refine wp_block ?_
        (refine wp_seq_k ?_; intro Kq10 hKq10)
        (have hml : mayL l = true := (by first | assumption | simpa using h); have hszl := mayL_size l hml; obtain ⟨b9, o9, hao, x, v1, hx, hc1, hT1⟩ := FoM.pos hpos (k := i) (by omega); rw [hao] at S; replace hc1 := Cels.mono hF3 hc1; replace hT1 := hT1.mono hF3; have hT1c := hT1; obtain ⟨a91, c91, rfl, -⟩ := hT1c; have hdr := Fo.drop_get hx; have hdz : (l.drop i).size = x.2.size + (l.drop (i + 1)).size + 1 := (by rw [hdr]; simp only [Fo.size]); have htl := takeT_len x.1 x.2 T3)
        refine wp_region_lit ?_
        (refine wpl_v S rfl rfl rfl (sv_indexAddrSl S rfl rfl rfl (by first | omega | (simp only [List.length_append, List.length_cons, List.length_nil]; omega))) ?_; clear S a; intro a S)
        first | (refine wpl_v S rfl rfl rfl (sv_loadAO S rfl rfl (by rfl)) ?_; clear S a; intro a S) | (refine wpl_v S rfl rfl rfl (sv_loadAF S rfl rfl (by assumption) (by rfl)) ?_; clear S a; intro a S)
        (refine wpl_alloc S rfl rfl rfl rfl ?_; clear S a; intro b7 a w S)
        (refine wpl_storeO S rfl rfl rfl rfl rfl (by rfl) (by simp [Value.cells, Value.oneCell', splice]) (by rfl) ?_; clear S; intro w S)
        refine wpList_nil ?_
        (refine hKq10 _ _ ?_; try (clear hKq10 Kq10))
        refine wp_region_lit ?_
        (refine wpl_v S rfl rfl rfl (sv_pure S rfl) ?_; clear S a; intro a S)
        first | (refine wpl_v S rfl rfl rfl (sv_loadAO S rfl rfl (by rfl)) ?_; clear S a; intro a S) | (refine wpl_v S rfl rfl rfl (sv_loadAF S rfl rfl (by assumption) (by rfl)) ?_; clear S a; intro a S)
        (refine wpl_call (Gs := G3) (Gr := [[(b7, _)]]) S rfl rfl rfl rfl rfl rfl (takeTCt tb mb (told : Int) (x.2.size + 1) F3 x.1 x.2 _ T3 G3 (Nat.lt_succ_self _) ⟨_, rfl, hT1⟩ hTab3 (by omega)) rfl (grp_perm (A := [[(b7, _)]])) ?_; clear S a; intro u9 F4 G4 a w hv hF4 S; obtain ⟨rfl, hTab4⟩ := hv; replace S : St _ _ _ _ _ F4 ([(b7, _)] :: G4) _ _ := St.rotL S)
        refine wpList_nil ?_
        (refine hKq9 _ _ ?_; try (clear hKq9 Kq9))
        refine wp_region_lit ?_
        (refine wpl_v S rfl rfl rfl (sv_add S rfl rfl rfl (by first | omega | (simp only [List.length_append, List.length_cons, List.length_nil]; omega))) ?_; clear S a; intro a S)
        (refine wpl_v S rfl rfl rfl (sv_pure S rfl) ?_; clear S a; intro a S)
        refine wpList_nil ?_
        change ∃ m', _ ∧ _
        (rw [← hao] at S; replace S := S.drop1; refine ⟨l.len - (i + 1), by omega, i + 1, (takeT x.1 x.2 T3).1, F4, G4, rfl, by omega, fun b o h => hF4 _ _ (hF3 _ _ h), by rw [hst, hdr, takeL_cons], hTab4, by omega, ?_⟩; refine S.keep ?_; repeat (first | exact trivial | refine ⟨rfl, ?_⟩))
      · (skip; (try simp only [decide_eq_true_eq, decide_eq_false_iff_not, beq_iff_eq, bne_iff_ne, bne_eq_false_iff_eq, beq_eq_false_iff_ne, ne_eq, Bool.not_eq_true', Bool.not_eq_false', Bool.not_eq_true, Bool.not_eq_false, Bool.not_true, Bool.not_false, Int.ofNat_lt, Int.ofNat_le, Nat.not_lt, Nat.not_le] at h))
        refine wp_exit ?_
        (refine hKq5 _ _ ?_; try (clear hKq5 Kq5))
        (refine wp_seq_k ?_; intro Kq9 hKq9)
        (have hml : mayL l = true := (by first | assumption | simpa using h); have hszl := mayL_size l hml; have hii : i = l.len := (by omega); have hT3 : (takeL l T).1 = T3 := (by rw [hst, Fo.drop_len (by omega)]; rfl); have hvl3 : T3.vs.length ≤ T3.nd.length := (by rw [← hT3]; exact takeL_vl l T hvl); have hvs3 : ∀ v, vget T3.vs v = none → vget T.vs v = none ∧ v ∉ seqL l := (fun v h => takeL_vs l T v (by rw [hT3]; exact h)); have hnl3 : T3.nd.length ≤ T.nd.length + 24576 := (by omega))
        refine wp_region_lit ?_
        (refine wpl_alloc S rfl rfl rfl rfl ?_; clear S a; intro b8 a w S)
        refine wpList_nil ?_
        (refine hKq9 _ _ ?_; try (clear hKq9 Kq9))
        (refine wp_seq_k ?_; intro Kq10 hKq10)
        (refine wp_seq_k ?_; intro Kq11 hKq11)
        (have hvn9 : (vnames l).length ≤ l.size := (by unfold vnames; rw [if_pos hml]; exact Nat.le_trans (dds_len _) (seqL_len l)))
        refine wp_region_lit ?_
        (refine wpl_v S rfl rfl rfl (sv_pure S rfl) ?_; clear S a; intro a S)
        (refine wpl_callF S rfl rfl rfl rfl rfl rfl (varsCt F3 l _ (h0.mono hF3) (by omega)) rfl ?_; clear S a; intro uv F4 a w hv hF4 S; obtain ⟨av, cv, rfl, -, hvn⟩ := hv; have hTab4 := hTab3.mono hF4)
        (refine wpl_v S rfl rfl rfl (sv_lenSl S rfl rfl) ?_; clear S a; intro a S)
        (refine wpl_v S rfl rfl rfl (sv_pure S rfl) ?_; clear S a; intro a S)
        refine wpList_nil ?_
        (refine hKq11 _ _ ?_; try (clear hKq11 Kq11))
        refine wp_block ?_
        refine wpc_loop (fun m a w' => ∃ (j : Nat) (na : List (List UInt8)) (T5 : Tb) (t5 : Nat) (v : Value) (g : Grp) (F5 : Heap) (G5 : List Grp), m = (vnames l).length - j ∧ j ≤ (vnames l).length ∧ (∀ b o, F4 b = some o → F5 b = some o) ∧ na.length = j ∧ na.Nodup ∧ (∀ v ∈ na, isV v = true) ∧ (∀ v ∈ na, vget T3.vs v = none) ∧ (∀ v, vget T5.vs v = none → vget T3.vs v = none ∧ v ∉ na) ∧ TabT F5 tb mb T5 T5.nd.length (t5 : Int) G5 ∧ T5.vs.length ≤ T5.nd.length ∧ T5.nd.length ≤ T3.nd.length + j ∧ t5 ≤ told + j * 10000001 ∧ OwnS 9 1 v j (strs na) g ∧ St 41 [(0, ptr tb), (1, .slice ao l.len cap), (8, ptr b8), (28, .int .i64 (vnames l).length), (29, .int .i64 j)] w0 F (keys G) F5 ([(b8, .cells ⟨[v]⟩ 32 (0, 0))] :: g :: G5) a w') ?_ ?_
        · (replace S := St.nil2 S; refine ⟨(vnames l).length, 0, [], T3, told, .slice none 0 0, [], F4, G3, by omega, Nat.zero_le _, fun _ _ h => h, rfl, List.Pairwise.nil, (fun v h => by cases h), (fun v h => by cases h), (fun v h => ⟨h, List.not_mem_nil⟩), hTab4, hvl3, by omega, by omega, OwnS.nil _ _, ?_⟩; refine S.keep ?_; repeat (first | exact trivial | refine ⟨rfl, ?_⟩))
        · (clear S; rintro m a w ⟨j, na, T5, t5, v, g, F5, G5, rfl, hjl, hF5, hnal, hnd, hiv, hn3, hn5, hTab5, hvl5, hnl5, ht5, hown, S⟩)
          (refine wp_seq_k ?_; intro Kq12 hKq12)
          (have hF34 : ∀ b o, F b = some o → F4 b = some o := (fun b o h => hF4 _ _ (hF3 _ _ h)))
          refine wp_region_lit ?_
          (refine wpl_v S rfl rfl rfl (sv_pure S rfl) ?_; clear S a; intro a S)
          refine wpList_nil ?_
          (refine hKq12 _ _ ?_; try (clear hKq12 Kq12))
          (refine wp_seq_k ?_; intro Kq13 hKq13)
          refine wpc_split S rfl (fun h => ?_) (fun h => ?_)
          · (skip; (try simp only [decide_eq_true_eq, decide_eq_false_iff_not, beq_iff_eq, bne_iff_ne, bne_eq_false_iff_eq, beq_eq_false_iff_ne, ne_eq, Bool.not_eq_true', Bool.not_eq_false', Bool.not_eq_true, Bool.not_eq_false, Bool.not_true, Bool.not_false, Int.ofNat_lt, Int.ofNat_le, Nat.not_lt, Nat.not_le] at h))
            refine wp_skip ?_
            (refine hKq13 _ _ ?_; try (clear hKq13 Kq13))
            (refine wp_seq_k ?_; intro Kq14 hKq14)
            refine wp_block ?_
            (refine wpc_mixM [0, 1, 3] [0] [6] (.one 0 (.one 1 (.one 2 (.one 3 (.one 4 (.one 5 (.one 6 .nil))))))) [b8] S mixed (by kernel_rfl) ?_; clear S; intro w S)
            first | (refine wpm_lateO b8 S rfl rfl rfl (want_none _ rfl) rfl rfl (fun w' S => sv_loadO S rfl rfl (by rfl)) ?_; clear S a; intro a S) | (refine wpm_lateO b8 S rfl rfl rfl (want_none _ rfl) rfl rfl (fun w' S => sv_loadAO S rfl rfl (by rfl)) ?_; clear S a; intro a S)
            (refine wpm_v S rfl rfl rfl (want_none _ rfl) rfl rfl (fun w' S => sv_pure S rfl) ?_; clear S a; intro a S)
            refine wpm_eff rfl rfl (fun _ => ⟨fun b o h => S.tr.frz b o (by first | exact h | solve_by_elim), S.has inferInstance, trivial⟩) ?_
            (refine wpl_call (Gs := G5) (Gr := [[(b8, _)], g]) S rfl rfl rfl rfl rfl rfl (varCt F5 tb mb T5 t5 G5 hTab5 (by omega) hvl5 (by omega) (hTF.mono (fun b o h => hF5 _ _ (hF34 _ _ h)))) rfl (grp_perm (A := [[(b8, _)], g])) ?_; clear S a; intro u9 F6 G6 a w hv hF6 S; obtain ⟨k6, hk6, hg6, rfl, hTab6⟩ := hv; replace S : St _ _ _ _ _ F6 ([(b8, _)] :: g :: G6) _ _ := St.rotL S)
            refine wpList_nil ?_
            (refine wpm_v S rfl rfl rfl (want_none _ rfl) rfl rfl (fun w' S => sv_field1 S rfl rfl rfl inferInstance rfl) ?_; clear S a; intro a S)
            refine wpm_eff rfl rfl (fun _ => ⟨fun b o h => S.tr.frz b o (by first | exact h | solve_by_elim), S.has inferInstance, trivial⟩) ?_
            (refine wpl_buildSlice S rfl rfl rfl rfl rfl rfl (by rfl) (by simp [Value.cells, splice, splice]) rfl (by rfl) (by rfl) ?_; clear S a; intro b35 a w hown2 S)
            refine wpList_nil ?_
            refine wpm_eff rfl rfl (fun _ => ⟨fun b o h => S.tr.frz b o (by first | exact h | solve_by_elim), S.has inferInstance, trivial⟩) ?_
            (refine wpl_appendOwn S rfl rfl rfl rfl rfl rfl hown hown2 (by rfl) (by simp [Value.cells, Value.oneCell', splice, splice]) (by omega) (by omega) ?_; clear hown S a; intro v g a w hown S)
            refine wpList_nil ?_
            refine wpm_eff rfl rfl (fun _ => ⟨fun b o h => S.tr.frz b o (by first | exact h | solve_by_elim), S.has inferInstance, trivial⟩) ?_
            (refine wpl_store1 S rfl rfl rfl rfl rfl hown.oneCell (by first | (simp; done) | (simp [Value.cells]; done) | exact Nat.le_of_ble_eq_true rfl) ?_; clear S; intro w S)
            refine wpList_nil ?_
            refine wpm_nil (fun h => absurd h (by decide)) ?_
            (refine hKq14 _ _ ?_; try (clear hKq14 Kq14))
            refine wp_region_lit ?_
            (refine wpl_v S rfl rfl rfl (sv_add S rfl rfl rfl (by first | omega | (simp only [List.length_append, List.length_cons, List.length_nil]; omega))) ?_; clear S a; intro a S)
            (refine wpl_v S rfl rfl rfl (sv_pure S rfl) ?_; clear S a; intro a S)
            refine wpList_nil ?_
            change ∃ m', _ ∧ _
            (refine ⟨(vnames l).length - (j + 1), by omega, j + 1, na ++ [frS k6], (takeV T5 (frS k6)).1, k6, _, _, F6, G6, rfl, by omega, fun b o h => hF6 _ _ (hF5 _ _ h), by rw [List.length_append, hnal]; rfl, List.nodup_append.2 ⟨hnd, List.pairwise_singleton _ _, fun a ha b hb e => (hn5 _ hg6).2 (by rw [List.mem_singleton] at hb; subst hb; subst e; exact ha)⟩, (fun v hv => (List.mem_append.1 hv).elim (hiv v) fun h => by rw [List.mem_singleton] at h; subst h; exact frS_isV _), (fun v hv => (List.mem_append.1 hv).elim (hn3 v) fun h => by rw [List.mem_singleton] at h; subst h; exact (hn5 _ hg6).1), (fun v hv => by obtain ⟨h1, h2⟩ := takeV_vs hv; obtain ⟨h3, h4⟩ := hn5 _ h1; exact ⟨h3, fun hm => (List.mem_append.1 hm).elim h4 fun h => h2 (List.mem_singleton.1 h)⟩), hTab6, takeV_vl hvl5, (by have := takeV_len T5 (frS k6); omega), by omega, (by rw [strs, List.map_append]; exact hown), ?_⟩; refine S.keep ?_; repeat (first | exact trivial | refine ⟨rfl, ?_⟩))
          · (skip; (try simp only [decide_eq_true_eq, decide_eq_false_iff_not, beq_iff_eq, bne_iff_ne, bne_eq_false_iff_eq, beq_eq_false_iff_ne, ne_eq, Bool.not_eq_true', Bool.not_eq_false', Bool.not_eq_true, Bool.not_eq_false, Bool.not_true, Bool.not_false, Int.ofNat_lt, Int.ofNat_le, Nat.not_lt, Nat.not_le] at h))
            refine wp_exit ?_
            (refine hKq10 _ _ ?_; try (clear hKq10 Kq10))
            (refine wp_seq_k ?_; intro Kq14 hKq14)
            (have hjj : j = (vnames l).length := (by omega); obtain ⟨aoN, cN9, rfl, -, -, -⟩ := hown.at; have hle1 := add_le (G1 := []) S; replace S := St.freeze (G1 := []) S; (simp only [List.nil_append] at S hle1); have hb8 : Cel (F5.add [(b8, .cells ⟨[.slice aoN j cN9]⟩ 32 (0, 0))]) b8 0 (.slice aoN j cN9) := ⟨_, _, _, Heap.add_new (p := (b8, _)) (List.mem_singleton.2 rfl) (by simp), rfl⟩; generalize (F5.add [(b8, .cells ⟨[.slice aoN j cN9]⟩ 32 (0, 0))]) = F51 at S hle1 hb8; have hle2 := add_le (G1 := []) S; replace S := St.freeze (G1 := []) S; (simp only [List.nil_append] at S hle2); have hsn := hown.slC F51; rw [← hnal] at hsn; generalize F51.add g = F52 at S hle2 hsn; replace hb8 := hb8.mono hle2; have hF052 : ∀ b o, F b = some o → F52 b = some o := (fun b o h => hle2 _ _ (hle1 _ _ (hF5 _ _ (hF4 _ _ (hF3 _ _ h))))); have hTab52 := (hTab5.mono hle1).mono hle2; have hN52 : NmCt F52 21 [] [.pointer (some ⟨b8, 0, none⟩)] (vnames l).length (fun i => na.getD i []) := (by rw [← hjj, ← hnal]; rw [← hnal] at hb8; exact fresh1Ct F52 b8 na _ hb8 hsn))
            refine wp_region_lit ?_
            (refine wpl_v S rfl rfl rfl (sv_pure S rfl) ?_; clear S a; intro a S)
            (refine wpl_v S rfl rfl rfl (sv_pure S rfl) ?_; clear S a; intro a S)
            (refine wpl_callF S rfl rfl rfl rfl rfl rfl (renamedCt F52 l _ (h0.mono hF052) (by omega) (thin_size l (by omega)) 21 [] [.pointer (some ⟨b8, 0, none⟩)] (fun i => na.getD i []) hN52) rfl ?_; clear S a; intro uv F7 a w hv hF7 S; have hv0 := hv; obtain ⟨ar, cr, rfl, -, -⟩ := hv0)
            (refine wpl_v S rfl rfl rfl (sv_pure S rfl) ?_; clear S a; intro a S)
            (refine wpl_v S rfl rfl rfl (sv_pure S rfl) ?_; clear S a; intro a S)
            refine wpList_nil ?_
            (refine hKq14 _ _ ?_; try (clear hKq14 Kq14))
            refine wp_ret ?_
            refine fin_ret S (results2 Tryd.results7 (RV.tmp S rfl) (RV.tmp S rfl)) ?_
            (first | (have h99 := hn5; refine .inr ⟨hml, _, _, _, na, T5, t5, rfl, hv, by omega, hnd, hiv, (fun v h => hvs3 v (hn3 v h)), (fun v h => ⟨(hvs3 v (hn5 v h).1).1, (hvs3 v (hn5 v h).1).2, (hn5 v h).2⟩), hTab52.mono hF7, hvl5, by omega, by omega⟩) | (have hm0 : mayL l = false := (by first | assumption | simpa using h); exact .inl ⟨hm0, rfl, hTab⟩) | trace_state)
end Go.Proofs.YtcjnmehpkcblfaaDoor
