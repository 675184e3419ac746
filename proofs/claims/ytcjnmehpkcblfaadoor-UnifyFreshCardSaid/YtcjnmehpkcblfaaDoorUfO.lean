/- The walk of own: a type in new memory, its variables replaced by what a function tells; which variables were met. -/
import Derived.Test.YtcjnmehpkcblfaaDoorUfP
namespace Go.Proofs.YtcjnmehpkcblfaaDoor
open Go Go.Wk Go.Un
set_option linter.unusedSimpArgs false
set_option linter.unusedVariables false
attribute [local irreducible] Go.wpList Go.Code.wp Go.wpStill Go.Wk.wpPre Go.bodyPost Go.Calls Go.Wk.Ct Go.Wk.OwnS
attribute [local irreducible] Go.Wk.wpG Go.Wk.wpM

/-- No list of parts is too long for memory. -/
def Thin : Fo → Prop
  | .nil => True
  | .cons _ ar r => ar.len * 40 ≤ 140737488355328 ∧ Thin ar ∧ Thin r
theorem Thin.get : ∀ {l : Fo} {k : Nat} {x : Ty}, Thin l → l.get? k = some x → x.2.len * 40 ≤ 140737488355328 ∧ Thin x.2
  | .cons nm ar r, 0, x, ⟨h1, h2, _⟩, h => by cases h; exact ⟨h1, h2⟩
  | .cons nm ar r, k + 1, x, ⟨_, _, h3⟩, h => Thin.get h3 h
def cbS (cb : List UInt8 → Option Ty) : List UInt8 → Ty := fun nm => (cb nm).getD (nm, .nil)
def CbCt (F : Heap) (fid : FuncId) (fi ca : List Value) (B : Nat) (Iv : List (List UInt8) → List Grp → Prop) (cb : List UInt8 → Option Ty) : Prop := ∀ (F' : Heap) (k : List (List UInt8)) (G : List Grp) (nm : List UInt8), (∀ b o, F b = some o → F' b = some o) → isV nm = true → k.length < B → Iv k G →
  Ct Tryd.prog fid (fi ++ [.string (bs nm)] ++ ca) F' G (fun F'' G' u => ∃ (ao : Option Addr) (q c : Nat) (t : Ty), u = .tuple ⟨[.agg ⟨[.string (bs t.1), .slice ao q c]⟩, .bool (cb nm).isSome]⟩ ∧ SlF F'' (.slice ao q c) t.2 ∧ (∀ t', cb nm = some t' → t' = t) ∧ Iv (k ++ [nm]) G')
def OwnCt (F : Heap) (fid : FuncId) (fi ca : List Value) (B : Nat) (Iv : List (List UInt8) → List Grp → Prop) (cb : List UInt8 → Option Ty) (m : Nat) : Prop := ∀ (F' : Heap) (nm : List UInt8) (ar : Fo) (cs : List Value) (k : List (List UInt8)) (G : List Grp), ar.size < m → (∀ b o, F b = some o → F' b = some o) → TyC F' cs nm ar → ar.len * 40 ≤ 140737488355328 → Thin ar → k.length + ar.size + 1 ≤ B → Iv k G →
  Ct Tryd.prog 24 [.agg ⟨cs⟩, .func (.func fid) ⟨fi⟩ ⟨ca⟩] F' G (fun F'' G' u => ∃ (ao : Option Addr) (q c : Nat), u = .agg ⟨[.string (bs (subT (cbS cb) (nm, ar)).1), .slice ao q c]⟩ ∧ SlF F'' (.slice ao q c) (subT (cbS cb) (nm, ar)).2 ∧ Iv (k ++ seqT (nm, ar)) G')
theorem St.nil2 {n : Sz} {L : List (Nat × Value)} {w0 : World} {F0 : Heap} {K0 : List Nat} {F : Heap} {g : Grp} {G : List Grp} {a : Act} {w : World} (S : St n L w0 F0 K0 F (g :: G) a w) : St n L w0 F0 K0 F (g :: [] :: G) a w :=
  ⟨S.fr, S.tr.perm (by rw [List.flatten_cons, List.flatten_cons, List.flatten_cons, List.nil_append])⟩
set_option maxRecDepth 20000 in
set_option maxHeartbeats 16000000 in
theorem ownCt (F : Heap) (fid : FuncId) [hfn : HasFn Tryd.prog fid] (fi ca : List Value) (B : Nat) (Iv : List (List UInt8) → List Grp → Prop) (cb : List UInt8 → Option Ty) (hcb : CbCt F fid fi ca B Iv cb) : ∀ m, OwnCt F fid fi ca B Iv cb m := by
  intro m
  induction m with
  | zero => intro F' nm ar cs k G hm; omega
  | succ m ih =>
  intro F' nm ar cs k G hm hF hT hln hthin hB hI
  have hT0 := hT
  obtain ⟨v, rfl, ao, cap, rfl, hcap, hpos⟩ := hT
  refine Ct.enter Tryd.func24 rfl Tryd.ntmps24 rfl fun w0 a S => ?_
  (refine wp_seq_k ?_; intro Kq1 hKq1)
  refine wp_region_lit ?_
  (refine wpl_box S rfl rfl rfl rfl rfl ?_; clear S a; intro b2 a w S)
  (refine wpl_alloc S rfl rfl rfl rfl ?_; clear S a; intro b4 a w S)
  refine wpList_nil ?_
  (refine hKq1 _ _ ?_; try (clear hKq1 Kq1))
  (refine wp_seq_k ?_; intro Kq2 hKq2)
  replace hKq2 : ∀ (a' : Act) (w' : World), (∃ (F9 : Heap) (G9 : List Grp) (k9 : List (List UInt8)), (∀ b o, F' b = some o → F9 b = some o) ∧ Iv k9 G9 ∧ k9 ++ seqL ar = k ++ seqT (nm, ar) ∧ k9.length + ar.size ≤ B ∧ (varT nm ar = true → cbS cb nm = (nm, .nil)) ∧ St 41 [(1, .func (.func fid) ⟨fi⟩ ⟨ca⟩), (2, ptr b2), (4, ptr b4)] w0 F' (keys G) F9 ([(b4, .cells ⟨[.string (bs []), .slice none 0 0]⟩ 36 (0, 0))] :: [(b2, .cells ⟨[.string (bs nm), .slice ao ar.len cap]⟩ 36 (0, 0))] :: G9) a' w') → Kq2 a' w' := (by
    (intro a w hM; refine hKq2 _ _ ?_; clear hKq2 Kq2; clear S; obtain ⟨F9, G9, k9, hF9, hI9, hk9, hkB, hvn, S⟩ := hM)
    (refine wp_seq_k ?_; intro Kq3 hKq3)
    refine wp_region_lit ?_
    (refine wpl_v S rfl rfl rfl (sv_fieldAddr S rfl rfl rfl inferInstance rfl) ?_; clear S a; intro a S)
    first | (refine wpl_v S rfl rfl rfl (sv_loadO S rfl rfl (by rfl)) ?_; clear S a; intro a S) | (refine wpl_v S rfl rfl rfl (sv_loadF S rfl rfl (by assumption)) ?_; clear S a; intro a S)
    (refine wpl_v S rfl rfl rfl (sv_build S rfl rfl rfl) ?_; clear S a; intro a S)
    (refine wpl_alloc S rfl rfl rfl rfl ?_; clear S a; intro b7 a w S)
    (refine wpl_storeO S rfl rfl rfl rfl rfl (by rfl) (by simp [Value.cells, Value.oneCell', splice]) (by rfl) ?_; clear S; intro w S)
    refine wpList_nil ?_
    (refine hKq3 _ _ ?_; try (clear hKq3 Kq3))
    (refine wp_seq_k ?_; intro Kq4 hKq4)
    (refine wp_seq_k ?_; intro Kq5 hKq5)
    refine wp_region_lit ?_
    (refine wpl_v S rfl rfl rfl (sv_fieldAddr S rfl rfl rfl inferInstance rfl) ?_; clear S a; intro a S)
    first | (refine wpl_v S rfl rfl rfl (sv_loadO S rfl rfl (by rfl)) ?_; clear S a; intro a S) | (refine wpl_v S rfl rfl rfl (sv_loadF S rfl rfl (by assumption)) ?_; clear S a; intro a S)
    (refine wpl_v S rfl rfl rfl (sv_lenSl S rfl rfl) ?_; clear S a; intro a S)
    (refine wpl_v S rfl rfl rfl (sv_pure S rfl) ?_; clear S a; intro a S)
    refine wpList_nil ?_
    (refine hKq5 _ _ ?_; try (clear hKq5 Kq5))
    refine wp_block ?_
    refine wpc_loop (fun m a w' => ∃ (i : Nat) (v : Value) (g : Grp) (xs : List Value) (pre : Fo) (F3 : Heap) (G3 : List Grp) (kc : List (List UInt8)), m = ar.len - i ∧ i ≤ ar.len ∧ (∀ b o, F' b = some o → F3 b = some o) ∧ OwnS 36 2 v i xs g ∧ FoC F3 xs pre ∧ pre.len = i ∧ pre.app (subL (cbS cb) (ar.drop i)) = subL (cbS cb) ar ∧ Iv kc G3 ∧ kc ++ seqL (ar.drop i) = k9 ++ seqL ar ∧ kc.length + (ar.drop i).size ≤ k9.length + ar.size ∧ St 41 [(1, .func (.func fid) ⟨fi⟩ ⟨ca⟩), (4, ptr b4), (7, ptr b7), (25, .slice ao ar.len cap), (26, .int .i64 ar.len), (27, .int .i64 i)] w0 F' (keys G) F3 ([(b7, .cells ⟨[.string (bs nm), v]⟩ 36 (0, 0))] :: g :: [(b4, .cells ⟨[.string (bs []), .slice none 0 0]⟩ 36 (0, 0))] :: [(b2, .cells ⟨[.string (bs nm), .slice ao ar.len cap]⟩ 36 (0, 0))] :: G3) a w') ?_ ?_
    · (replace S := St.nil2 S; refine ⟨ar.len, 0, .slice none 0 0, [], [], .nil, F9, G9, k9, by omega, Nat.zero_le _, hF9, OwnS.nil _ _, trivial, rfl, rfl, hI9, rfl, Nat.le_refl _, ?_⟩; refine S.keep ?_; repeat (first | exact trivial | refine ⟨rfl, ?_⟩))
    · (clear S; rintro m a w ⟨i, v, g, xs, pre, F3, G3, kc, rfl, hil, hF3, hown, hfc, hpre, happ, hI3, hkc, hkc2, S⟩)
      (refine wp_seq_k ?_; intro Kq6 hKq6)
      refine wp_region_lit ?_
      (refine wpl_v S rfl rfl rfl (sv_pure S rfl) ?_; clear S a; intro a S)
      refine wpList_nil ?_
      (refine hKq6 _ _ ?_; try (clear hKq6 Kq6))
      (refine wp_seq_k ?_; intro Kq7 hKq7)
      refine wpc_split S rfl (fun h => ?_) (fun h => ?_)
      · (skip; (try simp only [decide_eq_true_eq, decide_eq_false_iff_not, beq_iff_eq, bne_iff_ne, bne_eq_false_iff_eq, beq_eq_false_iff_ne, ne_eq, Bool.not_eq_true', Bool.not_eq_false', Bool.not_eq_true, Bool.not_eq_false, Bool.not_true, Bool.not_false, Int.ofNat_lt, Int.ofNat_le, Nat.not_lt, Nat.not_le] at h))
        refine wp_skip ?_
        (refine hKq7 _ _ ?_; try (clear hKq7 Kq7))
        (refine wp_seq_k ?_; intro Kq8 hKq8)
        refine wp_block ?_
        (refine wp_seq_k ?_; intro Kq9 hKq9)
        (obtain ⟨b8, o8, hao, x, v1, hx, hc1, hT1⟩ := FoM.pos hpos (k := i) (by omega); rw [hao] at S; replace hc1 := Cels.mono hF3 hc1; replace hT1 := hT1.mono hF3; have hT1c := hT1; obtain ⟨a91, c91, rfl, -⟩ := hT1c; obtain ⟨hx40, hxth⟩ := hthin.get hx; have hxs := Fo.size_get hx; have hdr := Fo.drop_get hx; have hdz : (ar.drop i).size = x.2.size + (ar.drop (i + 1)).size + 1 := (by rw [hdr]; simp only [Fo.size]))
        refine wp_region_lit ?_
        (refine wpl_v S rfl rfl rfl (sv_indexAddrSl S rfl rfl rfl (by first | omega | (simp only [List.length_append, List.length_cons, List.length_nil]; omega))) ?_; clear S a; intro a S)
        first | (refine wpl_v S rfl rfl rfl (sv_loadAO S rfl rfl (by rfl)) ?_; clear S a; intro a S) | (refine wpl_v S rfl rfl rfl (sv_loadAF S rfl rfl (by assumption) (by rfl)) ?_; clear S a; intro a S)
        (refine wpl_alloc S rfl rfl rfl rfl ?_; clear S a; intro b9 a w S)
        (refine wpl_storeO S rfl rfl rfl rfl rfl (by rfl) (by simp [Value.cells, Value.oneCell', splice]) (by rfl) ?_; clear S; intro w S)
        refine wpList_nil ?_
        (refine hKq9 _ _ ?_; try (clear hKq9 Kq9))
        (refine wpc_mixM [0, 1, 2, 3, 7] [1, 2] [8] (.one 0 (.one 1 (.one 2 (.one 3 (.one 4 (.one 5 (.one 6 (.one 7 (.one 8 .nil))))))))) [b7, b9] S mixed (by kernel_rfl) ?_; clear S; intro w S)
        (refine wpm_v S rfl rfl rfl (want_none _ rfl) rfl rfl (fun w' S => sv_fieldAddr S rfl rfl rfl inferInstance rfl) ?_; clear S a; intro a S)
        first | (refine wpm_lateO b7 S rfl rfl rfl (want_none _ rfl) rfl rfl (fun w' S => sv_loadO S rfl rfl (by rfl)) ?_; clear S a; intro a S) | (refine wpm_lateO b7 S rfl rfl rfl (want_none _ rfl) rfl rfl (fun w' S => sv_loadAO S rfl rfl (by rfl)) ?_; clear S a; intro a S)
        first | (refine wpm_lateO b9 S rfl rfl rfl (want_none _ rfl) rfl rfl (fun w' S => sv_loadO S rfl rfl (by rfl)) ?_; clear S a; intro a S) | (refine wpm_lateO b9 S rfl rfl rfl (want_none _ rfl) rfl rfl (fun w' S => sv_loadAO S rfl rfl (by rfl)) ?_; clear S a; intro a S)
        (refine wpm_v S rfl rfl rfl (want_none _ rfl) rfl rfl (fun w' S => sv_pure S rfl) ?_; clear S a; intro a S)
        refine wpm_eff rfl rfl (fun _ => ⟨fun b o h => S.tr.frz b o (by first | exact h | solve_by_elim), S.has inferInstance, S.has inferInstance, trivial⟩) ?_
        (refine wpl_call (Gs := G3) (Gr := [[(b9, _)], [(b7, _)], g, [(b4, _)], [(b2, _)]]) S rfl rfl rfl rfl rfl rfl (ih F3 x.1 x.2 _ kc G3 (by omega) (fun b o h => hF3 _ _ (hF _ _ h)) ⟨_, rfl, hT1⟩ hx40 hxth (by omega) hI3) rfl (grp_perm (A := [[(b9, _)], [(b7, _)], g, [(b4, _)], [(b2, _)]])) ?_; clear S a; intro u9 F4 G4 a w hv hF4 S; obtain ⟨a4, q4, c4, rfl, hs4, hI4⟩ := hv; replace S : St _ _ _ _ _ F4 ([(b9, _)] :: [(b7, _)] :: g :: [(b4, _)] :: [(b2, _)] :: G4) _ _ := St.rotL S)
        refine wpList_nil ?_
        refine wpm_eff rfl rfl (fun _ => ⟨fun b o h => S.tr.frz b o (by first | exact h | solve_by_elim), S.has inferInstance, S.has inferInstance, trivial⟩) ?_
        (refine wpl_buildSlice S rfl rfl rfl rfl rfl rfl (by rfl) (by simp [Value.cells, splice, splice]) rfl (by rfl) (by rfl) ?_; clear S a; intro b36 a w hown2 S)
        refine wpList_nil ?_
        refine wpm_eff rfl rfl (fun _ => ⟨fun b o h => S.tr.frz b o (by first | exact h | solve_by_elim), S.has inferInstance, S.has inferInstance, trivial⟩) ?_
        (refine wpl_appendOwn S rfl rfl rfl rfl rfl rfl hown hown2 (by rfl) (by simp [Value.cells, Value.oneCell', splice, splice]) (by omega) (by omega) ?_; clear hown S a; intro v g a w hown S)
        refine wpList_nil ?_
        (refine wpm_v S rfl rfl rfl (want_none _ rfl) rfl rfl (fun w' S => sv_fieldAddr S rfl rfl rfl inferInstance rfl) ?_; clear S a; intro a S)
        refine wpm_eff rfl rfl (fun _ => ⟨fun b o h => S.tr.frz b o (by first | exact h | solve_by_elim), S.has inferInstance, S.has inferInstance, trivial⟩) ?_
        (refine wpl_store1 S rfl rfl rfl rfl rfl hown.oneCell (by first | (simp; done) | (simp [Value.cells]; done) | exact Nat.le_of_ble_eq_true rfl) ?_; clear S; intro w S)
        refine wpList_nil ?_
        refine wpm_nil (fun h => absurd h (by decide)) ?_
        (refine hKq8 _ _ ?_; try (clear hKq8 Kq8))
        refine wp_region_lit ?_
        (refine wpl_v S rfl rfl rfl (sv_add S rfl rfl rfl (by first | omega | (simp only [List.length_append, List.length_cons, List.length_nil]; omega))) ?_; clear S a; intro a S)
        (refine wpl_v S rfl rfl rfl (sv_pure S rfl) ?_; clear S a; intro a S)
        refine wpList_nil ?_
        change ∃ m', _ ∧ _
        (rw [← hao] at S; replace S := S.drop1; refine ⟨ar.len - (i + 1), by omega, i + 1, _, _, _, pre.app (.cons (subT (cbS cb) x).1 (subT (cbS cb) x).2 .nil), F4, G4, kc ++ seqT (x.1, x.2), rfl, by omega, fun b o h => hF4 _ _ (hF3 _ _ h), hown, FoC.app (hfc.mono hF4) (FoC.one hs4), by rw [Fo.len_app, hpre]; rfl, ?_, hI4, (by rw [List.append_assoc, ← seqL_cons, ← hdr]; exact hkc), (by have h8 := seqT_len (x.1, x.2); simp only at h8; rw [List.length_append]; omega), ?_⟩; rotate_left 1; (refine S.keep ?_; repeat (first | exact trivial | refine ⟨rfl, ?_⟩)); (rw [Fo.app_assoc, ← happ, hdr, subL_cons]; rfl))
      · (skip; (try simp only [decide_eq_true_eq, decide_eq_false_iff_not, beq_iff_eq, bne_iff_ne, bne_eq_false_iff_eq, beq_eq_false_iff_ne, ne_eq, Bool.not_eq_true', Bool.not_eq_false', Bool.not_eq_true, Bool.not_eq_false, Bool.not_true, Bool.not_false, Int.ofNat_lt, Int.ofNat_le, Nat.not_lt, Nat.not_le] at h))
        refine wp_exit ?_
        (refine hKq4 _ _ ?_; try (clear hKq4 Kq4))
        (refine wp_seq_k ?_; intro Kq8 hKq8)
        (obtain ⟨aoK, capK, rfl, -⟩ := hown.at)
        refine wp_region_lit ?_
        first | (refine wpl_v S rfl rfl rfl (sv_loadAO S rfl rfl (by rfl)) ?_; clear S a; intro a S) | (refine wpl_v S rfl rfl rfl (sv_loadAF S rfl rfl (by assumption) (by rfl)) ?_; clear S a; intro a S)
        (refine wpl_storeO S rfl rfl rfl rfl rfl (by rfl) (by simp [Value.cells, Value.oneCell', splice]) (by rfl) ?_; clear S; intro w S)
        refine wpList_nil ?_
        (refine hKq8 _ _ ?_; try (clear hKq8 Kq8))
        refine wp_ret ?_
        (have S0 := S; (first | (have hii : i = ar.len := (by omega); have h9 := hown; replace S := S.drop1; have hle := add_le (G1 := []) S; replace S := St.freeze (G1 := []) S; (simp only [List.nil_append] at S hle); replace S := S.drop1.drop1) | (have h9 := hs9; replace S := S.drop1.drop1.drop1)))
        
        refine fin_ret S (results1 Tryd.results24 (RV.cellO S0 rfl (by rfl))) ?_
        (first | (have h9 := hii; have e9 : subT (cbS cb) (nm, ar) = (nm, subL (cbS cb) ar) := (by by_cases hvt : varT nm ar = true; (have hz : ar = .nil := (by rw [varT_isV] at hvt; simp only [Bool.and_eq_true, decide_eq_true_eq] at hvt; exact len0 hvt.2); (unfold subT; rw [if_pos hvt, hvn hvt, hz]; rfl)); (unfold subT; rw [if_neg hvt])); rw [e9]; have hdl : ar.drop i = .nil := Fo.drop_len (by omega); rw [hdl] at happ hkc; have hkk : kc = k ++ seqT (nm, ar) := (by rw [← hk9, ← hkc]; exact (List.append_nil _).symm); rw [show subL (cbS cb) Fo.nil = Fo.nil from rfl, Fo.app_nil] at happ; rw [happ] at hfc hpre; exact ⟨_, _, _, rfl, FoC.slf hown hfc (show i = (subL (cbS cb) ar).len from (by omega)) hle (by omega), (by rw [← hkk]; exact hI3)⟩) | (have hok : (cb nm).isSome = true := (by first | assumption | simpa using h); have hvt : varT nm ar = true := (by assumption); have e9 : subT (cbS cb) (nm, ar) = t9 := (by unfold subT; rw [if_pos hvt]; unfold cbS; cases hc : cb nm with | none => (rw [hc] at hok; cases hok) | some t => exact ht9 t hc); rw [e9]; have hsq : seqT (nm, ar) = [nm] := (by unfold seqT; rw [if_pos hvt]); exact ⟨_, _, _, rfl, hs9, (by rw [hsq]; exact hI9)⟩) | trace_state))
  (refine wp_seq_k ?_; intro Kq9 hKq9)
  refine wp_region_lit ?_
  first | (refine wpl_v S rfl rfl rfl (sv_loadAO S rfl rfl (by rfl)) ?_; clear S a; intro a S) | (refine wpl_v S rfl rfl rfl (sv_loadAF S rfl rfl (by assumption) (by rfl)) ?_; clear S a; intro a S)
  (refine wpl_call0 S rfl rfl rfl rfl rfl rfl (isVarCt nm ar _ F' hT0) rfl ?_; clear S a; intro v a w hv S; subst hv)
  refine wpList_nil ?_
  (refine hKq9 _ _ ?_; try (clear hKq9 Kq9))
  refine wpc_split S rfl (fun h => ?_) (fun h => ?_)
  · (skip; (try simp only [decide_eq_true_eq, decide_eq_false_iff_not, beq_iff_eq, bne_iff_ne, bne_eq_false_iff_eq, beq_eq_false_iff_ne, ne_eq, Bool.not_eq_true', Bool.not_eq_false', Bool.not_eq_true, Bool.not_eq_false, Bool.not_true, Bool.not_false, Int.ofNat_lt, Int.ofNat_le, Nat.not_lt, Nat.not_le] at h))
    (refine wp_seq_k ?_; intro Kq10 hKq10)
    refine wp_region_lit ?_
    (refine wpl_v S rfl rfl rfl (sv_pure S rfl) ?_; clear S a; intro a S)
    (refine wpl_v S rfl rfl rfl (sv_fieldAddr S rfl rfl rfl inferInstance rfl) ?_; clear S a; intro a S)
    first | (refine wpl_v S rfl rfl rfl (sv_loadO S rfl rfl (by rfl)) ?_; clear S a; intro a S) | (refine wpl_v S rfl rfl rfl (sv_loadF S rfl rfl (by assumption)) ?_; clear S a; intro a S)
    (refine wpl_call (Gs := G) (Gr := [[(b4, _)], [(b2, _)]]) S rfl rfl rfl rfl rfl rfl (hcb F' k G nm hF (by have hvt : varT nm ar = true := (by assumption); rw [varT_isV] at hvt; simp only [Bool.and_eq_true] at hvt; exact hvt.1) (by omega) hI) rfl (grp_perm (A := [[(b4, _)], [(b2, _)]])) ?_; clear S a; intro u9 F9 G9 a w hv hF9 S; obtain ⟨a9, q9, c9, t9, rfl, hs9, ht9, hI9⟩ := hv; replace S : St _ _ _ _ _ F9 ([(b4, _)] :: [(b2, _)] :: G9) _ _ := St.rotL S)
    (refine wpl_v S rfl rfl rfl (sv_pure S rfl) ?_; clear S a; intro a S)
    (refine wpl_v S rfl rfl rfl (sv_pure S rfl) ?_; clear S a; intro a S)
    (refine wpl_v S rfl rfl rfl (sv_pure S rfl) ?_; clear S a; intro a S)
    (refine wpl_alloc S rfl rfl rfl rfl ?_; clear S a; intro b5 a w S)
    (refine wpl_storeO S rfl rfl rfl rfl rfl (by rfl) (by simp [Value.cells, Value.oneCell', splice]) (by rfl) ?_; clear S; intro w S)
    (refine wpl_v S rfl rfl rfl (sv_pure S rfl) ?_; clear S a; intro a S)
    refine wpList_nil ?_
    (refine hKq10 _ _ ?_; try (clear hKq10 Kq10))
    (refine wp_seq_k ?_; intro Kq11 hKq11)
    refine wp_region_lit ?_
    (refine wpl_v S rfl rfl rfl (sv_pure S rfl) ?_; clear S a; intro a S)
    refine wpList_nil ?_
    (refine hKq11 _ _ ?_; try (clear hKq11 Kq11))
    refine wpc_split S rfl (fun h => ?_) (fun h => ?_)
    · (skip; (try simp only [decide_eq_true_eq, decide_eq_false_iff_not, beq_iff_eq, bne_iff_ne, bne_eq_false_iff_eq, beq_eq_false_iff_ne, ne_eq, Bool.not_eq_true', Bool.not_eq_false', Bool.not_eq_true, Bool.not_eq_false, Bool.not_true, Bool.not_false, Int.ofNat_lt, Int.ofNat_le, Nat.not_lt, Nat.not_le] at h))
      (refine wp_seq_k ?_; intro Kq12 hKq12)
      refine wp_region_lit ?_
      first | (refine wpl_v S rfl rfl rfl (sv_loadAO S rfl rfl (by rfl)) ?_; clear S a; intro a S) | (refine wpl_v S rfl rfl rfl (sv_loadAF S rfl rfl (by assumption) (by rfl)) ?_; clear S a; intro a S)
      (refine wpl_storeO S rfl rfl rfl rfl rfl (by rfl) (by simp [Value.cells, Value.oneCell', splice]) (by rfl) ?_; clear S; intro w S)
      refine wpList_nil ?_
      (refine hKq12 _ _ ?_; try (clear hKq12 Kq12))
      refine wp_ret ?_
      (have S0 := S; (first | (have hii : i = ar.len := (by omega); have h9 := hown; replace S := S.drop1; have hle := add_le (G1 := []) S; replace S := St.freeze (G1 := []) S; (simp only [List.nil_append] at S hle); replace S := S.drop1.drop1) | (have h9 := hs9; replace S := S.drop1.drop1.drop1)))
      
      refine fin_ret S (results1 Tryd.results24 (RV.cellO S0 rfl (by rfl))) ?_
      (first | (have h9 := hii; have e9 : subT (cbS cb) (nm, ar) = (nm, subL (cbS cb) ar) := (by by_cases hvt : varT nm ar = true; (have hz : ar = .nil := (by rw [varT_isV] at hvt; simp only [Bool.and_eq_true, decide_eq_true_eq] at hvt; exact len0 hvt.2); (unfold subT; rw [if_pos hvt, hvn hvt, hz]; rfl)); (unfold subT; rw [if_neg hvt])); rw [e9]; have hdl : ar.drop i = .nil := Fo.drop_len (by omega); rw [hdl] at happ hkc; have hkk : kc = k ++ seqT (nm, ar) := (by rw [← hk9, ← hkc]; exact (List.append_nil _).symm); rw [show subL (cbS cb) Fo.nil = Fo.nil from rfl, Fo.app_nil] at happ; rw [happ] at hfc hpre; exact ⟨_, _, _, rfl, FoC.slf hown hfc (show i = (subL (cbS cb) ar).len from (by omega)) hle (by omega), (by rw [← hkk]; exact hI3)⟩) | (have hok : (cb nm).isSome = true := (by first | assumption | simpa using h); have hvt : varT nm ar = true := (by assumption); have e9 : subT (cbS cb) (nm, ar) = t9 := (by unfold subT; rw [if_pos hvt]; unfold cbS; cases hc : cb nm with | none => (rw [hc] at hok; cases hok) | some t => exact ht9 t hc); rw [e9]; have hsq : seqT (nm, ar) = [nm] := (by unfold seqT; rw [if_pos hvt]); exact ⟨_, _, _, rfl, hs9, (by rw [hsq]; exact hI9)⟩) | trace_state)
    · (skip; (try simp only [decide_eq_true_eq, decide_eq_false_iff_not, beq_iff_eq, bne_iff_ne, bne_eq_false_iff_eq, beq_eq_false_iff_ne, ne_eq, Bool.not_eq_true', Bool.not_eq_false', Bool.not_eq_true, Bool.not_eq_false, Bool.not_true, Bool.not_false, Int.ofNat_lt, Int.ofNat_le, Nat.not_lt, Nat.not_le] at h))
      refine wp_skip ?_
      (refine hKq2 _ _ ?_)
      (first | (have hvt : varT nm ar = true := (by assumption); have hno : (cb nm).isSome = false := (by first | assumption | simpa using h); have hz : ar.len = 0 := (by rw [varT_isV] at hvt; simp only [Bool.and_eq_true, decide_eq_true_eq] at hvt; exact hvt.2); have hz2 := len0 hz; replace S := S.drop1; refine ⟨F9, G9, k ++ [nm], hF9, hI9, (by unfold seqT; rw [if_pos hvt, hz2]; exact List.append_nil _), (by rw [List.length_append, List.length_singleton]; omega), (fun _ => by unfold cbS; cases hc : cb nm with | none => rfl | some t => (rw [hc] at hno; cases hno)), ?_⟩; refine S.keep ?_; repeat (first | exact trivial | refine ⟨rfl, ?_⟩)) | (have hvt : varT nm ar = false := (by assumption); refine ⟨F', G, k, fun _ _ h => h, hI, (by unfold seqT; rw [if_neg (by rw [hvt]; simp)]), by omega, (fun h => by rw [hvt] at h; cases h), ?_⟩; refine S.keep ?_; repeat (first | exact trivial | refine ⟨rfl, ?_⟩)) | trace_state)
  · (skip; (try simp only [decide_eq_true_eq, decide_eq_false_iff_not, beq_iff_eq, bne_iff_ne, bne_eq_false_iff_eq, beq_eq_false_iff_ne, ne_eq, Bool.not_eq_true', Bool.not_eq_false', Bool.not_eq_true, Bool.not_eq_false, Bool.not_true, Bool.not_false, Int.ofNat_lt, Int.ofNat_le, Nat.not_lt, Nat.not_le] at h))
    refine wp_skip ?_
    (refine hKq2 _ _ ?_)
    (first | (have hvt : varT nm ar = true := (by assumption); have hno : (cb nm).isSome = false := (by first | assumption | simpa using h); have hz : ar.len = 0 := (by rw [varT_isV] at hvt; simp only [Bool.and_eq_true, decide_eq_true_eq] at hvt; exact hvt.2); have hz2 := len0 hz; replace S := S.drop1; refine ⟨F9, G9, k ++ [nm], hF9, hI9, (by unfold seqT; rw [if_pos hvt, hz2]; exact List.append_nil _), (by rw [List.length_append, List.length_singleton]; omega), (fun _ => by unfold cbS; cases hc : cb nm with | none => rfl | some t => (rw [hc] at hno; cases hno)), ?_⟩; refine S.keep ?_; repeat (first | exact trivial | refine ⟨rfl, ?_⟩)) | (have hvt : varT nm ar = false := (by assumption); refine ⟨F', G, k, fun _ _ h => h, hI, (by unfold seqT; rw [if_neg (by rw [hvt]; simp)]), by omega, (fun h => by rw [hvt] at h; cases h), ?_⟩; refine S.keep ?_; repeat (first | exact trivial | refine ⟨rfl, ?_⟩)) | trace_state)
end Go.Proofs.YtcjnmehpkcblfaaDoor
