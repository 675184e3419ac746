/- The walk of join. -/
import Derived.Test.YtcjnmehpkcblfaaDoorUnL
import Derived.Test.YtcjnmehpkcblfaaDoorUnJ
namespace Go.Proofs.YtcjnmehpkcblfaaDoor
open Go Go.Wk Go.Un
set_option linter.unusedSimpArgs false
set_option linter.unusedVariables false
attribute [local irreducible] Go.wpList Go.Code.wp Go.wpStill Go.Wk.wpPre Go.bodyPost Go.Calls Go.Wk.Ct Go.Wk.OwnS
attribute [local irreducible] Go.Wk.wpG Go.Wk.wpM

section
variable {P : Program} {n : Sz} {L : List (Nat × Value)} {w0 : World} {F0 : Heap} {K0 : List Nat} {F : Heap} {G : List Grp} {a : Act} {w : World} {o : Oper}
theorem sv_loadAOc {x : Operand} {t : TypeId} {z : Value} {sz by_ b off : Nat} {c vs : List Value} {e f R} [ht : Ag P t] [hi : Inf P t z sz by_] [hh : Has G b (.cells ⟨c⟩ e f) R] (S : St n L w0 F0 K0 F G a w) (ho : o.op = .load t x) (hx : ev L x = some (.pointer (some ⟨b, off, none⟩)))
    (hc : ∀ j u, vs[j]? = some u → c[off + j]? = some u) (hl : vs.length = sz) : SV P o a w (.agg ⟨vs⟩) :=
  sv_loadA S ho hx hl fun j v hj => cell_of_heap (S.has hh) (by simpa using hc j v hj)
theorem sv_maxI {x y : Operand} {p q : Int} {ts : Array TypeId} (S : St n L w0 F0 K0 F G a w) (ho : o.op = .call { callee := .builtin .max, args := #[x, y], argTypes := ts }) (hx : ev L x = some (.int .i64 p)) (hy : ev L y = some (.int .i64 q)) :
    SV P o a w (.int .i64 (max p q)) := by
  have e : (if q > p then q else p) = max p q := by split <;> omega
  unfold SV execOp
  rw [ho]
  simp [resolve, invoke, builtin, S.fr.eval hx, S.fr.eval hy, Builtin.max_, Builtin.max2]
  exact e
end
def pairsC (l : List (Nat × Nat)) : List Value := l.flatMap fun p => [Value.int .i64 (p.1 : Int), Value.int .i64 (p.2 : Int)]
theorem pairsC_len (l : List (Nat × Nat)) : (pairsC l).length = l.length * 2 := by
  induction l with
  | nil => rfl
  | cons p r ih => simp only [pairsC, List.flatMap_cons, List.length_append, List.length_cons] at ih ⊢; simp [pairsC] at ih ⊢; omega
theorem pairsC_app (l m : List (Nat × Nat)) : pairsC (l ++ m) = pairsC l ++ pairsC m := List.flatMap_append ..
theorem pairs_last (l : List (Nat × Nat)) (p : Nat × Nat) (ex : List Value) : ∀ j u, [Value.int .i64 (p.1 : Int), Value.int .i64 (p.2 : Int)][j]? = some u → (pairsC (l ++ [p]) ++ ex)[0 + l.length * 2 + j]? = some u := fun j u hu => by
  have hl := pairsC_len l
  rw [pairsC_app, List.append_assoc, List.getElem?_append_right (by omega), hl, Nat.zero_add, Nat.add_sub_cancel_left]
  have hj := (List.getElem?_eq_some_iff.1 hu).1
  show ([Value.int .i64 (p.1 : Int), Value.int .i64 (p.2 : Int)] ++ ex)[j]? = _
  rw [List.getElem?_append_left hj]; exact hu
theorem take_zip {ks1 ks2 : List Nat} {i k1 k2 : Nat} (h1 : ks1[i]? = some k1) (h2 : ks2[i]? = some k2) : (ks1.zip ks2).take (i + 1) = (ks1.zip ks2).take i ++ [(k1, k2)] := by
  have e : (ks1.zip ks2)[i]? = some (k1, k2) := by rw [List.getElem?_zip_eq_some]; exact ⟨h1, h2⟩
  have hl := (List.getElem?_eq_some_iff.1 e).1
  rw [List.take_succ_eq_append_getElem hl]
  rw [List.getElem?_eq_getElem hl] at e
  rw [Option.some.inj e]
theorem ini {st : List Int} {ex : List Value} {i : Nat} {j : Int} (h : st[i]? = some j) : (intsI st ++ ex)[0 + i * 1]? = some (.int .i64 j) := by
  have hl := (List.getElem?_eq_some_iff.1 h).1
  rw [Nat.mul_one, Nat.zero_add, List.getElem?_append_left (by rw [intsI_len]; exact hl), intsI, List.getElem?_map, h]; rfl
theorem ins {st : List (List UInt8)} {ex : List Value} {i : Nat} {s : List UInt8} (h : st[i]? = some s) : (strs st ++ ex)[0 + i * 1]? = some (.string (bs s)) := by
  have hl := (List.getElem?_eq_some_iff.1 h).1
  rw [Nat.mul_one, Nat.zero_add, List.getElem?_append_left (by rw [strs_len]; exact hl), strs, List.getElem?_map, h]; rfl
theorem ins_set {st : List (List UInt8)} {ex : List Value} {i : Nat} (s : List UInt8) (h : i < st.length) : (strs st ++ ex).set (0 + i * 1) (.string (bs s)) = strs (st.set i s) ++ ex := by
  rw [Nat.mul_one, Nat.zero_add, List.set_append_left _ _ (by rw [strs_len]; exact h), strs, strs, List.map_set]
theorem ndc_get {F : Heap} {xs ex : List Value} {l : Nds} {k : Nat} {x} (h : NdC F xs l) (hk : l[k]? = some x) : ∃ v, (∀ j u, [Value.string (bs x.1), v][j]? = some u → (xs ++ ex)[0 + k * 2 + j]? = some u) ∧ SlC F v x.2.length (intsN x.2) := by
  obtain ⟨v, h1, h2⟩ := h.at hk
  refine ⟨v, fun j u hu => ?_, h2⟩
  have h3 := h1 j u hu
  rw [Nat.zero_add, List.getElem?_append_left (List.getElem?_eq_some_iff.1 h3).1]; exact h3
theorem ks_cel {F : Heap} {ao : Option Addr} {cap : Nat} {ks : List Nat} {i k : Nat} (h : SlC F (.slice ao ks.length cap) ks.length (intsN ks)) (hk : ks[i]? = some k) : ∃ b o, ao = some ⟨b, o, none⟩ ∧ Cel F b (o + i * 1) (.int .i64 (k : Int)) := by
  have hl := (List.getElem?_eq_some_iff.1 hk).1
  obtain ⟨ao', cap', e, h1, h2⟩ := h
  simp only [Value.slice.injEq] at e
  obtain ⟨rfl, _, rfl⟩ := e
  obtain ⟨b, o, e2, h3⟩ := h2 (by omega)
  refine ⟨b, o, e2, ?_⟩
  rw [Nat.mul_one]
  exact h3 i _ (by rw [intsN, List.getElem?_map, hk]; rfl)
set_option maxRecDepth 20000 in
set_option maxHeartbeats 16000000 in
theorem joinCt (F : Heap) (tb mb : Nat) (T : Tb) (n x0 y0 : Nat) (G : List Grp) (A0 : Ab) (hnn : T.nd.length = n) (hn : n ≤ 10000000) (h : TabM F tb mb T n G) (hA0 : AbR n T.pa T.st T.le A0) (hW0 : AbW T.nd A0) (hx0 : x0 < n) (hy0 : y0 < n) :
    Ct Tryd.prog 27 [.pointer (some ⟨tb, 0, none⟩), .int .i64 x0, .int .i64 y0] F G (fun _ G' u => ∃ (r : Bool) (A' : Ab), u = .bool r ∧ JRun T.nd A0 [(x0, y0)] r A' ∧ (r = true → ∃ T', T'.nd = T.nd ∧ T'.vs = T.vs ∧ AbR n T'.pa T'.st T'.le A' ∧ AbW T.nd A' ∧ TabM F tb mb T' n G')) := by
  refine Ct.enter Tryd.func27 rfl Tryd.ntmps27 rfl fun w0 a S => ?_
  (refine wp_seq_k ?_; intro Kq1 hKq1)
  refine wp_region_lit ?_
  (refine wpl_v S rfl rfl rfl (sv_pure S rfl) ?_; clear S a; intro a S)
  refine wpList_nil ?_
  (refine hKq1 _ _ ?_; try (clear hKq1 Kq1))
  (refine wp_seq_k ?_; intro Kq2 hKq2)
  (refine wp_seq_k ?_; intro Kq3 hKq3)
  refine wp_region_lit ?_
  (refine wpl_v S rfl rfl rfl (sv_pure S rfl) ?_; clear S a; intro a S)
  (refine wpl_v S rfl rfl rfl (sv_pure S rfl) ?_; clear S a; intro a S)
  (refine wpl_v S rfl rfl rfl (sv_build S rfl rfl rfl) ?_; clear S a; intro a S)
  (refine wpl_buildSlice S rfl rfl rfl rfl rfl rfl (by rfl) (by simp [Value.cells, splice, splice]) rfl (by rfl) (by rfl) ?_; clear S a; intro b19 a w hown S)
  (have hown : OwnS 74 2 (.slice (some ⟨b19, 0, none⟩) 1 1) 1 (pairsC [(x0, y0)]) [(b19, .cells ⟨pairsC [(x0, y0)]⟩ 74 (0, 0))] := hown)
  (refine wpl_v S rfl rfl rfl (sv_pure S rfl) ?_; clear S a; intro a S)
  refine wpList_nil ?_
  (refine hKq3 _ _ ?_; try (clear hKq3 Kq3))
  refine wp_block ?_
  refine wpc_loop (fun m a w' => ∃ (l : List (Nat × Nat)) (v : Value) (g : Grp) (A : Ab) (T' : Tb) (GG : List Grp), m = roots A n * 3001 + l.length ∧ (∀ r A', JRun T.nd A l r A' → JRun T.nd A0 [(x0, y0)] r A') ∧ m ≤ n * 3001 + 1 ∧ OwnS 74 2 v l.length (pairsC l) g ∧ TabM F tb mb T' n GG ∧ T'.nd = T.nd ∧ T'.vs = T.vs ∧ AbR n T'.pa T'.st T'.le A ∧ AbW T.nd A ∧ (∀ p ∈ l, p.1 < n ∧ p.2 < n) ∧ St 151 [(0, ptr tb), (7, v)] w0 F (keys G) F (g :: GG) a w') ?_ ?_
  · (refine ⟨_, [(x0, y0)], _, _, A0, T, G, rfl, fun _ _ h => h, by have := roots_le A0 n; show roots A0 n * 3001 + 1 ≤ _; omega, hown, h, rfl, rfl, hA0, hW0, (fun p hp => by simp at hp; subst hp; exact ⟨hx0, hy0⟩), ?_⟩; (refine S.keep ?_; repeat (first | exact trivial | refine ⟨rfl, ?_⟩)))
  · (clear S; rintro m a w ⟨l, v, g, A, T', GG, rfl, hrun, hmb, hown, hTab, hnd', hvs', hA, hW, hpr, S⟩; have hrl := roots_le A n; obtain ⟨aoT, cT, rfl, -⟩ := hown.at)
    (refine wp_seq_k ?_; intro Kq4 hKq4)
    (refine wp_seq_k ?_; intro Kq5 hKq5)
    refine wp_region_lit ?_
    (refine wpl_v S rfl rfl rfl (sv_pure S rfl) ?_; clear S a; intro a S)
    (refine wpl_v S rfl rfl rfl (sv_lenSl S rfl rfl) ?_; clear S a; intro a S)
    (refine wpl_v S rfl rfl rfl (sv_pure S rfl) ?_; clear S a; intro a S)
    refine wpList_nil ?_
    (refine hKq5 _ _ ?_; try (clear hKq5 Kq5))
    refine wpc_split S rfl (fun h => ?_) (fun h => ?_)
    · (skip; (try simp only [decide_eq_true_eq, decide_eq_false_iff_not, beq_iff_eq, bne_iff_ne, bne_eq_false_iff_eq, beq_eq_false_iff_ne, ne_eq, Bool.not_eq_true', Bool.not_eq_false', Bool.not_eq_true, Bool.not_eq_false, Bool.not_true, Bool.not_false, Int.ofNat_lt, Int.ofNat_le, Nat.not_lt, Nat.not_le] at h))
      refine wp_skip ?_
      (refine hKq4 _ _ ?_; try (clear hKq4 Kq4))
      refine wp_block ?_
      (refine wp_seq_k ?_; intro Kq6 hKq6)
      (obtain ⟨l', ⟨pa, pb⟩, rfl⟩ : ∃ l' p, l = l' ++ [p] := (by rcases List.eq_nil_or_concat l with rfl | ⟨l', p, rfl⟩; (simp at h); exact ⟨l', p, by simp⟩); have hlen : (l' ++ [(pa, pb)]).length = l'.length + 1 := (by simp); obtain ⟨bt, ct, ext, hve, rfl, hct1, hct2, hct3, hct4⟩ := ownS_blkN hown (by omega); cases hve; rw [hlen] at S hown; obtain ⟨hpa, hpb⟩ := hpr (pa, pb) (by simp); (simp only at hpa hpb); obtain ⟨ka, hka⟩ := hA.rt pa hpa)
      refine wp_region_lit ?_
      (refine wpl_v S rfl rfl rfl (sv_pure S rfl) ?_; clear S a; intro a S)
      (refine wpl_v S rfl rfl rfl (sv_pure S rfl) ?_; clear S a; intro a S)
      (refine wpl_v S rfl rfl rfl (sv_lenSl S rfl rfl) ?_; clear S a; intro a S)
      (refine wpl_v S rfl rfl rfl (sv_sub S rfl rfl rfl (by first | omega | (simp only [List.length_append, List.length_cons, List.length_nil]; omega))) ?_; clear S a; intro a S)
      (rw [show ((l'.length + 1 : Nat) : Int) - 1 = (l'.length : Int) by omega] at S)
      (refine wpl_v S rfl rfl rfl (sv_indexAddrSl S rfl rfl rfl (by first | omega | (simp only [List.length_append, List.length_cons, List.length_nil]; omega))) ?_; clear S a; intro a S)
      (refine wpl_v S rfl rfl rfl (sv_loadAOc S rfl rfl (pairs_last l' (pa, pb) ext) (by rfl)) ?_; clear S a; intro a S)
      (refine wpl_alloc S rfl rfl rfl rfl ?_; clear S a; intro b8 a w S)
      (refine wpl_storeO S rfl rfl rfl rfl rfl (by rfl) (by simp [Value.cells, Value.oneCell', splice]) (by rfl) ?_; clear S; intro w S)
      refine wpList_nil ?_
      (refine hKq6 _ _ ?_; try (clear hKq6 Kq6))
      (refine wp_seq_k ?_; intro Kq7 hKq7)
      refine wp_region_lit ?_
      (refine wpl_v S rfl rfl rfl (sv_pure S rfl) ?_; clear S a; intro a S)
      (refine wpl_v S rfl rfl rfl (sv_pure S rfl) ?_; clear S a; intro a S)
      (refine wpl_v S rfl rfl rfl (sv_lenSl S rfl rfl) ?_; clear S a; intro a S)
      (refine wpl_v S rfl rfl rfl (sv_sub S rfl rfl rfl (by first | omega | (simp only [List.length_append, List.length_cons, List.length_nil]; omega))) ?_; clear S a; intro a S)
      (rw [show ((l'.length + 1 : Nat) : Int) - 1 = (l'.length : Int) by omega] at S)
      (refine wpl_v S rfl rfl rfl (sv_sliceSl_h S rfl rfl rfl (by omega)) ?_; clear S a; intro a S)
      (refine wpl_v S rfl rfl rfl (sv_pure S rfl) ?_; clear S a; intro a S)
      refine wpList_nil ?_
      (refine hKq7 _ _ ?_; try (clear hKq7 Kq7))
      (refine wp_seq_k ?_; intro Kq8 hKq8)
      (have hcut : OwnS 74 2 (.slice (some ⟨bt, 0, none⟩) l'.length cT) l'.length (pairsC l') [(bt, .cells ⟨pairsC (l' ++ [(pa, pb)]) ++ ext⟩ 74 (0, 0))] := (by have h9 := ownS_cut hown (q' := l'.length) (by omega); have e9 : (pairsC (l' ++ [(pa, pb)])).take (l'.length * 2) = pairsC l' := (by rw [pairsC_app, List.take_left' (by rw [pairsC_len])]); rw [e9] at h9; exact h9))
      (refine wpc_mixM [0, 1, 2, 4, 5, 6] [2, 6] [] (.one 0 (.one 1 (.one 2 (.one 4 (.one 5 (.one 6 (.one 3 (.one 7 (.one 8 (.one 9 .nil)))))))))) [b8] S mixed (by kernel_rfl) ?_; clear S; intro w S)
      (refine wpm_v S rfl rfl rfl (want_none _ rfl) rfl rfl (fun w' S => sv_pure S rfl) ?_; clear S a; intro a S)
      (refine wpm_v S rfl rfl rfl (want_none _ rfl) rfl rfl (fun w' S => sv_fieldAddr S rfl rfl rfl inferInstance rfl) ?_; clear S a; intro a S)
      first | (refine wpm_lateO b8 S rfl rfl rfl (want_none _ rfl) rfl rfl (fun w' S => sv_loadO S rfl rfl (by rfl)) ?_; clear S a; intro a S) | (refine wpm_lateO b8 S rfl rfl rfl (want_none _ rfl) rfl rfl (fun w' S => sv_loadAO S rfl rfl (by rfl)) ?_; clear S a; intro a S)
      (refine wpm_v S rfl rfl rfl (want_none _ rfl) rfl rfl (fun w' S => sv_pure S rfl) ?_; clear S a; intro a S)
      (refine wpm_v S rfl rfl rfl (want_none _ rfl) rfl rfl (fun w' S => sv_fieldAddr S rfl rfl rfl inferInstance rfl) ?_; clear S a; intro a S)
      first | (refine wpm_lateO b8 S rfl rfl rfl (want_none _ rfl) rfl rfl (fun w' S => sv_loadO S rfl rfl (by rfl)) ?_; clear S a; intro a S) | (refine wpm_lateO b8 S rfl rfl rfl (want_none _ rfl) rfl rfl (fun w' S => sv_loadAO S rfl rfl (by rfl)) ?_; clear S a; intro a S)
      refine wpm_eff rfl rfl (fun _ => ⟨fun b o h => S.tr.frz b o (by first | exact h | solve_by_elim), S.has inferInstance, trivial⟩) ?_
      (first | (refine wpl_callOwn (Gs := GG) (Gr := [[(b8, _)], [(bt, _)]]) S rfl rfl rfl rfl rfl rfl (findCt F tb mb T' n GG pa (A.rt pa) ka (by omega) hTab hka) rfl (grp_perm (A := [[(b8, _)], [(bt, _)]])) ?_; clear S a; intro u9 GG1 a w hv S; obtain ⟨rfl, pa1, hpa1, hTab1⟩ := hv; obtain ⟨kb, hkb⟩ := hA.rt pb hpb; obtain ⟨kb', -, hkb'⟩ := hpa1.2 _ _ _ hkb; replace S : St _ _ _ _ _ F ([(b8, _)] :: [(bt, _)] :: GG1) _ _ := St.rotL S) | (refine wpl_callOwn (Gs := GG1) (Gr := [[(b8, _)], [(bt, _)]]) S rfl rfl rfl rfl rfl rfl (findCt F tb mb { T' with pa := pa1 } n GG1 pb (A.rt pb) kb' (by omega) hTab1 hkb') rfl (grp_perm (A := [[(b8, _)], [(bt, _)]])) ?_; clear S a; intro u9 GG2 a w hv S; obtain ⟨rfl, pa2, hpa2, hTab2⟩ := hv; replace S : St _ _ _ _ _ F ([(b8, _)] :: [(bt, _)] :: GG2) _ _ := St.rotL S))
      refine wpList_nil ?_
      refine wpm_eff rfl rfl (fun _ => ⟨fun b o h => S.tr.frz b o (by first | exact h | solve_by_elim), S.has inferInstance, trivial⟩) ?_
      (first | (refine wpl_callOwn (Gs := GG) (Gr := [[(b8, _)], [(bt, _)]]) S rfl rfl rfl rfl rfl rfl (findCt F tb mb T' n GG pa (A.rt pa) ka (by omega) hTab hka) rfl (grp_perm (A := [[(b8, _)], [(bt, _)]])) ?_; clear S a; intro u9 GG1 a w hv S; obtain ⟨rfl, pa1, hpa1, hTab1⟩ := hv; obtain ⟨kb, hkb⟩ := hA.rt pb hpb; obtain ⟨kb', -, hkb'⟩ := hpa1.2 _ _ _ hkb; replace S : St _ _ _ _ _ F ([(b8, _)] :: [(bt, _)] :: GG1) _ _ := St.rotL S) | (refine wpl_callOwn (Gs := GG1) (Gr := [[(b8, _)], [(bt, _)]]) S rfl rfl rfl rfl rfl rfl (findCt F tb mb { T' with pa := pa1 } n GG1 pb (A.rt pb) kb' (by omega) hTab1 hkb') rfl (grp_perm (A := [[(b8, _)], [(bt, _)]])) ?_; clear S a; intro u9 GG2 a w hv S; obtain ⟨rfl, pa2, hpa2, hTab2⟩ := hv; replace S : St _ _ _ _ _ F ([(b8, _)] :: [(bt, _)] :: GG2) _ _ := St.rotL S))
      refine wpList_nil ?_
      refine wpm_eff rfl rfl (fun _ => ⟨fun b o h => S.tr.frz b o (by first | exact h | solve_by_elim), S.has inferInstance, trivial⟩) ?_
      (refine wpl_v S rfl rfl rfl (sv_pure S rfl) ?_; clear S a; intro a S)
      refine wpList_nil ?_
      refine wpm_eff rfl rfl (fun _ => ⟨fun b o h => S.tr.frz b o (by first | exact h | solve_by_elim), S.has inferInstance, trivial⟩) ?_
      (refine wpl_v S rfl rfl rfl (sv_pure S rfl) ?_; clear S a; intro a S)
      refine wpList_nil ?_
      refine wpm_nil (fun _ => ⟨fun b o h => S.tr.frz b o (by first | exact h | solve_by_elim), S.has inferInstance, trivial⟩) ?_
      (refine hKq8 _ _ ?_; try (clear hKq8 Kq8))
      (refine wp_seq_k ?_; intro Kq9 hKq9)
      (refine wp_seq_k ?_; intro Kq10 hKq10)
      refine wp_region_lit ?_
      (refine wpl_v S rfl rfl rfl (sv_pure S rfl) ?_; clear S a; intro a S)
      (refine wpl_v S rfl rfl rfl (sv_pure S rfl) ?_; clear S a; intro a S)
      (refine wpl_v S rfl rfl rfl (sv_pure S rfl) ?_; clear S a; intro a S)
      refine wpList_nil ?_
      (refine hKq10 _ _ ?_; try (clear hKq10 Kq10))
      refine wpc_split S rfl (fun h => ?_) (fun h => ?_)
      · (skip; (try simp only [decide_eq_true_eq, decide_eq_false_iff_not, beq_iff_eq, bne_iff_ne, bne_eq_false_iff_eq, beq_eq_false_iff_ne, ne_eq, Bool.not_eq_true', Bool.not_eq_false', Bool.not_eq_true, Bool.not_eq_false, Bool.not_true, Bool.not_false, Int.ofNat_lt, Int.ofNat_le, Nat.not_lt, Nat.not_le] at h))
        refine wp_exit ?_
        change ∃ m', _ ∧ _
        (first | (have heq : A.rt pa = A.rt pb := (by omega); replace S := S.drop1; refine ⟨roots A n * 3001 + l'.length, by omega, l', _, _, A, { { T' with pa := pa1 } with pa := pa2 }, GG2, rfl, fun r A' h9 => hrun _ _ (.same heq h9), by omega, hcut, hTab2, hnd', hvs', (hA.find hpa1).find hpa2, hW, (fun p hp => hpr p (by simp [hp])), ?_⟩; (refine S.keep ?_; repeat (first | exact trivial | refine ⟨rfl, ?_⟩)); done) | (have hs9 : A.st (A.rt pa) < 0 ∨ A.st (A.rt pb) < 0 := (by omega); have hTab3 : TabM F tb mb ⟨T'.nd, T'.vs, pa2.set (A.rt pa) (A.rt pb), T'.st.set (A.rt pb) (max (A.st (A.rt pa)) (A.st (A.rt pb))), T'.le.set (A.rt pb) (lesserS (A.le (A.rt pa)) (A.le (A.rt pb)))⟩ n [[(tb, .cells ⟨[.slice (some ⟨bn, 0, none⟩) n cn, .map (some mb), .slice (some ⟨bp, 0, none⟩) n cp, .slice (some ⟨bs1, 0, none⟩) n cs, .slice (some ⟨bl, 0, none⟩) n cl, .int .i64 told]⟩ 47 (0, 0))], [(mb, mObj kS (mapV T'.vs))], [(bn, .cells ⟨xsn ++ exn⟩ 66 (0, 0))], [(bp, .cells ⟨intsN (pa2.set (A.rt pa) (A.rt pb)) ++ exp⟩ 3 (0, 0))], [(bs1, .cells ⟨intsI (T'.st.set (A.rt pb) (max (A.st (A.rt pa)) (A.st (A.rt pb)))) ++ exs⟩ 3 (0, 0))], [(bl, .cells ⟨strs (T'.le.set (A.rt pb) (lesserS (A.le (A.rt pa)) (A.le (A.rt pb)))) ++ exl⟩ 9 (0, 0))]] := ⟨_, _, _, _, told, _, _, _, _, rfl, ⟨⟨xsn, ownS_mkN hcn3 hcn1 hcn2 hcn4, hNd⟩, ownS_mkN (by rw [intsN_len, List.length_set]; omega) hcp1 hcp2 (by simp only [List.length_append, intsN_len, List.length_set] at hcp4 ⊢; exact hcp4), ownS_mkN (by rw [intsI_len, List.length_set]; omega) hcs1 hcs2 (by simp only [List.length_append, intsI_len, List.length_set] at hcs4 ⊢; exact hcs4), ownS_mkN (by rw [strs_len, List.length_set]; omega) hcl1 hcl2 (by simp only [List.length_append, strs_len, List.length_set] at hcl4 ⊢; exact hcl4)⟩⟩; have hrm := roots_merge hxn hWa.2 hWb.2 hne; have hA3 := hA2.merge hxn hyn hWa.2 hWb.2 hne; have hW3 := hW.merge (x := A.rt pa) (y := A.rt pb) (by omega) (by omega) hWb.2 hne; replace S := S.drop1; refine ⟨roots (A.merge (A.rt pa) (A.rt pb)) n * 3001 + l'.length, by omega, l', _, _, A.merge (A.rt pa) (A.rt pb), ⟨T'.nd, T'.vs, pa2.set (A.rt pa) (A.rt pb), T'.st.set (A.rt pb) (max (A.st (A.rt pa)) (A.st (A.rt pb))), T'.le.set (A.rt pb) (lesserS (A.le (A.rt pa)) (A.le (A.rt pb)))⟩, [[(tb, .cells ⟨[.slice (some ⟨bn, 0, none⟩) n cn, .map (some mb), .slice (some ⟨bp, 0, none⟩) n cp, .slice (some ⟨bs1, 0, none⟩) n cs, .slice (some ⟨bl, 0, none⟩) n cl, .int .i64 told]⟩ 47 (0, 0))], [(mb, mObj kS (mapV T'.vs))], [(bn, .cells ⟨xsn ++ exn⟩ 66 (0, 0))], [(bp, .cells ⟨intsN (pa2.set (A.rt pa) (A.rt pb)) ++ exp⟩ 3 (0, 0))], [(bs1, .cells ⟨intsI (T'.st.set (A.rt pb) (max (A.st (A.rt pa)) (A.st (A.rt pb)))) ++ exs⟩ 3 (0, 0))], [(bl, .cells ⟨strs (T'.le.set (A.rt pb) (lesserS (A.le (A.rt pa)) (A.le (A.rt pb)))) ++ exl⟩ 9 (0, 0))]], rfl, fun r A' h9 => hrun _ _ (.var hne hs9 h9), by omega, hcut, hTab3, hnd', hvs', hA3, hW3, (fun p hp => hpr p (by simp [hp])), ?_⟩; (refine S.keep ?_; repeat (first | exact trivial | refine ⟨rfl, ?_⟩)); done) | (have hig : i = ks1.length := (by omega); have hz : (ks1.zip ks2).length = ks1.length := (by rw [List.length_zip]; omega); have hown3 : OwnS 74 2 v (l' ++ ks1.zip ks2).length (pairsC (l' ++ ks1.zip ks2)) g := (by rw [hig, List.take_of_length_le (by omega)] at hown2; rw [List.length_append, hz]; exact hown2); rw [← hu, ← hq] at S; have hTab3 : TabM F tb mb ⟨T'.nd, T'.vs, pa2.set (A.rt pa) (A.rt pb), T'.st.set (A.rt pb) (max (A.st (A.rt pa)) (A.st (A.rt pb))), T'.le.set (A.rt pb) (lesserS (A.le (A.rt pa)) (A.le (A.rt pb)))⟩ n [[(tb, .cells ⟨[.slice (some ⟨bn, 0, none⟩) n cn, .map (some mb), .slice (some ⟨bp, 0, none⟩) n cp, .slice (some ⟨bs1, 0, none⟩) n cs, .slice (some ⟨bl, 0, none⟩) n cl, .int .i64 told]⟩ 47 (0, 0))], [(mb, mObj kS (mapV T'.vs))], [(bn, .cells ⟨xsn ++ exn⟩ 66 (0, 0))], [(bp, .cells ⟨intsN (pa2.set (A.rt pa) (A.rt pb)) ++ exp⟩ 3 (0, 0))], [(bs1, .cells ⟨intsI (T'.st.set (A.rt pb) (max (A.st (A.rt pa)) (A.st (A.rt pb)))) ++ exs⟩ 3 (0, 0))], [(bl, .cells ⟨strs (T'.le.set (A.rt pb) (lesserS (A.le (A.rt pa)) (A.le (A.rt pb)))) ++ exl⟩ 9 (0, 0))]] := ⟨_, _, _, _, told, _, _, _, _, rfl, ⟨⟨xsn, ownS_mkN hcn3 hcn1 hcn2 hcn4, hNd⟩, ownS_mkN (by rw [intsN_len, List.length_set]; omega) hcp1 hcp2 (by simp only [List.length_append, intsN_len, List.length_set] at hcp4 ⊢; exact hcp4), ownS_mkN (by rw [intsI_len, List.length_set]; omega) hcs1 hcs2 (by simp only [List.length_append, intsI_len, List.length_set] at hcs4 ⊢; exact hcs4), ownS_mkN (by rw [strs_len, List.length_set]; omega) hcl1 hcl2 (by simp only [List.length_append, strs_len, List.length_set] at hcl4 ⊢; exact hcl4)⟩⟩; have hrm := roots_merge hxn hWa.2 hWb.2 hne; have hA3 := hA2.merge hxn hyn hWa.2 hWb.2 hne; have hW3 := hW.merge (x := A.rt pa) (y := A.rt pb) (by omega) (by omega) hWb.2 hne; replace S := S.drop1.drop1.drop1; have hl9 : (l' ++ ks1.zip ks2).length = l'.length + ks1.length := (by rw [List.length_append, hz]); refine ⟨roots (A.merge (A.rt pa) (A.rt pb)) n * 3001 + (l' ++ ks1.zip ks2).length, by omega, l' ++ ks1.zip ks2, _, _, A.merge (A.rt pa) (A.rt pb), ⟨T'.nd, T'.vs, pa2.set (A.rt pa) (A.rt pb), T'.st.set (A.rt pb) (max (A.st (A.rt pa)) (A.st (A.rt pb))), T'.le.set (A.rt pb) (lesserS (A.le (A.rt pa)) (A.le (A.rt pb)))⟩, [[(tb, .cells ⟨[.slice (some ⟨bn, 0, none⟩) n cn, .map (some mb), .slice (some ⟨bp, 0, none⟩) n cp, .slice (some ⟨bs1, 0, none⟩) n cs, .slice (some ⟨bl, 0, none⟩) n cl, .int .i64 told]⟩ 47 (0, 0))], [(mb, mObj kS (mapV T'.vs))], [(bn, .cells ⟨xsn ++ exn⟩ 66 (0, 0))], [(bp, .cells ⟨intsN (pa2.set (A.rt pa) (A.rt pb)) ++ exp⟩ 3 (0, 0))], [(bs1, .cells ⟨intsI (T'.st.set (A.rt pb) (max (A.st (A.rt pa)) (A.st (A.rt pb)))) ++ exs⟩ 3 (0, 0))], [(bl, .cells ⟨strs (T'.le.set (A.rt pb) (lesserS (A.le (A.rt pa)) (A.le (A.rt pb)))) ++ exl⟩ 9 (0, 0))]], rfl, fun r A' h9 => hrun _ _ (.node hne (by omega) (by omega) (by rw [hu, Int.toNat_natCast]; exact hk1) (by rw [hq, Int.toNat_natCast, hnmm]; exact hk2) hkk h9), by omega, hown3, hTab3, hnd', hvs', hA3, hW3, (fun p hp => (by rcases List.mem_append.1 hp with hp | hp; exact hpr p (by simp [hp]); have h7 := List.of_mem_zip hp; have h8 := hch1.1 _ h7.1; have h9 := hch2.1 _ h7.2; exact ⟨by omega, by omega⟩)), ?_⟩; (refine S.keep ?_; repeat (first | exact trivial | refine ⟨rfl, ?_⟩)); done) | trace_state)
      · (skip; (try simp only [decide_eq_true_eq, decide_eq_false_iff_not, beq_iff_eq, bne_iff_ne, bne_eq_false_iff_eq, beq_eq_false_iff_ne, ne_eq, Bool.not_eq_true', Bool.not_eq_false', Bool.not_eq_true, Bool.not_eq_false, Bool.not_true, Bool.not_false, Int.ofNat_lt, Int.ofNat_le, Nat.not_lt, Nat.not_le] at h))
        refine wp_skip ?_
        (refine hKq9 _ _ ?_; try (clear hKq9 Kq9))
        (refine wp_seq_k ?_; intro Kq11 hKq11)
        (have hA2 : AbR n pa2 T'.st T'.le A := (hA.find hpa1).find hpa2; have hWa := hW.rr pa (by omega); have hWb := hW.rr pb (by omega); have hxn : A.rt pa < n := (by omega); have hyn : A.rt pb < n := (by omega); have hne : A.rt pa ≠ A.rt pb := (by omega); have hsx := hA2.st _ hxn; have hsy := hA2.st _ hyn; have hlx := hA2.le _ hxn; have hly := hA2.le _ hyn; have hpl := hA2.pl; have hsl0 := hA2.sl; have hll0 := hA2.ll; have hsvx := hW.sv _ (show A.rt pa < T.nd.length by omega); have hsvy := hW.sv _ (show A.rt pb < T.nd.length by omega); obtain ⟨vn, vp, vt, vl, told, gn, gp, gs, gl, rfl, ⟨xsn, hN, hNd⟩, hP, hS, hL⟩ := hTab2; replace hNd : NdC F xsn T'.nd := hNd; replace hP : OwnS _ _ vp n (intsN pa2) gp := hP; replace hS : OwnS _ _ vt n (intsI T'.st) gs := hS; replace hL : OwnS _ _ vl n (strs T'.le) gl := hL; obtain ⟨bn, cn, exn, rfl, rfl, hcn1, hcn2, hcn3, hcn4⟩ := ownS_blkN hN (by omega); obtain ⟨bp, cp, exp, rfl, rfl, hcp1, hcp2, hcp3, hcp4⟩ := ownS_blkN hP (by omega); obtain ⟨bs1, cs, exs, rfl, rfl, hcs1, hcs2, hcs3, hcs4⟩ := ownS_blkN hS (by omega); obtain ⟨bl, cl, exl, rfl, rfl, hcl1, hcl2, hcl3, hcl4⟩ := ownS_blkN hL (by omega); replace S : St _ _ _ _ _ F [[(b8, _)], [(bt, _)], [(tb, .cells ⟨[.slice (some ⟨bn, 0, none⟩) n cn, .map (some mb), .slice (some ⟨bp, 0, none⟩) n cp, .slice (some ⟨bs1, 0, none⟩) n cs, .slice (some ⟨bl, 0, none⟩) n cl, .int .i64 told]⟩ 47 (0, 0))], [(mb, mObj kS (mapV T'.vs))], [(bn, .cells ⟨xsn ++ exn⟩ 66 (0, 0))], [(bp, .cells ⟨intsN pa2 ++ exp⟩ 3 (0, 0))], [(bs1, .cells ⟨intsI T'.st ++ exs⟩ 3 (0, 0))], [(bl, .cells ⟨strs T'.le ++ exl⟩ 9 (0, 0))]] _ _ := S)
        (refine wpc_mixM [0, 1, 2, 3, 4, 5, 6, 7, 8, 9, 10, 11, 12, 13] [3, 6, 10, 13] [] (.one 0 (.one 1 (.one 2 (.one 3 (.one 4 (.one 5 (.one 6 (.one 7 (.one 8 (.one 9 (.one 10 (.one 11 (.one 12 (.one 13 (.one 14 (.one 15 .nil)))))))))))))))) [tb, bs1] S mixed (by kernel_rfl) ?_; clear S; intro w S)
        (refine wpm_v S rfl rfl rfl (want_none _ rfl) rfl rfl (fun w' S => sv_pure S rfl) ?_; clear S a; intro a S)
        (refine wpm_v S rfl rfl rfl (want_none _ rfl) rfl rfl (fun w' S => sv_nilCheck S rfl rfl) ?_; clear S a; intro a S)
        (refine wpm_v S rfl rfl rfl (want_none _ rfl) rfl rfl (fun w' S => sv_fieldAddr S rfl rfl rfl inferInstance rfl) ?_; clear S a; intro a S)
        first | (refine wpm_lateO tb S rfl rfl rfl (want_none _ rfl) rfl rfl (fun w' S => sv_loadO S rfl rfl (by rfl)) ?_; clear S a; intro a S) | (refine wpm_lateO tb S rfl rfl rfl (want_none _ rfl) rfl rfl (fun w' S => sv_loadAO S rfl rfl (by rfl)) ?_; clear S a; intro a S)
        (refine wpm_v S rfl rfl rfl (want_none _ rfl) rfl rfl (fun w' S => sv_pure S rfl) ?_; clear S a; intro a S)
        (refine wpm_v S rfl rfl rfl (want_none _ rfl) rfl rfl (fun w' S => sv_indexAddrSl S rfl rfl rfl (by first | omega | (simp only [List.length_append, List.length_cons, List.length_nil]; omega))) ?_; clear S a; intro a S)
        (refine wpm_lateO bs1 S rfl rfl rfl (want_none _ rfl) rfl rfl (fun w' S => sv_loadO S rfl rfl (ini hsx)) ?_; clear S a; intro a S)
        (refine wpm_v S rfl rfl rfl (want_none _ rfl) rfl rfl (fun w' S => sv_pure S rfl) ?_; clear S a; intro a S)
        (refine wpm_v S rfl rfl rfl (want_none _ rfl) rfl rfl (fun w' S => sv_nilCheck S rfl rfl) ?_; clear S a; intro a S)
        (refine wpm_v S rfl rfl rfl (want_none _ rfl) rfl rfl (fun w' S => sv_fieldAddr S rfl rfl rfl inferInstance rfl) ?_; clear S a; intro a S)
        first | (refine wpm_lateO tb S rfl rfl rfl (want_none _ rfl) rfl rfl (fun w' S => sv_loadO S rfl rfl (by rfl)) ?_; clear S a; intro a S) | (refine wpm_lateO tb S rfl rfl rfl (want_none _ rfl) rfl rfl (fun w' S => sv_loadAO S rfl rfl (by rfl)) ?_; clear S a; intro a S)
        (refine wpm_v S rfl rfl rfl (want_none _ rfl) rfl rfl (fun w' S => sv_pure S rfl) ?_; clear S a; intro a S)
        (refine wpm_v S rfl rfl rfl (want_none _ rfl) rfl rfl (fun w' S => sv_indexAddrSl S rfl rfl rfl (by first | omega | (simp only [List.length_append, List.length_cons, List.length_nil]; omega))) ?_; clear S a; intro a S)
        (refine wpm_lateO bs1 S rfl rfl rfl (want_none _ rfl) rfl rfl (fun w' S => sv_loadO S rfl rfl (ini hsy)) ?_; clear S a; intro a S)
        refine wpm_eff rfl rfl (fun _ => ⟨fun b o h => S.tr.frz b o (by first | exact h | solve_by_elim), S.has inferInstance, S.has inferInstance, trivial⟩) ?_
        (refine wpl_v S rfl rfl rfl (sv_pure S rfl) ?_; clear S a; intro a S)
        refine wpList_nil ?_
        refine wpm_eff rfl rfl (fun _ => ⟨fun b o h => S.tr.frz b o (by first | exact h | solve_by_elim), S.has inferInstance, S.has inferInstance, trivial⟩) ?_
        (refine wpl_v S rfl rfl rfl (sv_pure S rfl) ?_; clear S a; intro a S)
        refine wpList_nil ?_
        refine wpm_nil (fun _ => ⟨fun b o h => S.tr.frz b o (by first | exact h | solve_by_elim), S.has inferInstance, S.has inferInstance, trivial⟩) ?_
        (refine hKq11 _ _ ?_; try (clear hKq11 Kq11))
        (refine wp_seq_k ?_; intro Kq12 hKq12)
        (refine wp_seq_k ?_; intro Kq13 hKq13)
        refine wp_region_lit ?_
        (refine wpl_v S rfl rfl rfl (sv_pure S rfl) ?_; clear S a; intro a S)
        (refine wpl_v S rfl rfl rfl (sv_pure S rfl) ?_; clear S a; intro a S)
        (refine wpl_v S rfl rfl rfl (sv_pure S rfl) ?_; clear S a; intro a S)
        refine wpl_guard S rfl rfl rfl rfl rfl ?_ ?_
        · (intro h S'; clear S; have S := S'; clear S'; (try simp only [decide_eq_true_eq, decide_eq_false_iff_not, beq_iff_eq, bne_iff_ne, bne_eq_false_iff_eq, beq_eq_false_iff_ne, ne_eq, Bool.not_eq_true', Bool.not_eq_false', Bool.not_eq_true, Bool.not_eq_false, Bool.not_true, Bool.not_false, Int.ofNat_lt, Int.ofNat_le, Nat.not_lt, Nat.not_le] at h))
          (refine wpl_v S rfl rfl rfl (sv_pure S rfl) ?_; clear S a; intro a S)
          refine wpl_take S rfl rfl rfl ?_
          (refine wpl_v S rfl rfl rfl (sv_pure S rfl) ?_; clear S a; intro a S)
          first | (refine wpl_v S rfl rfl rfl (sv_pure S rfl) ?_; clear S a; intro a S) | (refine wpl_v S rfl rfl rfl (sv_pickB S rfl rfl rfl rfl) ?_; clear S a; intro a S)
          refine wpList_nil ?_
          (refine hKq13 _ _ ?_; try (clear hKq13 Kq13))
          refine wpc_split S rfl (fun h => ?_) (fun h => ?_)
          · (skip; (try simp only [decide_eq_true_eq, decide_eq_false_iff_not, beq_iff_eq, bne_iff_ne, bne_eq_false_iff_eq, beq_eq_false_iff_ne, ne_eq, Bool.not_eq_true', Bool.not_eq_false', Bool.not_eq_true, Bool.not_eq_false, Bool.not_true, Bool.not_false, Int.ofNat_lt, Int.ofNat_le, Nat.not_lt, Nat.not_le] at h))
            (refine wp_seq_k ?_; intro Kq14 hKq14)
            (obtain ⟨u, hu⟩ : ∃ u : Nat, A.st (A.rt pa) = (u : Int) := ⟨_, (Int.toNat_of_nonneg (by assumption)).symm⟩; obtain ⟨q, hq⟩ : ∃ q : Nat, A.st (A.rt pb) = (q : Int) := ⟨_, (Int.toNat_of_nonneg (by assumption)).symm⟩; rw [hu, hq] at S; have hun : u < T.nd.length := (by omega); have hqn : q < T.nd.length := (by omega); obtain ⟨⟨nm1, ks1⟩, hk1⟩ : ∃ x, T.nd[u]? = some x := ⟨_, List.getElem?_eq_getElem hun⟩; obtain ⟨⟨nm2, ks2⟩, hk2⟩ : ∃ x, T.nd[q]? = some x := ⟨_, List.getElem?_eq_getElem hqn⟩; obtain ⟨vk1, hg1, hsl1⟩ := ndc_get (ex := exn) hNd (by rw [hnd']; exact hk1); obtain ⟨vk2, hg2, hsl2⟩ := ndc_get (ex := exn) hNd (by rw [hnd']; exact hk2); have hsl1' := hsl1; have hsl2' := hsl2; obtain ⟨ao1, cap1, rfl, -, -⟩ := hsl1'; obtain ⟨ao2, cap2, rfl, -, -⟩ := hsl2'; (simp only at hg1 hg2 hsl1 hsl2); have hch1 := hW.ch _ _ _ hk1; have hch2 := hW.ch _ _ _ hk2)
            (refine wpc_mixM [0, 1, 2, 3, 4, 5, 6, 7, 8, 9, 10, 11, 12, 13] [3, 6, 10, 13] [] (.one 0 (.one 1 (.one 2 (.one 3 (.one 4 (.one 5 (.one 6 (.one 7 (.one 8 (.one 9 (.one 10 (.one 11 (.one 12 (.one 13 (.two 14 15 (.one 15 (.one 16 (.one 17 .nil))) (.one 14 (.one 16 (.one 17 .nil)))))))))))))))))) [tb, bn] S mixed (by kernel_rfl) ?_; clear S; intro w S)
            (refine wpm_v S rfl rfl rfl (want_none _ rfl) rfl rfl (fun w' S => sv_pure S rfl) ?_; clear S a; intro a S)
            (refine wpm_v S rfl rfl rfl (want_none _ rfl) rfl rfl (fun w' S => sv_nilCheck S rfl rfl) ?_; clear S a; intro a S)
            (refine wpm_v S rfl rfl rfl (want_none _ rfl) rfl rfl (fun w' S => sv_fieldAddr S rfl rfl rfl inferInstance rfl) ?_; clear S a; intro a S)
            first | (refine wpm_lateO tb S rfl rfl rfl (want_none _ rfl) rfl rfl (fun w' S => sv_loadO S rfl rfl (by rfl)) ?_; clear S a; intro a S) | (refine wpm_lateO tb S rfl rfl rfl (want_none _ rfl) rfl rfl (fun w' S => sv_loadAO S rfl rfl (by rfl)) ?_; clear S a; intro a S)
            (refine wpm_v S rfl rfl rfl (want_none _ rfl) rfl rfl (fun w' S => sv_pure S rfl) ?_; clear S a; intro a S)
            (refine wpm_v S rfl rfl rfl (want_none _ rfl) rfl rfl (fun w' S => sv_indexAddrSl S rfl rfl rfl (by first | omega | (simp only [List.length_append, List.length_cons, List.length_nil]; omega))) ?_; clear S a; intro a S)
            (refine wpm_lateO bn S rfl rfl rfl (want_none _ rfl) rfl rfl (fun w' S => sv_loadAOc S rfl rfl hg1 (by rfl)) ?_; clear S a; intro a S)
            (refine wpm_v S rfl rfl rfl (want_none _ rfl) rfl rfl (fun w' S => sv_pure S rfl) ?_; clear S a; intro a S)
            (refine wpm_v S rfl rfl rfl (want_none _ rfl) rfl rfl (fun w' S => sv_nilCheck S rfl rfl) ?_; clear S a; intro a S)
            (refine wpm_v S rfl rfl rfl (want_none _ rfl) rfl rfl (fun w' S => sv_fieldAddr S rfl rfl rfl inferInstance rfl) ?_; clear S a; intro a S)
            first | (refine wpm_lateO tb S rfl rfl rfl (want_none _ rfl) rfl rfl (fun w' S => sv_loadO S rfl rfl (by rfl)) ?_; clear S a; intro a S) | (refine wpm_lateO tb S rfl rfl rfl (want_none _ rfl) rfl rfl (fun w' S => sv_loadAO S rfl rfl (by rfl)) ?_; clear S a; intro a S)
            (refine wpm_v S rfl rfl rfl (want_none _ rfl) rfl rfl (fun w' S => sv_pure S rfl) ?_; clear S a; intro a S)
            (refine wpm_v S rfl rfl rfl (want_none _ rfl) rfl rfl (fun w' S => sv_indexAddrSl S rfl rfl rfl (by first | omega | (simp only [List.length_append, List.length_cons, List.length_nil]; omega))) ?_; clear S a; intro a S)
            (refine wpm_lateO bn S rfl rfl rfl (want_none _ rfl) rfl rfl (fun w' S => sv_loadAOc S rfl rfl hg2 (by rfl)) ?_; clear S a; intro a S)
            refine wpm_two rfl rfl (fun _ => ⟨fun b o h => S.tr.frz b o (by first | exact h | solve_by_elim), S.has inferInstance, S.has inferInstance, trivial⟩) ?_ ?_
            · skip
              (refine wpl_alloc S rfl rfl rfl rfl ?_; clear S a; intro b13 a w S)
              refine wpList_nil ?_
              refine wpm_eff rfl rfl (fun _ => ⟨fun b o h => S.tr.frz b o (by first | exact h | solve_by_elim), S.has inferInstance, S.has inferInstance, trivial⟩) ?_
              (refine wpl_alloc S rfl rfl rfl rfl ?_; clear S a; intro b14 a w S)
              refine wpList_nil ?_
              refine wpm_eff rfl rfl (fun _ => ⟨fun b o h => S.tr.frz b o (by first | exact h | solve_by_elim), S.has inferInstance, S.has inferInstance, trivial⟩) ?_
              (refine wpl_storeO S rfl rfl rfl rfl rfl (by rfl) (by simp [Value.cells, Value.oneCell', splice]) (by rfl) ?_; clear S; intro w S)
              refine wpList_nil ?_
              refine wpm_eff rfl rfl (fun _ => ⟨fun b o h => S.tr.frz b o (by first | exact h | solve_by_elim), S.has inferInstance, S.has inferInstance, trivial⟩) ?_
              (refine wpl_storeO S rfl rfl rfl rfl rfl (by rfl) (by simp [Value.cells, Value.oneCell', splice]) (by rfl) ?_; clear S; intro w S)
              refine wpList_nil ?_
              refine wpm_nil (fun _ => ⟨fun b o h => S.tr.frz b o (by first | exact h | solve_by_elim), S.has inferInstance, S.has inferInstance, trivial⟩) ?_
              (refine hKq14 _ _ ?_; try (clear hKq14 Kq14))
              (refine wp_seq_k ?_; intro Kq15 hKq15)
              (refine wp_seq_k ?_; intro Kq16 hKq16)
              refine wp_region_lit ?_
              (refine wpl_v S rfl rfl rfl (sv_fieldAddr S rfl rfl rfl inferInstance rfl) ?_; clear S a; intro a S)
              first | (refine wpl_v S rfl rfl rfl (sv_loadO S rfl rfl (by rfl)) ?_; clear S a; intro a S) | (refine wpl_v S rfl rfl rfl (sv_loadF S rfl rfl (by assumption)) ?_; clear S a; intro a S)
              (refine wpl_v S rfl rfl rfl (sv_fieldAddr S rfl rfl rfl inferInstance rfl) ?_; clear S a; intro a S)
              first | (refine wpl_v S rfl rfl rfl (sv_loadO S rfl rfl (by rfl)) ?_; clear S a; intro a S) | (refine wpl_v S rfl rfl rfl (sv_loadF S rfl rfl (by assumption)) ?_; clear S a; intro a S)
              (refine wpl_v S rfl rfl rfl (sv_pure S rfl) ?_; clear S a; intro a S)
              (refine wpl_v S rfl rfl rfl (sv_pure S rfl) ?_; clear S a; intro a S)
              refine wpl_guard S rfl rfl rfl rfl rfl ?_ ?_
              · (intro h S'; clear S; have S := S'; clear S'; (try simp only [decide_eq_true_eq, decide_eq_false_iff_not, beq_iff_eq, bne_iff_ne, bne_eq_false_iff_eq, beq_eq_false_iff_ne, ne_eq, Bool.not_eq_true', Bool.not_eq_false', Bool.not_eq_true, Bool.not_eq_false, Bool.not_true, Bool.not_false, Int.ofNat_lt, Int.ofNat_le, Nat.not_lt, Nat.not_le] at h))
                (refine wpl_v S rfl rfl rfl (sv_fieldAddr S rfl rfl rfl inferInstance rfl) ?_; clear S a; intro a S)
                refine wpl_take S rfl rfl rfl ?_
                first | (refine wpl_v S rfl rfl rfl (sv_loadO S rfl rfl (by rfl)) ?_; clear S a; intro a S) | (refine wpl_v S rfl rfl rfl (sv_loadF S rfl rfl (by assumption)) ?_; clear S a; intro a S)
                refine wpl_take S rfl rfl rfl ?_
                (refine wpl_v S rfl rfl rfl (sv_lenSl S rfl rfl) ?_; clear S a; intro a S)
                refine wpl_take S rfl rfl rfl ?_
                (refine wpl_v S rfl rfl rfl (sv_fieldAddr S rfl rfl rfl inferInstance rfl) ?_; clear S a; intro a S)
                refine wpl_take S rfl rfl rfl ?_
                first | (refine wpl_v S rfl rfl rfl (sv_loadO S rfl rfl (by rfl)) ?_; clear S a; intro a S) | (refine wpl_v S rfl rfl rfl (sv_loadF S rfl rfl (by assumption)) ?_; clear S a; intro a S)
                refine wpl_take S rfl rfl rfl ?_
                (refine wpl_v S rfl rfl rfl (sv_lenSl S rfl rfl) ?_; clear S a; intro a S)
                refine wpl_take S rfl rfl rfl ?_
                (refine wpl_v S rfl rfl rfl (sv_pure S rfl) ?_; clear S a; intro a S)
                first | (refine wpl_v S rfl rfl rfl (sv_pure S rfl) ?_; clear S a; intro a S) | (refine wpl_v S rfl rfl rfl (sv_pickB S rfl rfl rfl rfl) ?_; clear S a; intro a S)
                refine wpList_nil ?_
                (refine hKq16 _ _ ?_; try (clear hKq16 Kq16))
                refine wpc_split S rfl (fun h => ?_) (fun h => ?_)
                · (skip; (try simp only [decide_eq_true_eq, decide_eq_false_iff_not, beq_iff_eq, bne_iff_ne, bne_eq_false_iff_eq, beq_eq_false_iff_ne, ne_eq, Bool.not_eq_true', Bool.not_eq_false', Bool.not_eq_true, Bool.not_eq_false, Bool.not_true, Bool.not_false, Int.ofNat_lt, Int.ofNat_le, Nat.not_lt, Nat.not_le] at h))
                  (refine wp_seq_k ?_; intro Kq17 hKq17)
                  refine wp_region_lit ?_
                  (refine wpl_v S rfl rfl rfl (sv_pure S rfl) ?_; clear S a; intro a S)
                  refine wpList_nil ?_
                  (refine hKq17 _ _ ?_; try (clear hKq17 Kq17))
                  refine wp_ret ?_
                  (replace S := S.drop1)
                  
                  refine fin_ret S (results1 Tryd.results27 (RV.tmp S rfl)) ?_
                  (first | (have hl0 : l = [] := List.eq_nil_of_length_eq_zero (by omega); subst hl0; exact ⟨true, A, rfl, hrun _ _ .done, fun _ => ⟨T', hnd', hvs', hA, hW, hTab⟩⟩) | (exact ⟨false, A, rfl, hrun _ _ (.clash hne (by omega) (by omega) (by rw [hu, Int.toNat_natCast]; exact hk1) (by rw [hq, Int.toNat_natCast]; exact hk2) (by first | exact .inl (by assumption) | exact .inr (by omega))), fun h => by cases h⟩) | trace_state)
                · (skip; (try simp only [decide_eq_true_eq, decide_eq_false_iff_not, beq_iff_eq, bne_iff_ne, bne_eq_false_iff_eq, beq_eq_false_iff_ne, ne_eq, Bool.not_eq_true', Bool.not_eq_false', Bool.not_eq_true, Bool.not_eq_false, Bool.not_true, Bool.not_false, Int.ofNat_lt, Int.ofNat_le, Nat.not_lt, Nat.not_le] at h))
                  refine wp_skip ?_
                  (refine hKq15 _ _ ?_; try (clear hKq15 Kq15))
                  (refine wp_seq_k ?_; intro Kq17 hKq17)
                  (have hnmm : nm1 = nm2 := (by assumption); have hkk : ks1.length = ks2.length := (by omega); obtain ⟨B8, hB8⟩ : ∃ o : Obj, o = .cells ⟨[.int .i64 (pa : Int), .int .i64 (pb : Int)]⟩ 74 (0, 0) := ⟨_, rfl⟩; replace S : St _ _ _ _ _ F [[(b14, _)], [(b13, _)], [(b8, B8)], _, [(tb, .cells ⟨[.slice (some ⟨bn, 0, none⟩) n cn, .map (some mb), .slice (some ⟨bp, 0, none⟩) n cp, .slice (some ⟨bs1, 0, none⟩) n cs, .slice (some ⟨bl, 0, none⟩) n cl, .int .i64 told]⟩ 47 (0, 0))], [(mb, mObj kS (mapV T'.vs))], [(bn, .cells ⟨xsn ++ exn⟩ 66 (0, 0))], [(bp, .cells ⟨intsN pa2 ++ exp⟩ 3 (0, 0))], [(bs1, .cells ⟨intsI T'.st ++ exs⟩ 3 (0, 0))], [(bl, .cells ⟨strs T'.le ++ exl⟩ 9 (0, 0))]] _ _ := (by rw [hB8]; first | exact S | exact St.permI S 10 rfl [1, 0, 2, 3, 4, 5, 6, 7, 8, 9] (by decide)))
                  refine wp_region_lit ?_
                  (refine wpl_v S rfl rfl rfl (sv_fieldAddr S rfl rfl rfl inferInstance rfl) ?_; clear S a; intro a S)
                  first | (refine wpl_v S rfl rfl rfl (sv_loadO S rfl rfl (by rfl)) ?_; clear S a; intro a S) | (refine wpl_v S rfl rfl rfl (sv_loadF S rfl rfl (by assumption)) ?_; clear S a; intro a S)
                  (refine wpl_v S rfl rfl rfl (sv_lenSl S rfl rfl) ?_; clear S a; intro a S)
                  (refine wpl_v S rfl rfl rfl (sv_pure S rfl) ?_; clear S a; intro a S)
                  refine wpList_nil ?_
                  (refine hKq17 _ _ ?_; try (clear hKq17 Kq17))
                  refine wp_block ?_
                  refine wpc_loop (fun m a w' => ∃ (i : Nat) (v : Value) (g : Grp), m = ks1.length - i ∧ i ≤ ks1.length ∧ OwnS 74 2 v (l'.length + i) (pairsC (l' ++ (ks1.zip ks2).take i)) g ∧ St 151 [(0, ptr tb), (7, v), (9, .int .i64 (A.rt pa)), (10, .int .i64 (A.rt pb)), (11, .int .i64 u), (12, .int .i64 q), (13, ptr b13), (14, ptr b14), (95, .int .i64 ks1.length), (96, .int .i64 i)] w0 F (keys G) F [[(b14, .cells ⟨[.string (bs nm2), .slice ao2 ks2.length cap2]⟩ 66 (0, 0))], [(b13, .cells ⟨[.string (bs nm1), .slice ao1 ks1.length cap1]⟩ 66 (0, 0))], [(b8, B8)], g, [(tb, .cells ⟨[.slice (some ⟨bn, 0, none⟩) n cn, .map (some mb), .slice (some ⟨bp, 0, none⟩) n cp, .slice (some ⟨bs1, 0, none⟩) n cs, .slice (some ⟨bl, 0, none⟩) n cl, .int .i64 told]⟩ 47 (0, 0))], [(mb, mObj kS (mapV T'.vs))], [(bn, .cells ⟨xsn ++ exn⟩ 66 (0, 0))], [(bp, .cells ⟨intsN pa2 ++ exp⟩ 3 (0, 0))], [(bs1, .cells ⟨intsI T'.st ++ exs⟩ 3 (0, 0))], [(bl, .cells ⟨strs T'.le ++ exl⟩ 9 (0, 0))]] a w') ?_ ?_
                  · (refine ⟨ks1.length, 0, _, _, rfl, Nat.zero_le _, (by rw [List.take_zero, List.append_nil]; exact hcut), ?_⟩; (refine S.keep ?_; repeat (first | exact trivial | refine ⟨rfl, ?_⟩)))
                  · (clear S; rintro m a w ⟨i, v, g, rfl, hil, hown2, S⟩)
                    (refine wp_seq_k ?_; intro Kq18 hKq18)
                    refine wp_region_lit ?_
                    (refine wpl_v S rfl rfl rfl (sv_pure S rfl) ?_; clear S a; intro a S)
                    refine wpList_nil ?_
                    (refine hKq18 _ _ ?_; try (clear hKq18 Kq18))
                    (refine wp_seq_k ?_; intro Kq19 hKq19)
                    refine wpc_split S rfl (fun h => ?_) (fun h => ?_)
                    · (skip; (try simp only [decide_eq_true_eq, decide_eq_false_iff_not, beq_iff_eq, bne_iff_ne, bne_eq_false_iff_eq, beq_eq_false_iff_ne, ne_eq, Bool.not_eq_true', Bool.not_eq_false', Bool.not_eq_true, Bool.not_eq_false, Bool.not_true, Bool.not_false, Int.ofNat_lt, Int.ofNat_le, Nat.not_lt, Nat.not_le] at h))
                      refine wp_skip ?_
                      (refine hKq19 _ _ ?_; try (clear hKq19 Kq19))
                      (refine wp_seq_k ?_; intro Kq20 hKq20)
                      refine wp_block ?_
                      (refine wp_seq_k ?_; intro Kq21 hKq21)
                      refine wp_region_lit ?_
                      (refine wpl_v S rfl rfl rfl (sv_pure S rfl) ?_; clear S a; intro a S)
                      (refine wpl_v S rfl rfl rfl (sv_pure S rfl) ?_; clear S a; intro a S)
                      refine wpList_nil ?_
                      (refine hKq21 _ _ ?_; try (clear hKq21 Kq21))
                      (obtain ⟨k1, hk1'⟩ : ∃ k, ks1[i]? = some k := ⟨_, List.getElem?_eq_getElem (by omega)⟩; obtain ⟨k2, hk2'⟩ : ∃ k, ks2[i]? = some k := ⟨_, List.getElem?_eq_getElem (by omega)⟩; obtain ⟨bk1, ok1, hao1, hck1⟩ := ks_cel hsl1 hk1'; obtain ⟨bk2, ok2, hao2, hck2⟩ := ks_cel hsl2 hk2'; rw [hao1, hao2] at S)
                      (refine wpc_mixM [0, 1, 2, 3, 4, 5, 6, 7, 8, 9, 10, 11] [2, 5, 7, 10] [] (.one 0 (.one 1 (.one 2 (.one 3 (.one 4 (.one 5 (.one 6 (.one 7 (.one 8 (.one 9 (.one 10 (.one 11 (.one 12 (.one 13 (.one 14 .nil))))))))))))))) [b13, b14] S mixed (by kernel_rfl) ?_; clear S; intro w S)
                      (refine wpm_v S rfl rfl rfl (want_none _ rfl) rfl rfl (fun w' S => sv_pure S rfl) ?_; clear S a; intro a S)
                      (refine wpm_v S rfl rfl rfl (want_none _ rfl) rfl rfl (fun w' S => sv_fieldAddr S rfl rfl rfl inferInstance rfl) ?_; clear S a; intro a S)
                      first | (refine wpm_lateO b13 S rfl rfl rfl (want_none _ rfl) rfl rfl (fun w' S => sv_loadO S rfl rfl (by rfl)) ?_; clear S a; intro a S) | (refine wpm_lateO b13 S rfl rfl rfl (want_none _ rfl) rfl rfl (fun w' S => sv_loadAO S rfl rfl (by rfl)) ?_; clear S a; intro a S)
                      (refine wpm_v S rfl rfl rfl (want_none _ rfl) rfl rfl (fun w' S => sv_pure S rfl) ?_; clear S a; intro a S)
                      (refine wpm_v S rfl rfl rfl (want_none _ rfl) rfl rfl (fun w' S => sv_indexAddrSl S rfl rfl rfl (by first | omega | (simp only [List.length_append, List.length_cons, List.length_nil]; omega))) ?_; clear S a; intro a S)
                      first | (refine wpm_lateF S rfl rfl rfl (want_none _ rfl) rfl rfl (fun w' S => sv_loadF S rfl rfl (by assumption)) ?_; clear S a; intro a S) | (refine wpm_lateF S rfl rfl rfl (want_none _ rfl) rfl rfl (fun w' S => sv_loadAF S rfl rfl (by assumption) (by rfl)) ?_; clear S a; intro a S)
                      (refine wpm_v S rfl rfl rfl (want_none _ rfl) rfl rfl (fun w' S => sv_fieldAddr S rfl rfl rfl inferInstance rfl) ?_; clear S a; intro a S)
                      first | (refine wpm_lateO b14 S rfl rfl rfl (want_none _ rfl) rfl rfl (fun w' S => sv_loadO S rfl rfl (by rfl)) ?_; clear S a; intro a S) | (refine wpm_lateO b14 S rfl rfl rfl (want_none _ rfl) rfl rfl (fun w' S => sv_loadAO S rfl rfl (by rfl)) ?_; clear S a; intro a S)
                      (refine wpm_v S rfl rfl rfl (want_none _ rfl) rfl rfl (fun w' S => sv_pure S rfl) ?_; clear S a; intro a S)
                      (refine wpm_v S rfl rfl rfl (want_none _ rfl) rfl rfl (fun w' S => sv_indexAddrSl S rfl rfl rfl (by first | omega | (simp only [List.length_append, List.length_cons, List.length_nil]; omega))) ?_; clear S a; intro a S)
                      first | (refine wpm_lateF S rfl rfl rfl (want_none _ rfl) rfl rfl (fun w' S => sv_loadF S rfl rfl (by assumption)) ?_; clear S a; intro a S) | (refine wpm_lateF S rfl rfl rfl (want_none _ rfl) rfl rfl (fun w' S => sv_loadAF S rfl rfl (by assumption) (by rfl)) ?_; clear S a; intro a S)
                      (refine wpm_v S rfl rfl rfl (want_none _ rfl) rfl rfl (fun w' S => sv_build S rfl rfl rfl) ?_; clear S a; intro a S)
                      refine wpm_eff rfl rfl (fun _ => ⟨fun b o h => S.tr.frz b o (by first | exact h | solve_by_elim), S.has inferInstance, S.has inferInstance, trivial⟩) ?_
                      (refine wpl_buildSlice S rfl rfl rfl rfl rfl rfl (by rfl) (by simp [Value.cells, splice, splice]) rfl (by rfl) (by rfl) ?_; clear S a; intro b111 a w h111 S)
                      refine wpList_nil ?_
                      refine wpm_eff rfl rfl (fun _ => ⟨fun b o h => S.tr.frz b o (by first | exact h | solve_by_elim), S.has inferInstance, S.has inferInstance, trivial⟩) ?_
                      (refine wpl_appendOwn S rfl rfl rfl rfl rfl rfl hown2 h111 (by rfl) (by simp [Value.cells, Value.oneCell', splice, splice]) (by omega) (by omega) ?_; clear hown2 S a; intro v g a w hown2 S)
                      refine wpList_nil ?_
                      refine wpm_eff rfl rfl (fun _ => ⟨fun b o h => S.tr.frz b o (by first | exact h | solve_by_elim), S.has inferInstance, S.has inferInstance, trivial⟩) ?_
                      (refine wpl_v S rfl rfl rfl (sv_pure S rfl) ?_; clear S a; intro a S)
                      refine wpList_nil ?_
                      refine wpm_nil (fun _ => ⟨fun b o h => S.tr.frz b o (by first | exact h | solve_by_elim), S.has inferInstance, S.has inferInstance, trivial⟩) ?_
                      (refine hKq20 _ _ ?_; try (clear hKq20 Kq20))
                      refine wp_region_lit ?_
                      (refine wpl_v S rfl rfl rfl (sv_add S rfl rfl rfl (by first | omega | (simp only [List.length_append, List.length_cons, List.length_nil]; omega))) ?_; clear S a; intro a S)
                      (refine wpl_v S rfl rfl rfl (sv_pure S rfl) ?_; clear S a; intro a S)
                      refine wpList_nil ?_
                      change ∃ m', _ ∧ _
                      (rw [← hao1, ← hao2] at S; refine ⟨ks1.length - (i + 1), by omega, i + 1, v, g, rfl, by omega, ?_, ?_⟩; rotate_left 1; (refine S.keep ?_; repeat (first | exact trivial | refine ⟨rfl, ?_⟩)); rw [take_zip hk1' hk2', ← List.append_assoc, pairsC_app]; exact hown2)
                    · (skip; (try simp only [decide_eq_true_eq, decide_eq_false_iff_not, beq_iff_eq, bne_iff_ne, bne_eq_false_iff_eq, beq_eq_false_iff_ne, ne_eq, Bool.not_eq_true', Bool.not_eq_false', Bool.not_eq_true, Bool.not_eq_false, Bool.not_true, Bool.not_false, Int.ofNat_lt, Int.ofNat_le, Nat.not_lt, Nat.not_le] at h))
                      refine wp_exit ?_
                      (refine hKq12 _ _ ?_; try (clear hKq12 Kq12))
                      (refine wp_seq_k ?_; intro Kq20 hKq20)
                      refine wp_region_lit ?_
                      (refine wpl_v S rfl rfl rfl (sv_pure S rfl) ?_; clear S a; intro a S)
                      (refine wpl_v S rfl rfl rfl (sv_nilCheck S rfl rfl) ?_; clear S a; intro a S)
                      (refine wpl_v S rfl rfl rfl (sv_fieldAddr S rfl rfl rfl inferInstance rfl) ?_; clear S a; intro a S)
                      first | (refine wpl_v S rfl rfl rfl (sv_loadO S rfl rfl (by rfl)) ?_; clear S a; intro a S) | (refine wpl_v S rfl rfl rfl (sv_loadF S rfl rfl (by assumption)) ?_; clear S a; intro a S)
                      (refine wpl_v S rfl rfl rfl (sv_pure S rfl) ?_; clear S a; intro a S)
                      (refine wpl_v S rfl rfl rfl (sv_pure S rfl) ?_; clear S a; intro a S)
                      (refine wpl_v S rfl rfl rfl (sv_indexAddrSl S rfl rfl rfl (by first | omega | (simp only [List.length_append, List.length_cons, List.length_nil]; omega))) ?_; clear S a; intro a S)
                      (refine wpl_store1 S rfl rfl rfl rfl rfl rfl (by rw [List.length_append]; omega) ?_; clear S; intro w S; rw [inn_set _ (by omega)] at S)
                      refine wpList_nil ?_
                      (refine hKq20 _ _ ?_; try (clear hKq20 Kq20))
                      (refine wp_seq_k ?_; intro Kq21 hKq21)
                      refine wp_region_lit ?_
                      (refine wpl_v S rfl rfl rfl (sv_pure S rfl) ?_; clear S a; intro a S)
                      (refine wpl_v S rfl rfl rfl (sv_nilCheck S rfl rfl) ?_; clear S a; intro a S)
                      (refine wpl_v S rfl rfl rfl (sv_fieldAddr S rfl rfl rfl inferInstance rfl) ?_; clear S a; intro a S)
                      first | (refine wpl_v S rfl rfl rfl (sv_loadO S rfl rfl (by rfl)) ?_; clear S a; intro a S) | (refine wpl_v S rfl rfl rfl (sv_loadF S rfl rfl (by assumption)) ?_; clear S a; intro a S)
                      (refine wpl_v S rfl rfl rfl (sv_pure S rfl) ?_; clear S a; intro a S)
                      (refine wpl_v S rfl rfl rfl (sv_pure S rfl) ?_; clear S a; intro a S)
                      (refine wpl_v S rfl rfl rfl (sv_pure S rfl) ?_; clear S a; intro a S)
                      (refine wpl_v S rfl rfl rfl (sv_maxI S rfl rfl rfl) ?_; clear S a; intro a S)
                      (refine wpl_v S rfl rfl rfl (sv_indexAddrSl S rfl rfl rfl (by first | omega | (simp only [List.length_append, List.length_cons, List.length_nil]; omega))) ?_; clear S a; intro a S)
                      (refine wpl_store1 S rfl rfl rfl rfl rfl rfl (by rw [List.length_append]; omega) ?_; clear S; intro w S; rw [ini_set _ (by omega)] at S)
                      refine wpList_nil ?_
                      (refine hKq21 _ _ ?_; try (clear hKq21 Kq21))
                      (refine wpc_mixM [0, 1, 2, 3, 4, 5, 6, 7, 8, 9, 10, 11, 12, 13, 14, 15, 16, 17, 18, 20] [3, 8, 11, 15, 18] [21] (.one 0 (.one 1 (.one 2 (.one 3 (.one 4 (.one 5 (.one 6 (.one 7 (.one 8 (.one 9 (.one 10 (.one 11 (.one 12 (.one 13 (.one 14 (.one 15 (.one 16 (.one 17 (.one 18 (.one 19 (.one 20 (.one 21 .nil)))))))))))))))))))))) [tb, bl] S mixed (by kernel_rfl) ?_; clear S; intro w S)
                      (refine wpm_v S rfl rfl rfl (want_none _ rfl) rfl rfl (fun w' S => sv_pure S rfl) ?_; clear S a; intro a S)
                      (refine wpm_v S rfl rfl rfl (want_none _ rfl) rfl rfl (fun w' S => sv_nilCheck S rfl rfl) ?_; clear S a; intro a S)
                      (refine wpm_v S rfl rfl rfl (want_none _ rfl) rfl rfl (fun w' S => sv_fieldAddr S rfl rfl rfl inferInstance rfl) ?_; clear S a; intro a S)
                      first | (refine wpm_lateO tb S rfl rfl rfl (want_none _ rfl) rfl rfl (fun w' S => sv_loadO S rfl rfl (by rfl)) ?_; clear S a; intro a S) | (refine wpm_lateO tb S rfl rfl rfl (want_none _ rfl) rfl rfl (fun w' S => sv_loadAO S rfl rfl (by rfl)) ?_; clear S a; intro a S)
                      (refine wpm_v S rfl rfl rfl (want_none _ rfl) rfl rfl (fun w' S => sv_pure S rfl) ?_; clear S a; intro a S)
                      (refine wpm_v S rfl rfl rfl (want_none _ rfl) rfl rfl (fun w' S => sv_pure S rfl) ?_; clear S a; intro a S)
                      (refine wpm_v S rfl rfl rfl (want_none _ rfl) rfl rfl (fun w' S => sv_nilCheck S rfl rfl) ?_; clear S a; intro a S)
                      (refine wpm_v S rfl rfl rfl (want_none _ rfl) rfl rfl (fun w' S => sv_fieldAddr S rfl rfl rfl inferInstance rfl) ?_; clear S a; intro a S)
                      first | (refine wpm_lateO tb S rfl rfl rfl (want_none _ rfl) rfl rfl (fun w' S => sv_loadO S rfl rfl (by rfl)) ?_; clear S a; intro a S) | (refine wpm_lateO tb S rfl rfl rfl (want_none _ rfl) rfl rfl (fun w' S => sv_loadAO S rfl rfl (by rfl)) ?_; clear S a; intro a S)
                      (refine wpm_v S rfl rfl rfl (want_none _ rfl) rfl rfl (fun w' S => sv_pure S rfl) ?_; clear S a; intro a S)
                      (refine wpm_v S rfl rfl rfl (want_none _ rfl) rfl rfl (fun w' S => sv_indexAddrSl S rfl rfl rfl (by first | omega | (simp only [List.length_append, List.length_cons, List.length_nil]; omega))) ?_; clear S a; intro a S)
                      (refine wpm_lateO bl S rfl rfl rfl (want_none _ rfl) rfl rfl (fun w' S => sv_loadO S rfl rfl (ins hlx)) ?_; clear S a; intro a S)
                      (refine wpm_v S rfl rfl rfl (want_none _ rfl) rfl rfl (fun w' S => sv_pure S rfl) ?_; clear S a; intro a S)
                      (refine wpm_v S rfl rfl rfl (want_none _ rfl) rfl rfl (fun w' S => sv_nilCheck S rfl rfl) ?_; clear S a; intro a S)
                      (refine wpm_v S rfl rfl rfl (want_none _ rfl) rfl rfl (fun w' S => sv_fieldAddr S rfl rfl rfl inferInstance rfl) ?_; clear S a; intro a S)
                      first | (refine wpm_lateO tb S rfl rfl rfl (want_none _ rfl) rfl rfl (fun w' S => sv_loadO S rfl rfl (by rfl)) ?_; clear S a; intro a S) | (refine wpm_lateO tb S rfl rfl rfl (want_none _ rfl) rfl rfl (fun w' S => sv_loadAO S rfl rfl (by rfl)) ?_; clear S a; intro a S)
                      (refine wpm_v S rfl rfl rfl (want_none _ rfl) rfl rfl (fun w' S => sv_pure S rfl) ?_; clear S a; intro a S)
                      (refine wpm_v S rfl rfl rfl (want_none _ rfl) rfl rfl (fun w' S => sv_indexAddrSl S rfl rfl rfl (by first | omega | (simp only [List.length_append, List.length_cons, List.length_nil]; omega))) ?_; clear S a; intro a S)
                      (refine wpm_lateO bl S rfl rfl rfl (want_none _ rfl) rfl rfl (fun w' S => sv_loadO S rfl rfl (ins hly)) ?_; clear S a; intro a S)
                      refine wpm_eff rfl rfl (fun _ => ⟨fun b o h => S.tr.frz b o (by first | exact h | solve_by_elim), S.has inferInstance, S.has inferInstance, trivial⟩) ?_
                      (refine wpl_call0 S rfl rfl rfl rfl rfl rfl (lesserCt F _ _) rfl ?_; clear S a; intro v a w hv S; subst hv)
                      refine wpList_nil ?_
                      (refine wpm_v S rfl rfl rfl (want_none _ rfl) rfl rfl (fun w' S => sv_indexAddrSl S rfl rfl rfl (by first | omega | (simp only [List.length_append, List.length_cons, List.length_nil]; omega))) ?_; clear S a; intro a S)
                      refine wpm_eff rfl rfl (fun _ => ⟨fun b o h => S.tr.frz b o (by first | exact h | solve_by_elim), S.has inferInstance, S.has inferInstance, trivial⟩) ?_
                      (refine wpl_store1 S rfl rfl rfl rfl rfl rfl (by rw [List.length_append]; omega) ?_; clear S; intro w S; rw [ins_set _ (by omega)] at S)
                      refine wpList_nil ?_
                      refine wpm_nil (fun h => absurd h (by decide)) ?_
                      change ∃ m', _ ∧ _
                      (first | (have heq : A.rt pa = A.rt pb := (by omega); replace S := S.drop1; refine ⟨roots A n * 3001 + l'.length, by omega, l', _, _, A, { { T' with pa := pa1 } with pa := pa2 }, GG2, rfl, fun r A' h9 => hrun _ _ (.same heq h9), by omega, hcut, hTab2, hnd', hvs', (hA.find hpa1).find hpa2, hW, (fun p hp => hpr p (by simp [hp])), ?_⟩; (refine S.keep ?_; repeat (first | exact trivial | refine ⟨rfl, ?_⟩)); done) | (have hs9 : A.st (A.rt pa) < 0 ∨ A.st (A.rt pb) < 0 := (by omega); have hTab3 : TabM F tb mb ⟨T'.nd, T'.vs, pa2.set (A.rt pa) (A.rt pb), T'.st.set (A.rt pb) (max (A.st (A.rt pa)) (A.st (A.rt pb))), T'.le.set (A.rt pb) (lesserS (A.le (A.rt pa)) (A.le (A.rt pb)))⟩ n [[(tb, .cells ⟨[.slice (some ⟨bn, 0, none⟩) n cn, .map (some mb), .slice (some ⟨bp, 0, none⟩) n cp, .slice (some ⟨bs1, 0, none⟩) n cs, .slice (some ⟨bl, 0, none⟩) n cl, .int .i64 told]⟩ 47 (0, 0))], [(mb, mObj kS (mapV T'.vs))], [(bn, .cells ⟨xsn ++ exn⟩ 66 (0, 0))], [(bp, .cells ⟨intsN (pa2.set (A.rt pa) (A.rt pb)) ++ exp⟩ 3 (0, 0))], [(bs1, .cells ⟨intsI (T'.st.set (A.rt pb) (max (A.st (A.rt pa)) (A.st (A.rt pb)))) ++ exs⟩ 3 (0, 0))], [(bl, .cells ⟨strs (T'.le.set (A.rt pb) (lesserS (A.le (A.rt pa)) (A.le (A.rt pb)))) ++ exl⟩ 9 (0, 0))]] := ⟨_, _, _, _, told, _, _, _, _, rfl, ⟨⟨xsn, ownS_mkN hcn3 hcn1 hcn2 hcn4, hNd⟩, ownS_mkN (by rw [intsN_len, List.length_set]; omega) hcp1 hcp2 (by simp only [List.length_append, intsN_len, List.length_set] at hcp4 ⊢; exact hcp4), ownS_mkN (by rw [intsI_len, List.length_set]; omega) hcs1 hcs2 (by simp only [List.length_append, intsI_len, List.length_set] at hcs4 ⊢; exact hcs4), ownS_mkN (by rw [strs_len, List.length_set]; omega) hcl1 hcl2 (by simp only [List.length_append, strs_len, List.length_set] at hcl4 ⊢; exact hcl4)⟩⟩; have hrm := roots_merge hxn hWa.2 hWb.2 hne; have hA3 := hA2.merge hxn hyn hWa.2 hWb.2 hne; have hW3 := hW.merge (x := A.rt pa) (y := A.rt pb) (by omega) (by omega) hWb.2 hne; replace S := S.drop1; refine ⟨roots (A.merge (A.rt pa) (A.rt pb)) n * 3001 + l'.length, by omega, l', _, _, A.merge (A.rt pa) (A.rt pb), ⟨T'.nd, T'.vs, pa2.set (A.rt pa) (A.rt pb), T'.st.set (A.rt pb) (max (A.st (A.rt pa)) (A.st (A.rt pb))), T'.le.set (A.rt pb) (lesserS (A.le (A.rt pa)) (A.le (A.rt pb)))⟩, [[(tb, .cells ⟨[.slice (some ⟨bn, 0, none⟩) n cn, .map (some mb), .slice (some ⟨bp, 0, none⟩) n cp, .slice (some ⟨bs1, 0, none⟩) n cs, .slice (some ⟨bl, 0, none⟩) n cl, .int .i64 told]⟩ 47 (0, 0))], [(mb, mObj kS (mapV T'.vs))], [(bn, .cells ⟨xsn ++ exn⟩ 66 (0, 0))], [(bp, .cells ⟨intsN (pa2.set (A.rt pa) (A.rt pb)) ++ exp⟩ 3 (0, 0))], [(bs1, .cells ⟨intsI (T'.st.set (A.rt pb) (max (A.st (A.rt pa)) (A.st (A.rt pb)))) ++ exs⟩ 3 (0, 0))], [(bl, .cells ⟨strs (T'.le.set (A.rt pb) (lesserS (A.le (A.rt pa)) (A.le (A.rt pb)))) ++ exl⟩ 9 (0, 0))]], rfl, fun r A' h9 => hrun _ _ (.var hne hs9 h9), by omega, hcut, hTab3, hnd', hvs', hA3, hW3, (fun p hp => hpr p (by simp [hp])), ?_⟩; (refine S.keep ?_; repeat (first | exact trivial | refine ⟨rfl, ?_⟩)); done) | (have hig : i = ks1.length := (by omega); have hz : (ks1.zip ks2).length = ks1.length := (by rw [List.length_zip]; omega); have hown3 : OwnS 74 2 v (l' ++ ks1.zip ks2).length (pairsC (l' ++ ks1.zip ks2)) g := (by rw [hig, List.take_of_length_le (by omega)] at hown2; rw [List.length_append, hz]; exact hown2); rw [← hu, ← hq] at S; have hTab3 : TabM F tb mb ⟨T'.nd, T'.vs, pa2.set (A.rt pa) (A.rt pb), T'.st.set (A.rt pb) (max (A.st (A.rt pa)) (A.st (A.rt pb))), T'.le.set (A.rt pb) (lesserS (A.le (A.rt pa)) (A.le (A.rt pb)))⟩ n [[(tb, .cells ⟨[.slice (some ⟨bn, 0, none⟩) n cn, .map (some mb), .slice (some ⟨bp, 0, none⟩) n cp, .slice (some ⟨bs1, 0, none⟩) n cs, .slice (some ⟨bl, 0, none⟩) n cl, .int .i64 told]⟩ 47 (0, 0))], [(mb, mObj kS (mapV T'.vs))], [(bn, .cells ⟨xsn ++ exn⟩ 66 (0, 0))], [(bp, .cells ⟨intsN (pa2.set (A.rt pa) (A.rt pb)) ++ exp⟩ 3 (0, 0))], [(bs1, .cells ⟨intsI (T'.st.set (A.rt pb) (max (A.st (A.rt pa)) (A.st (A.rt pb)))) ++ exs⟩ 3 (0, 0))], [(bl, .cells ⟨strs (T'.le.set (A.rt pb) (lesserS (A.le (A.rt pa)) (A.le (A.rt pb)))) ++ exl⟩ 9 (0, 0))]] := ⟨_, _, _, _, told, _, _, _, _, rfl, ⟨⟨xsn, ownS_mkN hcn3 hcn1 hcn2 hcn4, hNd⟩, ownS_mkN (by rw [intsN_len, List.length_set]; omega) hcp1 hcp2 (by simp only [List.length_append, intsN_len, List.length_set] at hcp4 ⊢; exact hcp4), ownS_mkN (by rw [intsI_len, List.length_set]; omega) hcs1 hcs2 (by simp only [List.length_append, intsI_len, List.length_set] at hcs4 ⊢; exact hcs4), ownS_mkN (by rw [strs_len, List.length_set]; omega) hcl1 hcl2 (by simp only [List.length_append, strs_len, List.length_set] at hcl4 ⊢; exact hcl4)⟩⟩; have hrm := roots_merge hxn hWa.2 hWb.2 hne; have hA3 := hA2.merge hxn hyn hWa.2 hWb.2 hne; have hW3 := hW.merge (x := A.rt pa) (y := A.rt pb) (by omega) (by omega) hWb.2 hne; replace S := S.drop1.drop1.drop1; have hl9 : (l' ++ ks1.zip ks2).length = l'.length + ks1.length := (by rw [List.length_append, hz]); refine ⟨roots (A.merge (A.rt pa) (A.rt pb)) n * 3001 + (l' ++ ks1.zip ks2).length, by omega, l' ++ ks1.zip ks2, _, _, A.merge (A.rt pa) (A.rt pb), ⟨T'.nd, T'.vs, pa2.set (A.rt pa) (A.rt pb), T'.st.set (A.rt pb) (max (A.st (A.rt pa)) (A.st (A.rt pb))), T'.le.set (A.rt pb) (lesserS (A.le (A.rt pa)) (A.le (A.rt pb)))⟩, [[(tb, .cells ⟨[.slice (some ⟨bn, 0, none⟩) n cn, .map (some mb), .slice (some ⟨bp, 0, none⟩) n cp, .slice (some ⟨bs1, 0, none⟩) n cs, .slice (some ⟨bl, 0, none⟩) n cl, .int .i64 told]⟩ 47 (0, 0))], [(mb, mObj kS (mapV T'.vs))], [(bn, .cells ⟨xsn ++ exn⟩ 66 (0, 0))], [(bp, .cells ⟨intsN (pa2.set (A.rt pa) (A.rt pb)) ++ exp⟩ 3 (0, 0))], [(bs1, .cells ⟨intsI (T'.st.set (A.rt pb) (max (A.st (A.rt pa)) (A.st (A.rt pb)))) ++ exs⟩ 3 (0, 0))], [(bl, .cells ⟨strs (T'.le.set (A.rt pb) (lesserS (A.le (A.rt pa)) (A.le (A.rt pb)))) ++ exl⟩ 9 (0, 0))]], rfl, fun r A' h9 => hrun _ _ (.node hne (by omega) (by omega) (by rw [hu, Int.toNat_natCast]; exact hk1) (by rw [hq, Int.toNat_natCast, hnmm]; exact hk2) hkk h9), by omega, hown3, hTab3, hnd', hvs', hA3, hW3, (fun p hp => (by rcases List.mem_append.1 hp with hp | hp; exact hpr p (by simp [hp]); have h7 := List.of_mem_zip hp; have h8 := hch1.1 _ h7.1; have h9 := hch2.1 _ h7.2; exact ⟨by omega, by omega⟩)), ?_⟩; (refine S.keep ?_; repeat (first | exact trivial | refine ⟨rfl, ?_⟩)); done) | trace_state)
              · (intro h; clear S a; intro a S; (try simp only [decide_eq_true_eq, decide_eq_false_iff_not, beq_iff_eq, bne_iff_ne, bne_eq_false_iff_eq, beq_eq_false_iff_ne, ne_eq, Bool.not_eq_true', Bool.not_eq_false', Bool.not_eq_true, Bool.not_eq_false, Bool.not_true, Bool.not_false, Int.ofNat_lt, Int.ofNat_le, Nat.not_lt, Nat.not_le] at h))
                (refine wpl_skip S rfl rfl rfl rfl rfl ?_; clear S a; intro a S)
                (refine wpl_skip S rfl rfl rfl rfl rfl ?_; clear S a; intro a S)
                (refine wpl_skip S rfl rfl rfl rfl rfl ?_; clear S a; intro a S)
                (refine wpl_skip S rfl rfl rfl rfl rfl ?_; clear S a; intro a S)
                (refine wpl_skip S rfl rfl rfl rfl rfl ?_; clear S a; intro a S)
                (refine wpl_skip S rfl rfl rfl rfl rfl ?_; clear S a; intro a S)
                first | (refine wpl_v S rfl rfl rfl (sv_pure S rfl) ?_; clear S a; intro a S) | (refine wpl_v S rfl rfl rfl (sv_pickB S rfl rfl rfl rfl) ?_; clear S a; intro a S)
                refine wpList_nil ?_
                (refine hKq16 _ _ ?_; try (clear hKq16 Kq16))
                refine wpc_true S rfl ?_
                (refine wp_seq_k ?_; intro Kq17 hKq17)
                refine wp_region_lit ?_
                (refine wpl_v S rfl rfl rfl (sv_pure S rfl) ?_; clear S a; intro a S)
                refine wpList_nil ?_
                (refine hKq17 _ _ ?_; try (clear hKq17 Kq17))
                refine wp_ret ?_
                (replace S := S.drop1)
                
                refine fin_ret S (results1 Tryd.results27 (RV.tmp S rfl)) ?_
                (first | (have hl0 : l = [] := List.eq_nil_of_length_eq_zero (by omega); subst hl0; exact ⟨true, A, rfl, hrun _ _ .done, fun _ => ⟨T', hnd', hvs', hA, hW, hTab⟩⟩) | (exact ⟨false, A, rfl, hrun _ _ (.clash hne (by omega) (by omega) (by rw [hu, Int.toNat_natCast]; exact hk1) (by rw [hq, Int.toNat_natCast]; exact hk2) (by first | exact .inl (by assumption) | exact .inr (by omega))), fun h => by cases h⟩) | trace_state)
            · skip
              (refine wpl_alloc S rfl rfl rfl rfl ?_; clear S a; intro b14 a w S)
              refine wpList_nil ?_
              refine wpm_eff rfl rfl (fun _ => ⟨fun b o h => S.tr.frz b o (by first | exact h | solve_by_elim), S.has inferInstance, S.has inferInstance, trivial⟩) ?_
              (refine wpl_alloc S rfl rfl rfl rfl ?_; clear S a; intro b13 a w S)
              refine wpList_nil ?_
              refine wpm_eff rfl rfl (fun _ => ⟨fun b o h => S.tr.frz b o (by first | exact h | solve_by_elim), S.has inferInstance, S.has inferInstance, trivial⟩) ?_
              (refine wpl_storeO S rfl rfl rfl rfl rfl (by rfl) (by simp [Value.cells, Value.oneCell', splice]) (by rfl) ?_; clear S; intro w S)
              refine wpList_nil ?_
              refine wpm_eff rfl rfl (fun _ => ⟨fun b o h => S.tr.frz b o (by first | exact h | solve_by_elim), S.has inferInstance, S.has inferInstance, trivial⟩) ?_
              (refine wpl_storeO S rfl rfl rfl rfl rfl (by rfl) (by simp [Value.cells, Value.oneCell', splice]) (by rfl) ?_; clear S; intro w S)
              refine wpList_nil ?_
              refine wpm_nil (fun _ => ⟨fun b o h => S.tr.frz b o (by first | exact h | solve_by_elim), S.has inferInstance, S.has inferInstance, trivial⟩) ?_
              (refine hKq14 _ _ ?_; try (clear hKq14 Kq14))
              (refine wp_seq_k ?_; intro Kq15 hKq15)
              (refine wp_seq_k ?_; intro Kq16 hKq16)
              refine wp_region_lit ?_
              (refine wpl_v S rfl rfl rfl (sv_fieldAddr S rfl rfl rfl inferInstance rfl) ?_; clear S a; intro a S)
              first | (refine wpl_v S rfl rfl rfl (sv_loadO S rfl rfl (by rfl)) ?_; clear S a; intro a S) | (refine wpl_v S rfl rfl rfl (sv_loadF S rfl rfl (by assumption)) ?_; clear S a; intro a S)
              (refine wpl_v S rfl rfl rfl (sv_fieldAddr S rfl rfl rfl inferInstance rfl) ?_; clear S a; intro a S)
              first | (refine wpl_v S rfl rfl rfl (sv_loadO S rfl rfl (by rfl)) ?_; clear S a; intro a S) | (refine wpl_v S rfl rfl rfl (sv_loadF S rfl rfl (by assumption)) ?_; clear S a; intro a S)
              (refine wpl_v S rfl rfl rfl (sv_pure S rfl) ?_; clear S a; intro a S)
              (refine wpl_v S rfl rfl rfl (sv_pure S rfl) ?_; clear S a; intro a S)
              refine wpl_guard S rfl rfl rfl rfl rfl ?_ ?_
              · (intro h S'; clear S; have S := S'; clear S'; (try simp only [decide_eq_true_eq, decide_eq_false_iff_not, beq_iff_eq, bne_iff_ne, bne_eq_false_iff_eq, beq_eq_false_iff_ne, ne_eq, Bool.not_eq_true', Bool.not_eq_false', Bool.not_eq_true, Bool.not_eq_false, Bool.not_true, Bool.not_false, Int.ofNat_lt, Int.ofNat_le, Nat.not_lt, Nat.not_le] at h))
                (refine wpl_v S rfl rfl rfl (sv_fieldAddr S rfl rfl rfl inferInstance rfl) ?_; clear S a; intro a S)
                refine wpl_take S rfl rfl rfl ?_
                first | (refine wpl_v S rfl rfl rfl (sv_loadO S rfl rfl (by rfl)) ?_; clear S a; intro a S) | (refine wpl_v S rfl rfl rfl (sv_loadF S rfl rfl (by assumption)) ?_; clear S a; intro a S)
                refine wpl_take S rfl rfl rfl ?_
                (refine wpl_v S rfl rfl rfl (sv_lenSl S rfl rfl) ?_; clear S a; intro a S)
                refine wpl_take S rfl rfl rfl ?_
                (refine wpl_v S rfl rfl rfl (sv_fieldAddr S rfl rfl rfl inferInstance rfl) ?_; clear S a; intro a S)
                refine wpl_take S rfl rfl rfl ?_
                first | (refine wpl_v S rfl rfl rfl (sv_loadO S rfl rfl (by rfl)) ?_; clear S a; intro a S) | (refine wpl_v S rfl rfl rfl (sv_loadF S rfl rfl (by assumption)) ?_; clear S a; intro a S)
                refine wpl_take S rfl rfl rfl ?_
                (refine wpl_v S rfl rfl rfl (sv_lenSl S rfl rfl) ?_; clear S a; intro a S)
                refine wpl_take S rfl rfl rfl ?_
                (refine wpl_v S rfl rfl rfl (sv_pure S rfl) ?_; clear S a; intro a S)
                first | (refine wpl_v S rfl rfl rfl (sv_pure S rfl) ?_; clear S a; intro a S) | (refine wpl_v S rfl rfl rfl (sv_pickB S rfl rfl rfl rfl) ?_; clear S a; intro a S)
                refine wpList_nil ?_
                (refine hKq16 _ _ ?_; try (clear hKq16 Kq16))
                refine wpc_split S rfl (fun h => ?_) (fun h => ?_)
                · (skip; (try simp only [decide_eq_true_eq, decide_eq_false_iff_not, beq_iff_eq, bne_iff_ne, bne_eq_false_iff_eq, beq_eq_false_iff_ne, ne_eq, Bool.not_eq_true', Bool.not_eq_false', Bool.not_eq_true, Bool.not_eq_false, Bool.not_true, Bool.not_false, Int.ofNat_lt, Int.ofNat_le, Nat.not_lt, Nat.not_le] at h))
                  (refine wp_seq_k ?_; intro Kq17 hKq17)
                  refine wp_region_lit ?_
                  (refine wpl_v S rfl rfl rfl (sv_pure S rfl) ?_; clear S a; intro a S)
                  refine wpList_nil ?_
                  (refine hKq17 _ _ ?_; try (clear hKq17 Kq17))
                  refine wp_ret ?_
                  (replace S := S.drop1)
                  
                  refine fin_ret S (results1 Tryd.results27 (RV.tmp S rfl)) ?_
                  (first | (have hl0 : l = [] := List.eq_nil_of_length_eq_zero (by omega); subst hl0; exact ⟨true, A, rfl, hrun _ _ .done, fun _ => ⟨T', hnd', hvs', hA, hW, hTab⟩⟩) | (exact ⟨false, A, rfl, hrun _ _ (.clash hne (by omega) (by omega) (by rw [hu, Int.toNat_natCast]; exact hk1) (by rw [hq, Int.toNat_natCast]; exact hk2) (by first | exact .inl (by assumption) | exact .inr (by omega))), fun h => by cases h⟩) | trace_state)
                · (skip; (try simp only [decide_eq_true_eq, decide_eq_false_iff_not, beq_iff_eq, bne_iff_ne, bne_eq_false_iff_eq, beq_eq_false_iff_ne, ne_eq, Bool.not_eq_true', Bool.not_eq_false', Bool.not_eq_true, Bool.not_eq_false, Bool.not_true, Bool.not_false, Int.ofNat_lt, Int.ofNat_le, Nat.not_lt, Nat.not_le] at h))
                  refine wp_skip ?_
                  (refine hKq15 _ _ ?_; try (clear hKq15 Kq15))
                  (refine wp_seq_k ?_; intro Kq17 hKq17)
                  (have hnmm : nm1 = nm2 := (by assumption); have hkk : ks1.length = ks2.length := (by omega); obtain ⟨B8, hB8⟩ : ∃ o : Obj, o = .cells ⟨[.int .i64 (pa : Int), .int .i64 (pb : Int)]⟩ 74 (0, 0) := ⟨_, rfl⟩; replace S : St _ _ _ _ _ F [[(b14, _)], [(b13, _)], [(b8, B8)], _, [(tb, .cells ⟨[.slice (some ⟨bn, 0, none⟩) n cn, .map (some mb), .slice (some ⟨bp, 0, none⟩) n cp, .slice (some ⟨bs1, 0, none⟩) n cs, .slice (some ⟨bl, 0, none⟩) n cl, .int .i64 told]⟩ 47 (0, 0))], [(mb, mObj kS (mapV T'.vs))], [(bn, .cells ⟨xsn ++ exn⟩ 66 (0, 0))], [(bp, .cells ⟨intsN pa2 ++ exp⟩ 3 (0, 0))], [(bs1, .cells ⟨intsI T'.st ++ exs⟩ 3 (0, 0))], [(bl, .cells ⟨strs T'.le ++ exl⟩ 9 (0, 0))]] _ _ := (by rw [hB8]; first | exact S | exact St.permI S 10 rfl [1, 0, 2, 3, 4, 5, 6, 7, 8, 9] (by decide)))
                  refine wp_region_lit ?_
                  (refine wpl_v S rfl rfl rfl (sv_fieldAddr S rfl rfl rfl inferInstance rfl) ?_; clear S a; intro a S)
                  first | (refine wpl_v S rfl rfl rfl (sv_loadO S rfl rfl (by rfl)) ?_; clear S a; intro a S) | (refine wpl_v S rfl rfl rfl (sv_loadF S rfl rfl (by assumption)) ?_; clear S a; intro a S)
                  (refine wpl_v S rfl rfl rfl (sv_lenSl S rfl rfl) ?_; clear S a; intro a S)
                  (refine wpl_v S rfl rfl rfl (sv_pure S rfl) ?_; clear S a; intro a S)
                  refine wpList_nil ?_
                  (refine hKq17 _ _ ?_; try (clear hKq17 Kq17))
                  refine wp_block ?_
                  refine wpc_loop (fun m a w' => ∃ (i : Nat) (v : Value) (g : Grp), m = ks1.length - i ∧ i ≤ ks1.length ∧ OwnS 74 2 v (l'.length + i) (pairsC (l' ++ (ks1.zip ks2).take i)) g ∧ St 151 [(0, ptr tb), (7, v), (9, .int .i64 (A.rt pa)), (10, .int .i64 (A.rt pb)), (11, .int .i64 u), (12, .int .i64 q), (13, ptr b13), (14, ptr b14), (95, .int .i64 ks1.length), (96, .int .i64 i)] w0 F (keys G) F [[(b14, .cells ⟨[.string (bs nm2), .slice ao2 ks2.length cap2]⟩ 66 (0, 0))], [(b13, .cells ⟨[.string (bs nm1), .slice ao1 ks1.length cap1]⟩ 66 (0, 0))], [(b8, B8)], g, [(tb, .cells ⟨[.slice (some ⟨bn, 0, none⟩) n cn, .map (some mb), .slice (some ⟨bp, 0, none⟩) n cp, .slice (some ⟨bs1, 0, none⟩) n cs, .slice (some ⟨bl, 0, none⟩) n cl, .int .i64 told]⟩ 47 (0, 0))], [(mb, mObj kS (mapV T'.vs))], [(bn, .cells ⟨xsn ++ exn⟩ 66 (0, 0))], [(bp, .cells ⟨intsN pa2 ++ exp⟩ 3 (0, 0))], [(bs1, .cells ⟨intsI T'.st ++ exs⟩ 3 (0, 0))], [(bl, .cells ⟨strs T'.le ++ exl⟩ 9 (0, 0))]] a w') ?_ ?_
                  · (refine ⟨ks1.length, 0, _, _, rfl, Nat.zero_le _, (by rw [List.take_zero, List.append_nil]; exact hcut), ?_⟩; (refine S.keep ?_; repeat (first | exact trivial | refine ⟨rfl, ?_⟩)))
                  · (clear S; rintro m a w ⟨i, v, g, rfl, hil, hown2, S⟩)
                    (refine wp_seq_k ?_; intro Kq18 hKq18)
                    refine wp_region_lit ?_
                    (refine wpl_v S rfl rfl rfl (sv_pure S rfl) ?_; clear S a; intro a S)
                    refine wpList_nil ?_
                    (refine hKq18 _ _ ?_; try (clear hKq18 Kq18))
                    (refine wp_seq_k ?_; intro Kq19 hKq19)
                    refine wpc_split S rfl (fun h => ?_) (fun h => ?_)
                    · (skip; (try simp only [decide_eq_true_eq, decide_eq_false_iff_not, beq_iff_eq, bne_iff_ne, bne_eq_false_iff_eq, beq_eq_false_iff_ne, ne_eq, Bool.not_eq_true', Bool.not_eq_false', Bool.not_eq_true, Bool.not_eq_false, Bool.not_true, Bool.not_false, Int.ofNat_lt, Int.ofNat_le, Nat.not_lt, Nat.not_le] at h))
                      refine wp_skip ?_
                      (refine hKq19 _ _ ?_; try (clear hKq19 Kq19))
                      (refine wp_seq_k ?_; intro Kq20 hKq20)
                      refine wp_block ?_
                      (refine wp_seq_k ?_; intro Kq21 hKq21)
                      refine wp_region_lit ?_
                      (refine wpl_v S rfl rfl rfl (sv_pure S rfl) ?_; clear S a; intro a S)
                      (refine wpl_v S rfl rfl rfl (sv_pure S rfl) ?_; clear S a; intro a S)
                      refine wpList_nil ?_
                      (refine hKq21 _ _ ?_; try (clear hKq21 Kq21))
                      (obtain ⟨k1, hk1'⟩ : ∃ k, ks1[i]? = some k := ⟨_, List.getElem?_eq_getElem (by omega)⟩; obtain ⟨k2, hk2'⟩ : ∃ k, ks2[i]? = some k := ⟨_, List.getElem?_eq_getElem (by omega)⟩; obtain ⟨bk1, ok1, hao1, hck1⟩ := ks_cel hsl1 hk1'; obtain ⟨bk2, ok2, hao2, hck2⟩ := ks_cel hsl2 hk2'; rw [hao1, hao2] at S)
                      (refine wpc_mixM [0, 1, 2, 3, 4, 5, 6, 7, 8, 9, 10, 11] [2, 5, 7, 10] [] (.one 0 (.one 1 (.one 2 (.one 3 (.one 4 (.one 5 (.one 6 (.one 7 (.one 8 (.one 9 (.one 10 (.one 11 (.one 12 (.one 13 (.one 14 .nil))))))))))))))) [b13, b14] S mixed (by kernel_rfl) ?_; clear S; intro w S)
                      (refine wpm_v S rfl rfl rfl (want_none _ rfl) rfl rfl (fun w' S => sv_pure S rfl) ?_; clear S a; intro a S)
                      (refine wpm_v S rfl rfl rfl (want_none _ rfl) rfl rfl (fun w' S => sv_fieldAddr S rfl rfl rfl inferInstance rfl) ?_; clear S a; intro a S)
                      first | (refine wpm_lateO b13 S rfl rfl rfl (want_none _ rfl) rfl rfl (fun w' S => sv_loadO S rfl rfl (by rfl)) ?_; clear S a; intro a S) | (refine wpm_lateO b13 S rfl rfl rfl (want_none _ rfl) rfl rfl (fun w' S => sv_loadAO S rfl rfl (by rfl)) ?_; clear S a; intro a S)
                      (refine wpm_v S rfl rfl rfl (want_none _ rfl) rfl rfl (fun w' S => sv_pure S rfl) ?_; clear S a; intro a S)
                      (refine wpm_v S rfl rfl rfl (want_none _ rfl) rfl rfl (fun w' S => sv_indexAddrSl S rfl rfl rfl (by first | omega | (simp only [List.length_append, List.length_cons, List.length_nil]; omega))) ?_; clear S a; intro a S)
                      first | (refine wpm_lateF S rfl rfl rfl (want_none _ rfl) rfl rfl (fun w' S => sv_loadF S rfl rfl (by assumption)) ?_; clear S a; intro a S) | (refine wpm_lateF S rfl rfl rfl (want_none _ rfl) rfl rfl (fun w' S => sv_loadAF S rfl rfl (by assumption) (by rfl)) ?_; clear S a; intro a S)
                      (refine wpm_v S rfl rfl rfl (want_none _ rfl) rfl rfl (fun w' S => sv_fieldAddr S rfl rfl rfl inferInstance rfl) ?_; clear S a; intro a S)
                      first | (refine wpm_lateO b14 S rfl rfl rfl (want_none _ rfl) rfl rfl (fun w' S => sv_loadO S rfl rfl (by rfl)) ?_; clear S a; intro a S) | (refine wpm_lateO b14 S rfl rfl rfl (want_none _ rfl) rfl rfl (fun w' S => sv_loadAO S rfl rfl (by rfl)) ?_; clear S a; intro a S)
                      (refine wpm_v S rfl rfl rfl (want_none _ rfl) rfl rfl (fun w' S => sv_pure S rfl) ?_; clear S a; intro a S)
                      (refine wpm_v S rfl rfl rfl (want_none _ rfl) rfl rfl (fun w' S => sv_indexAddrSl S rfl rfl rfl (by first | omega | (simp only [List.length_append, List.length_cons, List.length_nil]; omega))) ?_; clear S a; intro a S)
                      first | (refine wpm_lateF S rfl rfl rfl (want_none _ rfl) rfl rfl (fun w' S => sv_loadF S rfl rfl (by assumption)) ?_; clear S a; intro a S) | (refine wpm_lateF S rfl rfl rfl (want_none _ rfl) rfl rfl (fun w' S => sv_loadAF S rfl rfl (by assumption) (by rfl)) ?_; clear S a; intro a S)
                      (refine wpm_v S rfl rfl rfl (want_none _ rfl) rfl rfl (fun w' S => sv_build S rfl rfl rfl) ?_; clear S a; intro a S)
                      refine wpm_eff rfl rfl (fun _ => ⟨fun b o h => S.tr.frz b o (by first | exact h | solve_by_elim), S.has inferInstance, S.has inferInstance, trivial⟩) ?_
                      (refine wpl_buildSlice S rfl rfl rfl rfl rfl rfl (by rfl) (by simp [Value.cells, splice, splice]) rfl (by rfl) (by rfl) ?_; clear S a; intro b111 a w h111 S)
                      refine wpList_nil ?_
                      refine wpm_eff rfl rfl (fun _ => ⟨fun b o h => S.tr.frz b o (by first | exact h | solve_by_elim), S.has inferInstance, S.has inferInstance, trivial⟩) ?_
                      (refine wpl_appendOwn S rfl rfl rfl rfl rfl rfl hown2 h111 (by rfl) (by simp [Value.cells, Value.oneCell', splice, splice]) (by omega) (by omega) ?_; clear hown2 S a; intro v g a w hown2 S)
                      refine wpList_nil ?_
                      refine wpm_eff rfl rfl (fun _ => ⟨fun b o h => S.tr.frz b o (by first | exact h | solve_by_elim), S.has inferInstance, S.has inferInstance, trivial⟩) ?_
                      (refine wpl_v S rfl rfl rfl (sv_pure S rfl) ?_; clear S a; intro a S)
                      refine wpList_nil ?_
                      refine wpm_nil (fun _ => ⟨fun b o h => S.tr.frz b o (by first | exact h | solve_by_elim), S.has inferInstance, S.has inferInstance, trivial⟩) ?_
                      (refine hKq20 _ _ ?_; try (clear hKq20 Kq20))
                      refine wp_region_lit ?_
                      (refine wpl_v S rfl rfl rfl (sv_add S rfl rfl rfl (by first | omega | (simp only [List.length_append, List.length_cons, List.length_nil]; omega))) ?_; clear S a; intro a S)
                      (refine wpl_v S rfl rfl rfl (sv_pure S rfl) ?_; clear S a; intro a S)
                      refine wpList_nil ?_
                      change ∃ m', _ ∧ _
                      (rw [← hao1, ← hao2] at S; refine ⟨ks1.length - (i + 1), by omega, i + 1, v, g, rfl, by omega, ?_, ?_⟩; rotate_left 1; (refine S.keep ?_; repeat (first | exact trivial | refine ⟨rfl, ?_⟩)); rw [take_zip hk1' hk2', ← List.append_assoc, pairsC_app]; exact hown2)
                    · (skip; (try simp only [decide_eq_true_eq, decide_eq_false_iff_not, beq_iff_eq, bne_iff_ne, bne_eq_false_iff_eq, beq_eq_false_iff_ne, ne_eq, Bool.not_eq_true', Bool.not_eq_false', Bool.not_eq_true, Bool.not_eq_false, Bool.not_true, Bool.not_false, Int.ofNat_lt, Int.ofNat_le, Nat.not_lt, Nat.not_le] at h))
                      refine wp_exit ?_
                      (refine hKq12 _ _ ?_; try (clear hKq12 Kq12))
                      (refine wp_seq_k ?_; intro Kq20 hKq20)
                      refine wp_region_lit ?_
                      (refine wpl_v S rfl rfl rfl (sv_pure S rfl) ?_; clear S a; intro a S)
                      (refine wpl_v S rfl rfl rfl (sv_nilCheck S rfl rfl) ?_; clear S a; intro a S)
                      (refine wpl_v S rfl rfl rfl (sv_fieldAddr S rfl rfl rfl inferInstance rfl) ?_; clear S a; intro a S)
                      first | (refine wpl_v S rfl rfl rfl (sv_loadO S rfl rfl (by rfl)) ?_; clear S a; intro a S) | (refine wpl_v S rfl rfl rfl (sv_loadF S rfl rfl (by assumption)) ?_; clear S a; intro a S)
                      (refine wpl_v S rfl rfl rfl (sv_pure S rfl) ?_; clear S a; intro a S)
                      (refine wpl_v S rfl rfl rfl (sv_pure S rfl) ?_; clear S a; intro a S)
                      (refine wpl_v S rfl rfl rfl (sv_indexAddrSl S rfl rfl rfl (by first | omega | (simp only [List.length_append, List.length_cons, List.length_nil]; omega))) ?_; clear S a; intro a S)
                      (refine wpl_store1 S rfl rfl rfl rfl rfl rfl (by rw [List.length_append]; omega) ?_; clear S; intro w S; rw [inn_set _ (by omega)] at S)
                      refine wpList_nil ?_
                      (refine hKq20 _ _ ?_; try (clear hKq20 Kq20))
                      (refine wp_seq_k ?_; intro Kq21 hKq21)
                      refine wp_region_lit ?_
                      (refine wpl_v S rfl rfl rfl (sv_pure S rfl) ?_; clear S a; intro a S)
                      (refine wpl_v S rfl rfl rfl (sv_nilCheck S rfl rfl) ?_; clear S a; intro a S)
                      (refine wpl_v S rfl rfl rfl (sv_fieldAddr S rfl rfl rfl inferInstance rfl) ?_; clear S a; intro a S)
                      first | (refine wpl_v S rfl rfl rfl (sv_loadO S rfl rfl (by rfl)) ?_; clear S a; intro a S) | (refine wpl_v S rfl rfl rfl (sv_loadF S rfl rfl (by assumption)) ?_; clear S a; intro a S)
                      (refine wpl_v S rfl rfl rfl (sv_pure S rfl) ?_; clear S a; intro a S)
                      (refine wpl_v S rfl rfl rfl (sv_pure S rfl) ?_; clear S a; intro a S)
                      (refine wpl_v S rfl rfl rfl (sv_pure S rfl) ?_; clear S a; intro a S)
                      (refine wpl_v S rfl rfl rfl (sv_maxI S rfl rfl rfl) ?_; clear S a; intro a S)
                      (refine wpl_v S rfl rfl rfl (sv_indexAddrSl S rfl rfl rfl (by first | omega | (simp only [List.length_append, List.length_cons, List.length_nil]; omega))) ?_; clear S a; intro a S)
                      (refine wpl_store1 S rfl rfl rfl rfl rfl rfl (by rw [List.length_append]; omega) ?_; clear S; intro w S; rw [ini_set _ (by omega)] at S)
                      refine wpList_nil ?_
                      (refine hKq21 _ _ ?_; try (clear hKq21 Kq21))
                      (refine wpc_mixM [0, 1, 2, 3, 4, 5, 6, 7, 8, 9, 10, 11, 12, 13, 14, 15, 16, 17, 18, 20] [3, 8, 11, 15, 18] [21] (.one 0 (.one 1 (.one 2 (.one 3 (.one 4 (.one 5 (.one 6 (.one 7 (.one 8 (.one 9 (.one 10 (.one 11 (.one 12 (.one 13 (.one 14 (.one 15 (.one 16 (.one 17 (.one 18 (.one 19 (.one 20 (.one 21 .nil)))))))))))))))))))))) [tb, bl] S mixed (by kernel_rfl) ?_; clear S; intro w S)
                      (refine wpm_v S rfl rfl rfl (want_none _ rfl) rfl rfl (fun w' S => sv_pure S rfl) ?_; clear S a; intro a S)
                      (refine wpm_v S rfl rfl rfl (want_none _ rfl) rfl rfl (fun w' S => sv_nilCheck S rfl rfl) ?_; clear S a; intro a S)
                      (refine wpm_v S rfl rfl rfl (want_none _ rfl) rfl rfl (fun w' S => sv_fieldAddr S rfl rfl rfl inferInstance rfl) ?_; clear S a; intro a S)
                      first | (refine wpm_lateO tb S rfl rfl rfl (want_none _ rfl) rfl rfl (fun w' S => sv_loadO S rfl rfl (by rfl)) ?_; clear S a; intro a S) | (refine wpm_lateO tb S rfl rfl rfl (want_none _ rfl) rfl rfl (fun w' S => sv_loadAO S rfl rfl (by rfl)) ?_; clear S a; intro a S)
                      (refine wpm_v S rfl rfl rfl (want_none _ rfl) rfl rfl (fun w' S => sv_pure S rfl) ?_; clear S a; intro a S)
                      (refine wpm_v S rfl rfl rfl (want_none _ rfl) rfl rfl (fun w' S => sv_pure S rfl) ?_; clear S a; intro a S)
                      (refine wpm_v S rfl rfl rfl (want_none _ rfl) rfl rfl (fun w' S => sv_nilCheck S rfl rfl) ?_; clear S a; intro a S)
                      (refine wpm_v S rfl rfl rfl (want_none _ rfl) rfl rfl (fun w' S => sv_fieldAddr S rfl rfl rfl inferInstance rfl) ?_; clear S a; intro a S)
                      first | (refine wpm_lateO tb S rfl rfl rfl (want_none _ rfl) rfl rfl (fun w' S => sv_loadO S rfl rfl (by rfl)) ?_; clear S a; intro a S) | (refine wpm_lateO tb S rfl rfl rfl (want_none _ rfl) rfl rfl (fun w' S => sv_loadAO S rfl rfl (by rfl)) ?_; clear S a; intro a S)
                      (refine wpm_v S rfl rfl rfl (want_none _ rfl) rfl rfl (fun w' S => sv_pure S rfl) ?_; clear S a; intro a S)
                      (refine wpm_v S rfl rfl rfl (want_none _ rfl) rfl rfl (fun w' S => sv_indexAddrSl S rfl rfl rfl (by first | omega | (simp only [List.length_append, List.length_cons, List.length_nil]; omega))) ?_; clear S a; intro a S)
                      (refine wpm_lateO bl S rfl rfl rfl (want_none _ rfl) rfl rfl (fun w' S => sv_loadO S rfl rfl (ins hlx)) ?_; clear S a; intro a S)
                      (refine wpm_v S rfl rfl rfl (want_none _ rfl) rfl rfl (fun w' S => sv_pure S rfl) ?_; clear S a; intro a S)
                      (refine wpm_v S rfl rfl rfl (want_none _ rfl) rfl rfl (fun w' S => sv_nilCheck S rfl rfl) ?_; clear S a; intro a S)
                      (refine wpm_v S rfl rfl rfl (want_none _ rfl) rfl rfl (fun w' S => sv_fieldAddr S rfl rfl rfl inferInstance rfl) ?_; clear S a; intro a S)
                      first | (refine wpm_lateO tb S rfl rfl rfl (want_none _ rfl) rfl rfl (fun w' S => sv_loadO S rfl rfl (by rfl)) ?_; clear S a; intro a S) | (refine wpm_lateO tb S rfl rfl rfl (want_none _ rfl) rfl rfl (fun w' S => sv_loadAO S rfl rfl (by rfl)) ?_; clear S a; intro a S)
                      (refine wpm_v S rfl rfl rfl (want_none _ rfl) rfl rfl (fun w' S => sv_pure S rfl) ?_; clear S a; intro a S)
                      (refine wpm_v S rfl rfl rfl (want_none _ rfl) rfl rfl (fun w' S => sv_indexAddrSl S rfl rfl rfl (by first | omega | (simp only [List.length_append, List.length_cons, List.length_nil]; omega))) ?_; clear S a; intro a S)
                      (refine wpm_lateO bl S rfl rfl rfl (want_none _ rfl) rfl rfl (fun w' S => sv_loadO S rfl rfl (ins hly)) ?_; clear S a; intro a S)
                      refine wpm_eff rfl rfl (fun _ => ⟨fun b o h => S.tr.frz b o (by first | exact h | solve_by_elim), S.has inferInstance, S.has inferInstance, trivial⟩) ?_
                      (refine wpl_call0 S rfl rfl rfl rfl rfl rfl (lesserCt F _ _) rfl ?_; clear S a; intro v a w hv S; subst hv)
                      refine wpList_nil ?_
                      (refine wpm_v S rfl rfl rfl (want_none _ rfl) rfl rfl (fun w' S => sv_indexAddrSl S rfl rfl rfl (by first | omega | (simp only [List.length_append, List.length_cons, List.length_nil]; omega))) ?_; clear S a; intro a S)
                      refine wpm_eff rfl rfl (fun _ => ⟨fun b o h => S.tr.frz b o (by first | exact h | solve_by_elim), S.has inferInstance, S.has inferInstance, trivial⟩) ?_
                      (refine wpl_store1 S rfl rfl rfl rfl rfl rfl (by rw [List.length_append]; omega) ?_; clear S; intro w S; rw [ins_set _ (by omega)] at S)
                      refine wpList_nil ?_
                      refine wpm_nil (fun h => absurd h (by decide)) ?_
                      change ∃ m', _ ∧ _
                      (first | (have heq : A.rt pa = A.rt pb := (by omega); replace S := S.drop1; refine ⟨roots A n * 3001 + l'.length, by omega, l', _, _, A, { { T' with pa := pa1 } with pa := pa2 }, GG2, rfl, fun r A' h9 => hrun _ _ (.same heq h9), by omega, hcut, hTab2, hnd', hvs', (hA.find hpa1).find hpa2, hW, (fun p hp => hpr p (by simp [hp])), ?_⟩; (refine S.keep ?_; repeat (first | exact trivial | refine ⟨rfl, ?_⟩)); done) | (have hs9 : A.st (A.rt pa) < 0 ∨ A.st (A.rt pb) < 0 := (by omega); have hTab3 : TabM F tb mb ⟨T'.nd, T'.vs, pa2.set (A.rt pa) (A.rt pb), T'.st.set (A.rt pb) (max (A.st (A.rt pa)) (A.st (A.rt pb))), T'.le.set (A.rt pb) (lesserS (A.le (A.rt pa)) (A.le (A.rt pb)))⟩ n [[(tb, .cells ⟨[.slice (some ⟨bn, 0, none⟩) n cn, .map (some mb), .slice (some ⟨bp, 0, none⟩) n cp, .slice (some ⟨bs1, 0, none⟩) n cs, .slice (some ⟨bl, 0, none⟩) n cl, .int .i64 told]⟩ 47 (0, 0))], [(mb, mObj kS (mapV T'.vs))], [(bn, .cells ⟨xsn ++ exn⟩ 66 (0, 0))], [(bp, .cells ⟨intsN (pa2.set (A.rt pa) (A.rt pb)) ++ exp⟩ 3 (0, 0))], [(bs1, .cells ⟨intsI (T'.st.set (A.rt pb) (max (A.st (A.rt pa)) (A.st (A.rt pb)))) ++ exs⟩ 3 (0, 0))], [(bl, .cells ⟨strs (T'.le.set (A.rt pb) (lesserS (A.le (A.rt pa)) (A.le (A.rt pb)))) ++ exl⟩ 9 (0, 0))]] := ⟨_, _, _, _, told, _, _, _, _, rfl, ⟨⟨xsn, ownS_mkN hcn3 hcn1 hcn2 hcn4, hNd⟩, ownS_mkN (by rw [intsN_len, List.length_set]; omega) hcp1 hcp2 (by simp only [List.length_append, intsN_len, List.length_set] at hcp4 ⊢; exact hcp4), ownS_mkN (by rw [intsI_len, List.length_set]; omega) hcs1 hcs2 (by simp only [List.length_append, intsI_len, List.length_set] at hcs4 ⊢; exact hcs4), ownS_mkN (by rw [strs_len, List.length_set]; omega) hcl1 hcl2 (by simp only [List.length_append, strs_len, List.length_set] at hcl4 ⊢; exact hcl4)⟩⟩; have hrm := roots_merge hxn hWa.2 hWb.2 hne; have hA3 := hA2.merge hxn hyn hWa.2 hWb.2 hne; have hW3 := hW.merge (x := A.rt pa) (y := A.rt pb) (by omega) (by omega) hWb.2 hne; replace S := S.drop1; refine ⟨roots (A.merge (A.rt pa) (A.rt pb)) n * 3001 + l'.length, by omega, l', _, _, A.merge (A.rt pa) (A.rt pb), ⟨T'.nd, T'.vs, pa2.set (A.rt pa) (A.rt pb), T'.st.set (A.rt pb) (max (A.st (A.rt pa)) (A.st (A.rt pb))), T'.le.set (A.rt pb) (lesserS (A.le (A.rt pa)) (A.le (A.rt pb)))⟩, [[(tb, .cells ⟨[.slice (some ⟨bn, 0, none⟩) n cn, .map (some mb), .slice (some ⟨bp, 0, none⟩) n cp, .slice (some ⟨bs1, 0, none⟩) n cs, .slice (some ⟨bl, 0, none⟩) n cl, .int .i64 told]⟩ 47 (0, 0))], [(mb, mObj kS (mapV T'.vs))], [(bn, .cells ⟨xsn ++ exn⟩ 66 (0, 0))], [(bp, .cells ⟨intsN (pa2.set (A.rt pa) (A.rt pb)) ++ exp⟩ 3 (0, 0))], [(bs1, .cells ⟨intsI (T'.st.set (A.rt pb) (max (A.st (A.rt pa)) (A.st (A.rt pb)))) ++ exs⟩ 3 (0, 0))], [(bl, .cells ⟨strs (T'.le.set (A.rt pb) (lesserS (A.le (A.rt pa)) (A.le (A.rt pb)))) ++ exl⟩ 9 (0, 0))]], rfl, fun r A' h9 => hrun _ _ (.var hne hs9 h9), by omega, hcut, hTab3, hnd', hvs', hA3, hW3, (fun p hp => hpr p (by simp [hp])), ?_⟩; (refine S.keep ?_; repeat (first | exact trivial | refine ⟨rfl, ?_⟩)); done) | (have hig : i = ks1.length := (by omega); have hz : (ks1.zip ks2).length = ks1.length := (by rw [List.length_zip]; omega); have hown3 : OwnS 74 2 v (l' ++ ks1.zip ks2).length (pairsC (l' ++ ks1.zip ks2)) g := (by rw [hig, List.take_of_length_le (by omega)] at hown2; rw [List.length_append, hz]; exact hown2); rw [← hu, ← hq] at S; have hTab3 : TabM F tb mb ⟨T'.nd, T'.vs, pa2.set (A.rt pa) (A.rt pb), T'.st.set (A.rt pb) (max (A.st (A.rt pa)) (A.st (A.rt pb))), T'.le.set (A.rt pb) (lesserS (A.le (A.rt pa)) (A.le (A.rt pb)))⟩ n [[(tb, .cells ⟨[.slice (some ⟨bn, 0, none⟩) n cn, .map (some mb), .slice (some ⟨bp, 0, none⟩) n cp, .slice (some ⟨bs1, 0, none⟩) n cs, .slice (some ⟨bl, 0, none⟩) n cl, .int .i64 told]⟩ 47 (0, 0))], [(mb, mObj kS (mapV T'.vs))], [(bn, .cells ⟨xsn ++ exn⟩ 66 (0, 0))], [(bp, .cells ⟨intsN (pa2.set (A.rt pa) (A.rt pb)) ++ exp⟩ 3 (0, 0))], [(bs1, .cells ⟨intsI (T'.st.set (A.rt pb) (max (A.st (A.rt pa)) (A.st (A.rt pb)))) ++ exs⟩ 3 (0, 0))], [(bl, .cells ⟨strs (T'.le.set (A.rt pb) (lesserS (A.le (A.rt pa)) (A.le (A.rt pb)))) ++ exl⟩ 9 (0, 0))]] := ⟨_, _, _, _, told, _, _, _, _, rfl, ⟨⟨xsn, ownS_mkN hcn3 hcn1 hcn2 hcn4, hNd⟩, ownS_mkN (by rw [intsN_len, List.length_set]; omega) hcp1 hcp2 (by simp only [List.length_append, intsN_len, List.length_set] at hcp4 ⊢; exact hcp4), ownS_mkN (by rw [intsI_len, List.length_set]; omega) hcs1 hcs2 (by simp only [List.length_append, intsI_len, List.length_set] at hcs4 ⊢; exact hcs4), ownS_mkN (by rw [strs_len, List.length_set]; omega) hcl1 hcl2 (by simp only [List.length_append, strs_len, List.length_set] at hcl4 ⊢; exact hcl4)⟩⟩; have hrm := roots_merge hxn hWa.2 hWb.2 hne; have hA3 := hA2.merge hxn hyn hWa.2 hWb.2 hne; have hW3 := hW.merge (x := A.rt pa) (y := A.rt pb) (by omega) (by omega) hWb.2 hne; replace S := S.drop1.drop1.drop1; have hl9 : (l' ++ ks1.zip ks2).length = l'.length + ks1.length := (by rw [List.length_append, hz]); refine ⟨roots (A.merge (A.rt pa) (A.rt pb)) n * 3001 + (l' ++ ks1.zip ks2).length, by omega, l' ++ ks1.zip ks2, _, _, A.merge (A.rt pa) (A.rt pb), ⟨T'.nd, T'.vs, pa2.set (A.rt pa) (A.rt pb), T'.st.set (A.rt pb) (max (A.st (A.rt pa)) (A.st (A.rt pb))), T'.le.set (A.rt pb) (lesserS (A.le (A.rt pa)) (A.le (A.rt pb)))⟩, [[(tb, .cells ⟨[.slice (some ⟨bn, 0, none⟩) n cn, .map (some mb), .slice (some ⟨bp, 0, none⟩) n cp, .slice (some ⟨bs1, 0, none⟩) n cs, .slice (some ⟨bl, 0, none⟩) n cl, .int .i64 told]⟩ 47 (0, 0))], [(mb, mObj kS (mapV T'.vs))], [(bn, .cells ⟨xsn ++ exn⟩ 66 (0, 0))], [(bp, .cells ⟨intsN (pa2.set (A.rt pa) (A.rt pb)) ++ exp⟩ 3 (0, 0))], [(bs1, .cells ⟨intsI (T'.st.set (A.rt pb) (max (A.st (A.rt pa)) (A.st (A.rt pb)))) ++ exs⟩ 3 (0, 0))], [(bl, .cells ⟨strs (T'.le.set (A.rt pb) (lesserS (A.le (A.rt pa)) (A.le (A.rt pb)))) ++ exl⟩ 9 (0, 0))]], rfl, fun r A' h9 => hrun _ _ (.node hne (by omega) (by omega) (by rw [hu, Int.toNat_natCast]; exact hk1) (by rw [hq, Int.toNat_natCast, hnmm]; exact hk2) hkk h9), by omega, hown3, hTab3, hnd', hvs', hA3, hW3, (fun p hp => (by rcases List.mem_append.1 hp with hp | hp; exact hpr p (by simp [hp]); have h7 := List.of_mem_zip hp; have h8 := hch1.1 _ h7.1; have h9 := hch2.1 _ h7.2; exact ⟨by omega, by omega⟩)), ?_⟩; (refine S.keep ?_; repeat (first | exact trivial | refine ⟨rfl, ?_⟩)); done) | trace_state)
              · (intro h; clear S a; intro a S; (try simp only [decide_eq_true_eq, decide_eq_false_iff_not, beq_iff_eq, bne_iff_ne, bne_eq_false_iff_eq, beq_eq_false_iff_ne, ne_eq, Bool.not_eq_true', Bool.not_eq_false', Bool.not_eq_true, Bool.not_eq_false, Bool.not_true, Bool.not_false, Int.ofNat_lt, Int.ofNat_le, Nat.not_lt, Nat.not_le] at h))
                (refine wpl_skip S rfl rfl rfl rfl rfl ?_; clear S a; intro a S)
                (refine wpl_skip S rfl rfl rfl rfl rfl ?_; clear S a; intro a S)
                (refine wpl_skip S rfl rfl rfl rfl rfl ?_; clear S a; intro a S)
                (refine wpl_skip S rfl rfl rfl rfl rfl ?_; clear S a; intro a S)
                (refine wpl_skip S rfl rfl rfl rfl rfl ?_; clear S a; intro a S)
                (refine wpl_skip S rfl rfl rfl rfl rfl ?_; clear S a; intro a S)
                first | (refine wpl_v S rfl rfl rfl (sv_pure S rfl) ?_; clear S a; intro a S) | (refine wpl_v S rfl rfl rfl (sv_pickB S rfl rfl rfl rfl) ?_; clear S a; intro a S)
                refine wpList_nil ?_
                (refine hKq16 _ _ ?_; try (clear hKq16 Kq16))
                refine wpc_true S rfl ?_
                (refine wp_seq_k ?_; intro Kq17 hKq17)
                refine wp_region_lit ?_
                (refine wpl_v S rfl rfl rfl (sv_pure S rfl) ?_; clear S a; intro a S)
                refine wpList_nil ?_
                (refine hKq17 _ _ ?_; try (clear hKq17 Kq17))
                refine wp_ret ?_
                (replace S := S.drop1)
                
                refine fin_ret S (results1 Tryd.results27 (RV.tmp S rfl)) ?_
                (first | (have hl0 : l = [] := List.eq_nil_of_length_eq_zero (by omega); subst hl0; exact ⟨true, A, rfl, hrun _ _ .done, fun _ => ⟨T', hnd', hvs', hA, hW, hTab⟩⟩) | (exact ⟨false, A, rfl, hrun _ _ (.clash hne (by omega) (by omega) (by rw [hu, Int.toNat_natCast]; exact hk1) (by rw [hq, Int.toNat_natCast]; exact hk2) (by first | exact .inl (by assumption) | exact .inr (by omega))), fun h => by cases h⟩) | trace_state)
          · (skip; (try simp only [decide_eq_true_eq, decide_eq_false_iff_not, beq_iff_eq, bne_iff_ne, bne_eq_false_iff_eq, beq_eq_false_iff_ne, ne_eq, Bool.not_eq_true', Bool.not_eq_false', Bool.not_eq_true, Bool.not_eq_false, Bool.not_true, Bool.not_false, Int.ofNat_lt, Int.ofNat_le, Nat.not_lt, Nat.not_le] at h))
            refine wp_skip ?_
            (refine hKq12 _ _ ?_; try (clear hKq12 Kq12))
            (refine wp_seq_k ?_; intro Kq14 hKq14)
            refine wp_region_lit ?_
            (refine wpl_v S rfl rfl rfl (sv_pure S rfl) ?_; clear S a; intro a S)
            (refine wpl_v S rfl rfl rfl (sv_nilCheck S rfl rfl) ?_; clear S a; intro a S)
            (refine wpl_v S rfl rfl rfl (sv_fieldAddr S rfl rfl rfl inferInstance rfl) ?_; clear S a; intro a S)
            first | (refine wpl_v S rfl rfl rfl (sv_loadO S rfl rfl (by rfl)) ?_; clear S a; intro a S) | (refine wpl_v S rfl rfl rfl (sv_loadF S rfl rfl (by assumption)) ?_; clear S a; intro a S)
            (refine wpl_v S rfl rfl rfl (sv_pure S rfl) ?_; clear S a; intro a S)
            (refine wpl_v S rfl rfl rfl (sv_pure S rfl) ?_; clear S a; intro a S)
            (refine wpl_v S rfl rfl rfl (sv_indexAddrSl S rfl rfl rfl (by first | omega | (simp only [List.length_append, List.length_cons, List.length_nil]; omega))) ?_; clear S a; intro a S)
            (refine wpl_store1 S rfl rfl rfl rfl rfl rfl (by rw [List.length_append]; omega) ?_; clear S; intro w S; rw [inn_set _ (by omega)] at S)
            refine wpList_nil ?_
            (refine hKq14 _ _ ?_; try (clear hKq14 Kq14))
            (refine wp_seq_k ?_; intro Kq15 hKq15)
            refine wp_region_lit ?_
            (refine wpl_v S rfl rfl rfl (sv_pure S rfl) ?_; clear S a; intro a S)
            (refine wpl_v S rfl rfl rfl (sv_nilCheck S rfl rfl) ?_; clear S a; intro a S)
            (refine wpl_v S rfl rfl rfl (sv_fieldAddr S rfl rfl rfl inferInstance rfl) ?_; clear S a; intro a S)
            first | (refine wpl_v S rfl rfl rfl (sv_loadO S rfl rfl (by rfl)) ?_; clear S a; intro a S) | (refine wpl_v S rfl rfl rfl (sv_loadF S rfl rfl (by assumption)) ?_; clear S a; intro a S)
            (refine wpl_v S rfl rfl rfl (sv_pure S rfl) ?_; clear S a; intro a S)
            (refine wpl_v S rfl rfl rfl (sv_pure S rfl) ?_; clear S a; intro a S)
            (refine wpl_v S rfl rfl rfl (sv_pure S rfl) ?_; clear S a; intro a S)
            (refine wpl_v S rfl rfl rfl (sv_maxI S rfl rfl rfl) ?_; clear S a; intro a S)
            (refine wpl_v S rfl rfl rfl (sv_indexAddrSl S rfl rfl rfl (by first | omega | (simp only [List.length_append, List.length_cons, List.length_nil]; omega))) ?_; clear S a; intro a S)
            (refine wpl_store1 S rfl rfl rfl rfl rfl rfl (by rw [List.length_append]; omega) ?_; clear S; intro w S; rw [ini_set _ (by omega)] at S)
            refine wpList_nil ?_
            (refine hKq15 _ _ ?_; try (clear hKq15 Kq15))
            (refine wpc_mixM [0, 1, 2, 3, 4, 5, 6, 7, 8, 9, 10, 11, 12, 13, 14, 15, 16, 17, 18, 20] [3, 8, 11, 15, 18] [21] (.one 0 (.one 1 (.one 2 (.one 3 (.one 4 (.one 5 (.one 6 (.one 7 (.one 8 (.one 9 (.one 10 (.one 11 (.one 12 (.one 13 (.one 14 (.one 15 (.one 16 (.one 17 (.one 18 (.one 19 (.one 20 (.one 21 .nil)))))))))))))))))))))) [tb, bl] S mixed (by kernel_rfl) ?_; clear S; intro w S)
            (refine wpm_v S rfl rfl rfl (want_none _ rfl) rfl rfl (fun w' S => sv_pure S rfl) ?_; clear S a; intro a S)
            (refine wpm_v S rfl rfl rfl (want_none _ rfl) rfl rfl (fun w' S => sv_nilCheck S rfl rfl) ?_; clear S a; intro a S)
            (refine wpm_v S rfl rfl rfl (want_none _ rfl) rfl rfl (fun w' S => sv_fieldAddr S rfl rfl rfl inferInstance rfl) ?_; clear S a; intro a S)
            first | (refine wpm_lateO tb S rfl rfl rfl (want_none _ rfl) rfl rfl (fun w' S => sv_loadO S rfl rfl (by rfl)) ?_; clear S a; intro a S) | (refine wpm_lateO tb S rfl rfl rfl (want_none _ rfl) rfl rfl (fun w' S => sv_loadAO S rfl rfl (by rfl)) ?_; clear S a; intro a S)
            (refine wpm_v S rfl rfl rfl (want_none _ rfl) rfl rfl (fun w' S => sv_pure S rfl) ?_; clear S a; intro a S)
            (refine wpm_v S rfl rfl rfl (want_none _ rfl) rfl rfl (fun w' S => sv_pure S rfl) ?_; clear S a; intro a S)
            (refine wpm_v S rfl rfl rfl (want_none _ rfl) rfl rfl (fun w' S => sv_nilCheck S rfl rfl) ?_; clear S a; intro a S)
            (refine wpm_v S rfl rfl rfl (want_none _ rfl) rfl rfl (fun w' S => sv_fieldAddr S rfl rfl rfl inferInstance rfl) ?_; clear S a; intro a S)
            first | (refine wpm_lateO tb S rfl rfl rfl (want_none _ rfl) rfl rfl (fun w' S => sv_loadO S rfl rfl (by rfl)) ?_; clear S a; intro a S) | (refine wpm_lateO tb S rfl rfl rfl (want_none _ rfl) rfl rfl (fun w' S => sv_loadAO S rfl rfl (by rfl)) ?_; clear S a; intro a S)
            (refine wpm_v S rfl rfl rfl (want_none _ rfl) rfl rfl (fun w' S => sv_pure S rfl) ?_; clear S a; intro a S)
            (refine wpm_v S rfl rfl rfl (want_none _ rfl) rfl rfl (fun w' S => sv_indexAddrSl S rfl rfl rfl (by first | omega | (simp only [List.length_append, List.length_cons, List.length_nil]; omega))) ?_; clear S a; intro a S)
            (refine wpm_lateO bl S rfl rfl rfl (want_none _ rfl) rfl rfl (fun w' S => sv_loadO S rfl rfl (ins hlx)) ?_; clear S a; intro a S)
            (refine wpm_v S rfl rfl rfl (want_none _ rfl) rfl rfl (fun w' S => sv_pure S rfl) ?_; clear S a; intro a S)
            (refine wpm_v S rfl rfl rfl (want_none _ rfl) rfl rfl (fun w' S => sv_nilCheck S rfl rfl) ?_; clear S a; intro a S)
            (refine wpm_v S rfl rfl rfl (want_none _ rfl) rfl rfl (fun w' S => sv_fieldAddr S rfl rfl rfl inferInstance rfl) ?_; clear S a; intro a S)
            first | (refine wpm_lateO tb S rfl rfl rfl (want_none _ rfl) rfl rfl (fun w' S => sv_loadO S rfl rfl (by rfl)) ?_; clear S a; intro a S) | (refine wpm_lateO tb S rfl rfl rfl (want_none _ rfl) rfl rfl (fun w' S => sv_loadAO S rfl rfl (by rfl)) ?_; clear S a; intro a S)
            (refine wpm_v S rfl rfl rfl (want_none _ rfl) rfl rfl (fun w' S => sv_pure S rfl) ?_; clear S a; intro a S)
            (refine wpm_v S rfl rfl rfl (want_none _ rfl) rfl rfl (fun w' S => sv_indexAddrSl S rfl rfl rfl (by first | omega | (simp only [List.length_append, List.length_cons, List.length_nil]; omega))) ?_; clear S a; intro a S)
            (refine wpm_lateO bl S rfl rfl rfl (want_none _ rfl) rfl rfl (fun w' S => sv_loadO S rfl rfl (ins hly)) ?_; clear S a; intro a S)
            refine wpm_eff rfl rfl (fun _ => ⟨fun b o h => S.tr.frz b o (by first | exact h | solve_by_elim), S.has inferInstance, S.has inferInstance, trivial⟩) ?_
            (refine wpl_call0 S rfl rfl rfl rfl rfl rfl (lesserCt F _ _) rfl ?_; clear S a; intro v a w hv S; subst hv)
            refine wpList_nil ?_
            (refine wpm_v S rfl rfl rfl (want_none _ rfl) rfl rfl (fun w' S => sv_indexAddrSl S rfl rfl rfl (by first | omega | (simp only [List.length_append, List.length_cons, List.length_nil]; omega))) ?_; clear S a; intro a S)
            refine wpm_eff rfl rfl (fun _ => ⟨fun b o h => S.tr.frz b o (by first | exact h | solve_by_elim), S.has inferInstance, S.has inferInstance, trivial⟩) ?_
            (refine wpl_store1 S rfl rfl rfl rfl rfl rfl (by rw [List.length_append]; omega) ?_; clear S; intro w S; rw [ins_set _ (by omega)] at S)
            refine wpList_nil ?_
            refine wpm_nil (fun h => absurd h (by decide)) ?_
            change ∃ m', _ ∧ _
            (first | (have heq : A.rt pa = A.rt pb := (by omega); replace S := S.drop1; refine ⟨roots A n * 3001 + l'.length, by omega, l', _, _, A, { { T' with pa := pa1 } with pa := pa2 }, GG2, rfl, fun r A' h9 => hrun _ _ (.same heq h9), by omega, hcut, hTab2, hnd', hvs', (hA.find hpa1).find hpa2, hW, (fun p hp => hpr p (by simp [hp])), ?_⟩; (refine S.keep ?_; repeat (first | exact trivial | refine ⟨rfl, ?_⟩)); done) | (have hs9 : A.st (A.rt pa) < 0 ∨ A.st (A.rt pb) < 0 := (by omega); have hTab3 : TabM F tb mb ⟨T'.nd, T'.vs, pa2.set (A.rt pa) (A.rt pb), T'.st.set (A.rt pb) (max (A.st (A.rt pa)) (A.st (A.rt pb))), T'.le.set (A.rt pb) (lesserS (A.le (A.rt pa)) (A.le (A.rt pb)))⟩ n [[(tb, .cells ⟨[.slice (some ⟨bn, 0, none⟩) n cn, .map (some mb), .slice (some ⟨bp, 0, none⟩) n cp, .slice (some ⟨bs1, 0, none⟩) n cs, .slice (some ⟨bl, 0, none⟩) n cl, .int .i64 told]⟩ 47 (0, 0))], [(mb, mObj kS (mapV T'.vs))], [(bn, .cells ⟨xsn ++ exn⟩ 66 (0, 0))], [(bp, .cells ⟨intsN (pa2.set (A.rt pa) (A.rt pb)) ++ exp⟩ 3 (0, 0))], [(bs1, .cells ⟨intsI (T'.st.set (A.rt pb) (max (A.st (A.rt pa)) (A.st (A.rt pb)))) ++ exs⟩ 3 (0, 0))], [(bl, .cells ⟨strs (T'.le.set (A.rt pb) (lesserS (A.le (A.rt pa)) (A.le (A.rt pb)))) ++ exl⟩ 9 (0, 0))]] := ⟨_, _, _, _, told, _, _, _, _, rfl, ⟨⟨xsn, ownS_mkN hcn3 hcn1 hcn2 hcn4, hNd⟩, ownS_mkN (by rw [intsN_len, List.length_set]; omega) hcp1 hcp2 (by simp only [List.length_append, intsN_len, List.length_set] at hcp4 ⊢; exact hcp4), ownS_mkN (by rw [intsI_len, List.length_set]; omega) hcs1 hcs2 (by simp only [List.length_append, intsI_len, List.length_set] at hcs4 ⊢; exact hcs4), ownS_mkN (by rw [strs_len, List.length_set]; omega) hcl1 hcl2 (by simp only [List.length_append, strs_len, List.length_set] at hcl4 ⊢; exact hcl4)⟩⟩; have hrm := roots_merge hxn hWa.2 hWb.2 hne; have hA3 := hA2.merge hxn hyn hWa.2 hWb.2 hne; have hW3 := hW.merge (x := A.rt pa) (y := A.rt pb) (by omega) (by omega) hWb.2 hne; replace S := S.drop1; refine ⟨roots (A.merge (A.rt pa) (A.rt pb)) n * 3001 + l'.length, by omega, l', _, _, A.merge (A.rt pa) (A.rt pb), ⟨T'.nd, T'.vs, pa2.set (A.rt pa) (A.rt pb), T'.st.set (A.rt pb) (max (A.st (A.rt pa)) (A.st (A.rt pb))), T'.le.set (A.rt pb) (lesserS (A.le (A.rt pa)) (A.le (A.rt pb)))⟩, [[(tb, .cells ⟨[.slice (some ⟨bn, 0, none⟩) n cn, .map (some mb), .slice (some ⟨bp, 0, none⟩) n cp, .slice (some ⟨bs1, 0, none⟩) n cs, .slice (some ⟨bl, 0, none⟩) n cl, .int .i64 told]⟩ 47 (0, 0))], [(mb, mObj kS (mapV T'.vs))], [(bn, .cells ⟨xsn ++ exn⟩ 66 (0, 0))], [(bp, .cells ⟨intsN (pa2.set (A.rt pa) (A.rt pb)) ++ exp⟩ 3 (0, 0))], [(bs1, .cells ⟨intsI (T'.st.set (A.rt pb) (max (A.st (A.rt pa)) (A.st (A.rt pb)))) ++ exs⟩ 3 (0, 0))], [(bl, .cells ⟨strs (T'.le.set (A.rt pb) (lesserS (A.le (A.rt pa)) (A.le (A.rt pb)))) ++ exl⟩ 9 (0, 0))]], rfl, fun r A' h9 => hrun _ _ (.var hne hs9 h9), by omega, hcut, hTab3, hnd', hvs', hA3, hW3, (fun p hp => hpr p (by simp [hp])), ?_⟩; (refine S.keep ?_; repeat (first | exact trivial | refine ⟨rfl, ?_⟩)); done) | (have hig : i = ks1.length := (by omega); have hz : (ks1.zip ks2).length = ks1.length := (by rw [List.length_zip]; omega); have hown3 : OwnS 74 2 v (l' ++ ks1.zip ks2).length (pairsC (l' ++ ks1.zip ks2)) g := (by rw [hig, List.take_of_length_le (by omega)] at hown2; rw [List.length_append, hz]; exact hown2); rw [← hu, ← hq] at S; have hTab3 : TabM F tb mb ⟨T'.nd, T'.vs, pa2.set (A.rt pa) (A.rt pb), T'.st.set (A.rt pb) (max (A.st (A.rt pa)) (A.st (A.rt pb))), T'.le.set (A.rt pb) (lesserS (A.le (A.rt pa)) (A.le (A.rt pb)))⟩ n [[(tb, .cells ⟨[.slice (some ⟨bn, 0, none⟩) n cn, .map (some mb), .slice (some ⟨bp, 0, none⟩) n cp, .slice (some ⟨bs1, 0, none⟩) n cs, .slice (some ⟨bl, 0, none⟩) n cl, .int .i64 told]⟩ 47 (0, 0))], [(mb, mObj kS (mapV T'.vs))], [(bn, .cells ⟨xsn ++ exn⟩ 66 (0, 0))], [(bp, .cells ⟨intsN (pa2.set (A.rt pa) (A.rt pb)) ++ exp⟩ 3 (0, 0))], [(bs1, .cells ⟨intsI (T'.st.set (A.rt pb) (max (A.st (A.rt pa)) (A.st (A.rt pb)))) ++ exs⟩ 3 (0, 0))], [(bl, .cells ⟨strs (T'.le.set (A.rt pb) (lesserS (A.le (A.rt pa)) (A.le (A.rt pb)))) ++ exl⟩ 9 (0, 0))]] := ⟨_, _, _, _, told, _, _, _, _, rfl, ⟨⟨xsn, ownS_mkN hcn3 hcn1 hcn2 hcn4, hNd⟩, ownS_mkN (by rw [intsN_len, List.length_set]; omega) hcp1 hcp2 (by simp only [List.length_append, intsN_len, List.length_set] at hcp4 ⊢; exact hcp4), ownS_mkN (by rw [intsI_len, List.length_set]; omega) hcs1 hcs2 (by simp only [List.length_append, intsI_len, List.length_set] at hcs4 ⊢; exact hcs4), ownS_mkN (by rw [strs_len, List.length_set]; omega) hcl1 hcl2 (by simp only [List.length_append, strs_len, List.length_set] at hcl4 ⊢; exact hcl4)⟩⟩; have hrm := roots_merge hxn hWa.2 hWb.2 hne; have hA3 := hA2.merge hxn hyn hWa.2 hWb.2 hne; have hW3 := hW.merge (x := A.rt pa) (y := A.rt pb) (by omega) (by omega) hWb.2 hne; replace S := S.drop1.drop1.drop1; have hl9 : (l' ++ ks1.zip ks2).length = l'.length + ks1.length := (by rw [List.length_append, hz]); refine ⟨roots (A.merge (A.rt pa) (A.rt pb)) n * 3001 + (l' ++ ks1.zip ks2).length, by omega, l' ++ ks1.zip ks2, _, _, A.merge (A.rt pa) (A.rt pb), ⟨T'.nd, T'.vs, pa2.set (A.rt pa) (A.rt pb), T'.st.set (A.rt pb) (max (A.st (A.rt pa)) (A.st (A.rt pb))), T'.le.set (A.rt pb) (lesserS (A.le (A.rt pa)) (A.le (A.rt pb)))⟩, [[(tb, .cells ⟨[.slice (some ⟨bn, 0, none⟩) n cn, .map (some mb), .slice (some ⟨bp, 0, none⟩) n cp, .slice (some ⟨bs1, 0, none⟩) n cs, .slice (some ⟨bl, 0, none⟩) n cl, .int .i64 told]⟩ 47 (0, 0))], [(mb, mObj kS (mapV T'.vs))], [(bn, .cells ⟨xsn ++ exn⟩ 66 (0, 0))], [(bp, .cells ⟨intsN (pa2.set (A.rt pa) (A.rt pb)) ++ exp⟩ 3 (0, 0))], [(bs1, .cells ⟨intsI (T'.st.set (A.rt pb) (max (A.st (A.rt pa)) (A.st (A.rt pb)))) ++ exs⟩ 3 (0, 0))], [(bl, .cells ⟨strs (T'.le.set (A.rt pb) (lesserS (A.le (A.rt pa)) (A.le (A.rt pb)))) ++ exl⟩ 9 (0, 0))]], rfl, fun r A' h9 => hrun _ _ (.node hne (by omega) (by omega) (by rw [hu, Int.toNat_natCast]; exact hk1) (by rw [hq, Int.toNat_natCast, hnmm]; exact hk2) hkk h9), by omega, hown3, hTab3, hnd', hvs', hA3, hW3, (fun p hp => (by rcases List.mem_append.1 hp with hp | hp; exact hpr p (by simp [hp]); have h7 := List.of_mem_zip hp; have h8 := hch1.1 _ h7.1; have h9 := hch2.1 _ h7.2; exact ⟨by omega, by omega⟩)), ?_⟩; (refine S.keep ?_; repeat (first | exact trivial | refine ⟨rfl, ?_⟩)); done) | trace_state)
        · (intro h; clear S a; intro a S; (try simp only [decide_eq_true_eq, decide_eq_false_iff_not, beq_iff_eq, bne_iff_ne, bne_eq_false_iff_eq, beq_eq_false_iff_ne, ne_eq, Bool.not_eq_true', Bool.not_eq_false', Bool.not_eq_true, Bool.not_eq_false, Bool.not_true, Bool.not_false, Int.ofNat_lt, Int.ofNat_le, Nat.not_lt, Nat.not_le] at h))
          (refine wpl_skip S rfl rfl rfl rfl rfl ?_; clear S a; intro a S)
          first | (refine wpl_v S rfl rfl rfl (sv_pure S rfl) ?_; clear S a; intro a S) | (refine wpl_v S rfl rfl rfl (sv_pickB S rfl rfl rfl rfl) ?_; clear S a; intro a S)
          refine wpList_nil ?_
          (refine hKq13 _ _ ?_; try (clear hKq13 Kq13))
          refine wpc_false S rfl ?_
          refine wp_skip ?_
          (refine hKq12 _ _ ?_; try (clear hKq12 Kq12))
          (refine wp_seq_k ?_; intro Kq14 hKq14)
          refine wp_region_lit ?_
          (refine wpl_v S rfl rfl rfl (sv_pure S rfl) ?_; clear S a; intro a S)
          (refine wpl_v S rfl rfl rfl (sv_nilCheck S rfl rfl) ?_; clear S a; intro a S)
          (refine wpl_v S rfl rfl rfl (sv_fieldAddr S rfl rfl rfl inferInstance rfl) ?_; clear S a; intro a S)
          first | (refine wpl_v S rfl rfl rfl (sv_loadO S rfl rfl (by rfl)) ?_; clear S a; intro a S) | (refine wpl_v S rfl rfl rfl (sv_loadF S rfl rfl (by assumption)) ?_; clear S a; intro a S)
          (refine wpl_v S rfl rfl rfl (sv_pure S rfl) ?_; clear S a; intro a S)
          (refine wpl_v S rfl rfl rfl (sv_pure S rfl) ?_; clear S a; intro a S)
          (refine wpl_v S rfl rfl rfl (sv_indexAddrSl S rfl rfl rfl (by first | omega | (simp only [List.length_append, List.length_cons, List.length_nil]; omega))) ?_; clear S a; intro a S)
          (refine wpl_store1 S rfl rfl rfl rfl rfl rfl (by rw [List.length_append]; omega) ?_; clear S; intro w S; rw [inn_set _ (by omega)] at S)
          refine wpList_nil ?_
          (refine hKq14 _ _ ?_; try (clear hKq14 Kq14))
          (refine wp_seq_k ?_; intro Kq15 hKq15)
          refine wp_region_lit ?_
          (refine wpl_v S rfl rfl rfl (sv_pure S rfl) ?_; clear S a; intro a S)
          (refine wpl_v S rfl rfl rfl (sv_nilCheck S rfl rfl) ?_; clear S a; intro a S)
          (refine wpl_v S rfl rfl rfl (sv_fieldAddr S rfl rfl rfl inferInstance rfl) ?_; clear S a; intro a S)
          first | (refine wpl_v S rfl rfl rfl (sv_loadO S rfl rfl (by rfl)) ?_; clear S a; intro a S) | (refine wpl_v S rfl rfl rfl (sv_loadF S rfl rfl (by assumption)) ?_; clear S a; intro a S)
          (refine wpl_v S rfl rfl rfl (sv_pure S rfl) ?_; clear S a; intro a S)
          (refine wpl_v S rfl rfl rfl (sv_pure S rfl) ?_; clear S a; intro a S)
          (refine wpl_v S rfl rfl rfl (sv_pure S rfl) ?_; clear S a; intro a S)
          (refine wpl_v S rfl rfl rfl (sv_maxI S rfl rfl rfl) ?_; clear S a; intro a S)
          (refine wpl_v S rfl rfl rfl (sv_indexAddrSl S rfl rfl rfl (by first | omega | (simp only [List.length_append, List.length_cons, List.length_nil]; omega))) ?_; clear S a; intro a S)
          (refine wpl_store1 S rfl rfl rfl rfl rfl rfl (by rw [List.length_append]; omega) ?_; clear S; intro w S; rw [ini_set _ (by omega)] at S)
          refine wpList_nil ?_
          (refine hKq15 _ _ ?_; try (clear hKq15 Kq15))
          (refine wpc_mixM [0, 1, 2, 3, 4, 5, 6, 7, 8, 9, 10, 11, 12, 13, 14, 15, 16, 17, 18, 20] [3, 8, 11, 15, 18] [21] (.one 0 (.one 1 (.one 2 (.one 3 (.one 4 (.one 5 (.one 6 (.one 7 (.one 8 (.one 9 (.one 10 (.one 11 (.one 12 (.one 13 (.one 14 (.one 15 (.one 16 (.one 17 (.one 18 (.one 19 (.one 20 (.one 21 .nil)))))))))))))))))))))) [tb, bl] S mixed (by kernel_rfl) ?_; clear S; intro w S)
          (refine wpm_v S rfl rfl rfl (want_none _ rfl) rfl rfl (fun w' S => sv_pure S rfl) ?_; clear S a; intro a S)
          (refine wpm_v S rfl rfl rfl (want_none _ rfl) rfl rfl (fun w' S => sv_nilCheck S rfl rfl) ?_; clear S a; intro a S)
          (refine wpm_v S rfl rfl rfl (want_none _ rfl) rfl rfl (fun w' S => sv_fieldAddr S rfl rfl rfl inferInstance rfl) ?_; clear S a; intro a S)
          first | (refine wpm_lateO tb S rfl rfl rfl (want_none _ rfl) rfl rfl (fun w' S => sv_loadO S rfl rfl (by rfl)) ?_; clear S a; intro a S) | (refine wpm_lateO tb S rfl rfl rfl (want_none _ rfl) rfl rfl (fun w' S => sv_loadAO S rfl rfl (by rfl)) ?_; clear S a; intro a S)
          (refine wpm_v S rfl rfl rfl (want_none _ rfl) rfl rfl (fun w' S => sv_pure S rfl) ?_; clear S a; intro a S)
          (refine wpm_v S rfl rfl rfl (want_none _ rfl) rfl rfl (fun w' S => sv_pure S rfl) ?_; clear S a; intro a S)
          (refine wpm_v S rfl rfl rfl (want_none _ rfl) rfl rfl (fun w' S => sv_nilCheck S rfl rfl) ?_; clear S a; intro a S)
          (refine wpm_v S rfl rfl rfl (want_none _ rfl) rfl rfl (fun w' S => sv_fieldAddr S rfl rfl rfl inferInstance rfl) ?_; clear S a; intro a S)
          first | (refine wpm_lateO tb S rfl rfl rfl (want_none _ rfl) rfl rfl (fun w' S => sv_loadO S rfl rfl (by rfl)) ?_; clear S a; intro a S) | (refine wpm_lateO tb S rfl rfl rfl (want_none _ rfl) rfl rfl (fun w' S => sv_loadAO S rfl rfl (by rfl)) ?_; clear S a; intro a S)
          (refine wpm_v S rfl rfl rfl (want_none _ rfl) rfl rfl (fun w' S => sv_pure S rfl) ?_; clear S a; intro a S)
          (refine wpm_v S rfl rfl rfl (want_none _ rfl) rfl rfl (fun w' S => sv_indexAddrSl S rfl rfl rfl (by first | omega | (simp only [List.length_append, List.length_cons, List.length_nil]; omega))) ?_; clear S a; intro a S)
          (refine wpm_lateO bl S rfl rfl rfl (want_none _ rfl) rfl rfl (fun w' S => sv_loadO S rfl rfl (ins hlx)) ?_; clear S a; intro a S)
          (refine wpm_v S rfl rfl rfl (want_none _ rfl) rfl rfl (fun w' S => sv_pure S rfl) ?_; clear S a; intro a S)
          (refine wpm_v S rfl rfl rfl (want_none _ rfl) rfl rfl (fun w' S => sv_nilCheck S rfl rfl) ?_; clear S a; intro a S)
          (refine wpm_v S rfl rfl rfl (want_none _ rfl) rfl rfl (fun w' S => sv_fieldAddr S rfl rfl rfl inferInstance rfl) ?_; clear S a; intro a S)
          first | (refine wpm_lateO tb S rfl rfl rfl (want_none _ rfl) rfl rfl (fun w' S => sv_loadO S rfl rfl (by rfl)) ?_; clear S a; intro a S) | (refine wpm_lateO tb S rfl rfl rfl (want_none _ rfl) rfl rfl (fun w' S => sv_loadAO S rfl rfl (by rfl)) ?_; clear S a; intro a S)
          (refine wpm_v S rfl rfl rfl (want_none _ rfl) rfl rfl (fun w' S => sv_pure S rfl) ?_; clear S a; intro a S)
          (refine wpm_v S rfl rfl rfl (want_none _ rfl) rfl rfl (fun w' S => sv_indexAddrSl S rfl rfl rfl (by first | omega | (simp only [List.length_append, List.length_cons, List.length_nil]; omega))) ?_; clear S a; intro a S)
          (refine wpm_lateO bl S rfl rfl rfl (want_none _ rfl) rfl rfl (fun w' S => sv_loadO S rfl rfl (ins hly)) ?_; clear S a; intro a S)
          refine wpm_eff rfl rfl (fun _ => ⟨fun b o h => S.tr.frz b o (by first | exact h | solve_by_elim), S.has inferInstance, S.has inferInstance, trivial⟩) ?_
          (refine wpl_call0 S rfl rfl rfl rfl rfl rfl (lesserCt F _ _) rfl ?_; clear S a; intro v a w hv S; subst hv)
          refine wpList_nil ?_
          (refine wpm_v S rfl rfl rfl (want_none _ rfl) rfl rfl (fun w' S => sv_indexAddrSl S rfl rfl rfl (by first | omega | (simp only [List.length_append, List.length_cons, List.length_nil]; omega))) ?_; clear S a; intro a S)
          refine wpm_eff rfl rfl (fun _ => ⟨fun b o h => S.tr.frz b o (by first | exact h | solve_by_elim), S.has inferInstance, S.has inferInstance, trivial⟩) ?_
          (refine wpl_store1 S rfl rfl rfl rfl rfl rfl (by rw [List.length_append]; omega) ?_; clear S; intro w S; rw [ins_set _ (by omega)] at S)
          refine wpList_nil ?_
          refine wpm_nil (fun h => absurd h (by decide)) ?_
          change ∃ m', _ ∧ _
          (first | (have heq : A.rt pa = A.rt pb := (by omega); replace S := S.drop1; refine ⟨roots A n * 3001 + l'.length, by omega, l', _, _, A, { { T' with pa := pa1 } with pa := pa2 }, GG2, rfl, fun r A' h9 => hrun _ _ (.same heq h9), by omega, hcut, hTab2, hnd', hvs', (hA.find hpa1).find hpa2, hW, (fun p hp => hpr p (by simp [hp])), ?_⟩; (refine S.keep ?_; repeat (first | exact trivial | refine ⟨rfl, ?_⟩)); done) | (have hs9 : A.st (A.rt pa) < 0 ∨ A.st (A.rt pb) < 0 := (by omega); have hTab3 : TabM F tb mb ⟨T'.nd, T'.vs, pa2.set (A.rt pa) (A.rt pb), T'.st.set (A.rt pb) (max (A.st (A.rt pa)) (A.st (A.rt pb))), T'.le.set (A.rt pb) (lesserS (A.le (A.rt pa)) (A.le (A.rt pb)))⟩ n [[(tb, .cells ⟨[.slice (some ⟨bn, 0, none⟩) n cn, .map (some mb), .slice (some ⟨bp, 0, none⟩) n cp, .slice (some ⟨bs1, 0, none⟩) n cs, .slice (some ⟨bl, 0, none⟩) n cl, .int .i64 told]⟩ 47 (0, 0))], [(mb, mObj kS (mapV T'.vs))], [(bn, .cells ⟨xsn ++ exn⟩ 66 (0, 0))], [(bp, .cells ⟨intsN (pa2.set (A.rt pa) (A.rt pb)) ++ exp⟩ 3 (0, 0))], [(bs1, .cells ⟨intsI (T'.st.set (A.rt pb) (max (A.st (A.rt pa)) (A.st (A.rt pb)))) ++ exs⟩ 3 (0, 0))], [(bl, .cells ⟨strs (T'.le.set (A.rt pb) (lesserS (A.le (A.rt pa)) (A.le (A.rt pb)))) ++ exl⟩ 9 (0, 0))]] := ⟨_, _, _, _, told, _, _, _, _, rfl, ⟨⟨xsn, ownS_mkN hcn3 hcn1 hcn2 hcn4, hNd⟩, ownS_mkN (by rw [intsN_len, List.length_set]; omega) hcp1 hcp2 (by simp only [List.length_append, intsN_len, List.length_set] at hcp4 ⊢; exact hcp4), ownS_mkN (by rw [intsI_len, List.length_set]; omega) hcs1 hcs2 (by simp only [List.length_append, intsI_len, List.length_set] at hcs4 ⊢; exact hcs4), ownS_mkN (by rw [strs_len, List.length_set]; omega) hcl1 hcl2 (by simp only [List.length_append, strs_len, List.length_set] at hcl4 ⊢; exact hcl4)⟩⟩; have hrm := roots_merge hxn hWa.2 hWb.2 hne; have hA3 := hA2.merge hxn hyn hWa.2 hWb.2 hne; have hW3 := hW.merge (x := A.rt pa) (y := A.rt pb) (by omega) (by omega) hWb.2 hne; replace S := S.drop1; refine ⟨roots (A.merge (A.rt pa) (A.rt pb)) n * 3001 + l'.length, by omega, l', _, _, A.merge (A.rt pa) (A.rt pb), ⟨T'.nd, T'.vs, pa2.set (A.rt pa) (A.rt pb), T'.st.set (A.rt pb) (max (A.st (A.rt pa)) (A.st (A.rt pb))), T'.le.set (A.rt pb) (lesserS (A.le (A.rt pa)) (A.le (A.rt pb)))⟩, [[(tb, .cells ⟨[.slice (some ⟨bn, 0, none⟩) n cn, .map (some mb), .slice (some ⟨bp, 0, none⟩) n cp, .slice (some ⟨bs1, 0, none⟩) n cs, .slice (some ⟨bl, 0, none⟩) n cl, .int .i64 told]⟩ 47 (0, 0))], [(mb, mObj kS (mapV T'.vs))], [(bn, .cells ⟨xsn ++ exn⟩ 66 (0, 0))], [(bp, .cells ⟨intsN (pa2.set (A.rt pa) (A.rt pb)) ++ exp⟩ 3 (0, 0))], [(bs1, .cells ⟨intsI (T'.st.set (A.rt pb) (max (A.st (A.rt pa)) (A.st (A.rt pb)))) ++ exs⟩ 3 (0, 0))], [(bl, .cells ⟨strs (T'.le.set (A.rt pb) (lesserS (A.le (A.rt pa)) (A.le (A.rt pb)))) ++ exl⟩ 9 (0, 0))]], rfl, fun r A' h9 => hrun _ _ (.var hne hs9 h9), by omega, hcut, hTab3, hnd', hvs', hA3, hW3, (fun p hp => hpr p (by simp [hp])), ?_⟩; (refine S.keep ?_; repeat (first | exact trivial | refine ⟨rfl, ?_⟩)); done) | (have hig : i = ks1.length := (by omega); have hz : (ks1.zip ks2).length = ks1.length := (by rw [List.length_zip]; omega); have hown3 : OwnS 74 2 v (l' ++ ks1.zip ks2).length (pairsC (l' ++ ks1.zip ks2)) g := (by rw [hig, List.take_of_length_le (by omega)] at hown2; rw [List.length_append, hz]; exact hown2); rw [← hu, ← hq] at S; have hTab3 : TabM F tb mb ⟨T'.nd, T'.vs, pa2.set (A.rt pa) (A.rt pb), T'.st.set (A.rt pb) (max (A.st (A.rt pa)) (A.st (A.rt pb))), T'.le.set (A.rt pb) (lesserS (A.le (A.rt pa)) (A.le (A.rt pb)))⟩ n [[(tb, .cells ⟨[.slice (some ⟨bn, 0, none⟩) n cn, .map (some mb), .slice (some ⟨bp, 0, none⟩) n cp, .slice (some ⟨bs1, 0, none⟩) n cs, .slice (some ⟨bl, 0, none⟩) n cl, .int .i64 told]⟩ 47 (0, 0))], [(mb, mObj kS (mapV T'.vs))], [(bn, .cells ⟨xsn ++ exn⟩ 66 (0, 0))], [(bp, .cells ⟨intsN (pa2.set (A.rt pa) (A.rt pb)) ++ exp⟩ 3 (0, 0))], [(bs1, .cells ⟨intsI (T'.st.set (A.rt pb) (max (A.st (A.rt pa)) (A.st (A.rt pb)))) ++ exs⟩ 3 (0, 0))], [(bl, .cells ⟨strs (T'.le.set (A.rt pb) (lesserS (A.le (A.rt pa)) (A.le (A.rt pb)))) ++ exl⟩ 9 (0, 0))]] := ⟨_, _, _, _, told, _, _, _, _, rfl, ⟨⟨xsn, ownS_mkN hcn3 hcn1 hcn2 hcn4, hNd⟩, ownS_mkN (by rw [intsN_len, List.length_set]; omega) hcp1 hcp2 (by simp only [List.length_append, intsN_len, List.length_set] at hcp4 ⊢; exact hcp4), ownS_mkN (by rw [intsI_len, List.length_set]; omega) hcs1 hcs2 (by simp only [List.length_append, intsI_len, List.length_set] at hcs4 ⊢; exact hcs4), ownS_mkN (by rw [strs_len, List.length_set]; omega) hcl1 hcl2 (by simp only [List.length_append, strs_len, List.length_set] at hcl4 ⊢; exact hcl4)⟩⟩; have hrm := roots_merge hxn hWa.2 hWb.2 hne; have hA3 := hA2.merge hxn hyn hWa.2 hWb.2 hne; have hW3 := hW.merge (x := A.rt pa) (y := A.rt pb) (by omega) (by omega) hWb.2 hne; replace S := S.drop1.drop1.drop1; have hl9 : (l' ++ ks1.zip ks2).length = l'.length + ks1.length := (by rw [List.length_append, hz]); refine ⟨roots (A.merge (A.rt pa) (A.rt pb)) n * 3001 + (l' ++ ks1.zip ks2).length, by omega, l' ++ ks1.zip ks2, _, _, A.merge (A.rt pa) (A.rt pb), ⟨T'.nd, T'.vs, pa2.set (A.rt pa) (A.rt pb), T'.st.set (A.rt pb) (max (A.st (A.rt pa)) (A.st (A.rt pb))), T'.le.set (A.rt pb) (lesserS (A.le (A.rt pa)) (A.le (A.rt pb)))⟩, [[(tb, .cells ⟨[.slice (some ⟨bn, 0, none⟩) n cn, .map (some mb), .slice (some ⟨bp, 0, none⟩) n cp, .slice (some ⟨bs1, 0, none⟩) n cs, .slice (some ⟨bl, 0, none⟩) n cl, .int .i64 told]⟩ 47 (0, 0))], [(mb, mObj kS (mapV T'.vs))], [(bn, .cells ⟨xsn ++ exn⟩ 66 (0, 0))], [(bp, .cells ⟨intsN (pa2.set (A.rt pa) (A.rt pb)) ++ exp⟩ 3 (0, 0))], [(bs1, .cells ⟨intsI (T'.st.set (A.rt pb) (max (A.st (A.rt pa)) (A.st (A.rt pb)))) ++ exs⟩ 3 (0, 0))], [(bl, .cells ⟨strs (T'.le.set (A.rt pb) (lesserS (A.le (A.rt pa)) (A.le (A.rt pb)))) ++ exl⟩ 9 (0, 0))]], rfl, fun r A' h9 => hrun _ _ (.node hne (by omega) (by omega) (by rw [hu, Int.toNat_natCast]; exact hk1) (by rw [hq, Int.toNat_natCast, hnmm]; exact hk2) hkk h9), by omega, hown3, hTab3, hnd', hvs', hA3, hW3, (fun p hp => (by rcases List.mem_append.1 hp with hp | hp; exact hpr p (by simp [hp]); have h7 := List.of_mem_zip hp; have h8 := hch1.1 _ h7.1; have h9 := hch2.1 _ h7.2; exact ⟨by omega, by omega⟩)), ?_⟩; (refine S.keep ?_; repeat (first | exact trivial | refine ⟨rfl, ?_⟩)); done) | trace_state)
    · (skip; (try simp only [decide_eq_true_eq, decide_eq_false_iff_not, beq_iff_eq, bne_iff_ne, bne_eq_false_iff_eq, beq_eq_false_iff_ne, ne_eq, Bool.not_eq_true', Bool.not_eq_false', Bool.not_eq_true, Bool.not_eq_false, Bool.not_true, Bool.not_false, Int.ofNat_lt, Int.ofNat_le, Nat.not_lt, Nat.not_le] at h))
      refine wp_exit ?_
      (refine hKq2 _ _ ?_; try (clear hKq2 Kq2))
      (refine wp_seq_k ?_; intro Kq6 hKq6)
      refine wp_region_lit ?_
      (refine wpl_v S rfl rfl rfl (sv_pure S rfl) ?_; clear S a; intro a S)
      refine wpList_nil ?_
      (refine hKq6 _ _ ?_; try (clear hKq6 Kq6))
      refine wp_ret ?_
      (replace S := S.drop1)
      
      refine fin_ret S (results1 Tryd.results27 (RV.tmp S rfl)) ?_
      (first | (have hl0 : l = [] := List.eq_nil_of_length_eq_zero (by omega); subst hl0; exact ⟨true, A, rfl, hrun _ _ .done, fun _ => ⟨T', hnd', hvs', hA, hW, hTab⟩⟩) | (exact ⟨false, A, rfl, hrun _ _ (.clash hne (by omega) (by omega) (by rw [hu, Int.toNat_natCast]; exact hk1) (by rw [hq, Int.toNat_natCast]; exact hk2) (by first | exact .inl (by assumption) | exact .inr (by omega))), fun h => by cases h⟩) | trace_state)
end Go.Proofs.YtcjnmehpkcblfaaDoor
