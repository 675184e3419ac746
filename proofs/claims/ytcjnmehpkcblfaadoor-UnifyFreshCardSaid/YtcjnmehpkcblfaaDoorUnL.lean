/- The walks of the clones, of Copy, lesser, New. -/
import Derived.Test.YtcjnmehpkcblfaaDoorUnK
import Derived.Shelf.SlMaps.Clone
namespace Go.Proofs.YtcjnmehpkcblfaaDoor
open Go Go.Wk Go.Un
set_option linter.unusedSimpArgs false
set_option linter.unusedVariables false
attribute [local irreducible] Go.wpList Go.Code.wp Go.wpStill Go.Wk.wpPre Go.bodyPost Go.Calls Go.Wk.Ct Go.Wk.OwnS
attribute [local irreducible] Go.Wk.wpG Go.Wk.wpM

section
variable {P : Program} {n : Sz} {L : List (Nat × Value)} {w0 : World} {F0 : Heap} {K0 : List Nat} {F : Heap} {G : List Grp} {a : Act} {w : World} {o : Oper} {ops : Array Oper} {Q : Exit → Act → World → Prop} {rest : List Oper}
theorem sv_eqMapNil {x y : Operand} {t yt k e : TypeId} {b : Nat} [ht : Und P t (.map k e)] (S : St n L w0 F0 K0 F G a w) (ho : o.op = .binOp .eql t x y yt) (hx : ev L x = some (.map (some b))) (hy : ev L y = some (.map none)) : SV P o a w (.bool false) := by
  have h1 : (eqGuard .eql t x y (.map (some b)) (.map none)).run P w = .ok () w := by unfold eqGuard; split <;> rfl
  have h2 := run_eql_map_nil_sl (P := P) w t k e (some b) ht.h
  unfold SV execOp
  rw [ho]
  simp [S.fr.eval hx, S.fr.eval hy, h1, h2]
theorem sv_taMap {x : Operand} {t xt k e : TypeId} {v : Value} [ht : Und P t (.map k e)] (S : St n L w0 F0 K0 F G a w) (ho : o.op = .typeAssert x xt t false) (hx : ev L x = some (.iface t v)) : SV P o a w v := by
  unfold SV execOp
  rw [ho]
  simp [S.fr.eval hx, run_typeAssert_map_sl (P := P) w t xt k e v ht.h]
theorem wpl_mapsClone {d f : Nat} {fn : Func} {t : TypeId} {x : Operand} {xs : Array Operand} {ts : Array TypeId} {b : Nat} {es : List (List UInt8 × Value)} {R} (hf : P.funcs[f]? = some fn) (hname : (fn.name == "runtime.NumGoroutine") = false) (hb : fn.body.isNone = true) (hnx : Extern.findNext fn = none) (he : Extern.find fn = some Extern.MapsClone.clone) [hh : Has G b (mObj kS es) R]
    (S : St n L w0 F0 K0 F G a w) (hg : o.guard = none) (hd : o.dst = some d) (hn : Nat.blt d n.sz = true) (ho : o.op = .call { callee := .value x, args := xs, argTypes := ts }) (hx : ev L x = some (.func (.func f) ⟨[]⟩ ⟨[]⟩)) (hxs : evs L xs.toList = some [.iface t (.map (some b))])
    (k : ∀ b' a' w', St n ((d, .iface t (.map (some b'))) :: L) w0 F0 K0 F ([(b', mObj kS es)] :: G) a' w' → wpList P ops Q rest a' w') : wpList P ops Q (o :: rest) a w := by
  refine wpList_plain hg fun K hK => ?_
  have e1 : xs.map a.eval = #[.iface t (.map (some b))] := by
    have := S.fr.evals hxs
    apply Array.ext'; simpa using this
  have hrun := run_maps_clone_sl (P := P) w t (S.has hh)
  unfold Oper.wp execOp
  rw [ho]
  simp only [resolve, S.fr.eval hx, Deferred.ofValue, e1, Sem.run_bind, Sem.run_pure, Result.andThen_ok, invoke]
  have ea : (⟨[]⟩ : Array Value) ++ #[.iface t (.map (some b))] ++ (⟨[]⟩ : Array Value) = #[.iface t (.map (some b))] := by simp
  rw [ea, run_callFunc_extern hf hname hb hnx he, hrun]
  simp only [Result.andThen, Oper.upon_value, hd]
  exact hK _ _ (k _ _ _ (S.alloc _ hn _))
end
set_option maxHeartbeats 2000000 in
theorem cloneNCt (F : Heap) (v : Value) (n : Nat) (xs : List Value) (h0 : 0 < n) (hn : n ≤ 100000000) (hv : SlC F v n xs) (hl : xs.length = n * 2) (h1 : ∀ u ∈ xs, u.oneCell' = true) : Ct Tryd.prog 37 [v] F [] (fun _ G' u => ∃ g, G' = [g] ∧ OwnS 66 2 u n xs g) := by
  obtain ⟨ao, cap, rfl, hcap, hpos⟩ := hv
  obtain ⟨b9, o9, rfl, hc9⟩ := hpos h0
  refine Ct.enter Tryd.func37 rfl Tryd.ntmps37 rfl fun w0 a S => ?_
  (refine wp_seq_k ?_; intro Kq1 hKq1)
  refine wp_region_lit ?_
  (refine wpl_v S rfl rfl rfl (sv_pure S rfl) ?_; clear S a; intro a S)
  refine wpList_nil ?_
  (refine hKq1 _ _ ?_; try (clear hKq1 Kq1))
  (refine wp_seq_k ?_; intro Kq2 hKq2)
  (refine wp_seq_k ?_; intro Kq3 hKq3)
  refine wp_region_lit ?_
  (refine wpl_v S rfl rfl rfl (sv_pure S rfl) ?_; clear S a; intro a S)
  (refine wpl_v S rfl rfl rfl (sv_lit (c := false) (sv_eqSlNil S rfl rfl rfl) (by rfl)) ?_; clear S a; intro a S)
  refine wpList_nil ?_
  (refine hKq3 _ _ ?_; try (clear hKq3 Kq3))
  refine wpc_false S rfl ?_
  refine wp_skip ?_
  (refine hKq2 _ _ ?_; try (clear hKq2 Kq2))
  (refine wp_seq_k ?_; intro Kq4 hKq4)
  refine wp_region_lit ?_
  (refine wpl_buildSlice S rfl rfl rfl rfl rfl rfl (by rfl) (by simp [Value.cells, splice, splice]) rfl (by rfl) (by rfl) ?_; clear S a; intro b5 a w hown S)
  (refine wpl_v S rfl rfl rfl (sv_pure S rfl) ?_; clear S a; intro a S)
  (refine wpl_appendSl S rfl rfl rfl rfl rfl rfl hown (by rfl) hl (fun _ => ⟨b9, o9, rfl, hc9⟩) h1 (by omega) (by omega) ?_; clear hown S a; intro v g a w hown S)
  (refine wpl_v S rfl rfl rfl (sv_pure S rfl) ?_; clear S a; intro a S)
  refine wpList_nil ?_
  (refine hKq4 _ _ ?_; try (clear hKq4 Kq4))
  refine wp_ret ?_
  refine fin_ret S (results1 Tryd.results37 (RV.tmp S rfl)) ?_
  (try rw [Nat.zero_add] at hown; rw [List.flatMap_nil, List.nil_append] at hown; exact ⟨_, rfl, hown⟩)
set_option maxHeartbeats 2000000 in
theorem cloneICt (F : Heap) (v : Value) (n : Nat) (xs : List Value) (h0 : 0 < n) (hn : n ≤ 100000000) (hv : SlC F v n xs) (hl : xs.length = n * 1) (h1 : ∀ u ∈ xs, u.oneCell' = true) : Ct Tryd.prog 39 [v] F [] (fun _ G' u => ∃ g, G' = [g] ∧ OwnS 3 1 u n xs g) := by
  obtain ⟨ao, cap, rfl, hcap, hpos⟩ := hv
  obtain ⟨b9, o9, rfl, hc9⟩ := hpos h0
  refine Ct.enter Tryd.func39 rfl Tryd.ntmps39 rfl fun w0 a S => ?_
  (refine wp_seq_k ?_; intro Kq1 hKq1)
  refine wp_region_lit ?_
  (refine wpl_v S rfl rfl rfl (sv_pure S rfl) ?_; clear S a; intro a S)
  refine wpList_nil ?_
  (refine hKq1 _ _ ?_; try (clear hKq1 Kq1))
  (refine wp_seq_k ?_; intro Kq2 hKq2)
  (refine wp_seq_k ?_; intro Kq3 hKq3)
  refine wp_region_lit ?_
  (refine wpl_v S rfl rfl rfl (sv_pure S rfl) ?_; clear S a; intro a S)
  (refine wpl_v S rfl rfl rfl (sv_lit (c := false) (sv_eqSlNil S rfl rfl rfl) (by rfl)) ?_; clear S a; intro a S)
  refine wpList_nil ?_
  (refine hKq3 _ _ ?_; try (clear hKq3 Kq3))
  refine wpc_false S rfl ?_
  refine wp_skip ?_
  (refine hKq2 _ _ ?_; try (clear hKq2 Kq2))
  (refine wp_seq_k ?_; intro Kq4 hKq4)
  refine wp_region_lit ?_
  (refine wpl_buildSlice S rfl rfl rfl rfl rfl rfl (by rfl) (by simp [Value.cells, splice, splice]) rfl (by rfl) (by rfl) ?_; clear S a; intro b5 a w hown S)
  (refine wpl_v S rfl rfl rfl (sv_pure S rfl) ?_; clear S a; intro a S)
  (refine wpl_appendSl S rfl rfl rfl rfl rfl rfl hown (by rfl) hl (fun _ => ⟨b9, o9, rfl, hc9⟩) h1 (by omega) (by omega) ?_; clear hown S a; intro v g a w hown S)
  (refine wpl_v S rfl rfl rfl (sv_pure S rfl) ?_; clear S a; intro a S)
  refine wpList_nil ?_
  (refine hKq4 _ _ ?_; try (clear hKq4 Kq4))
  refine wp_ret ?_
  refine fin_ret S (results1 Tryd.results39 (RV.tmp S rfl)) ?_
  (try rw [Nat.zero_add] at hown; rw [List.flatMap_nil, List.nil_append] at hown; exact ⟨_, rfl, hown⟩)
set_option maxHeartbeats 2000000 in
theorem cloneSCt (F : Heap) (v : Value) (n : Nat) (xs : List Value) (h0 : 0 < n) (hn : n ≤ 100000000) (hv : SlC F v n xs) (hl : xs.length = n * 1) (h1 : ∀ u ∈ xs, u.oneCell' = true) : Ct Tryd.prog 40 [v] F [] (fun _ G' u => ∃ g, G' = [g] ∧ OwnS 9 1 u n xs g) := by
  obtain ⟨ao, cap, rfl, hcap, hpos⟩ := hv
  obtain ⟨b9, o9, rfl, hc9⟩ := hpos h0
  refine Ct.enter Tryd.func40 rfl Tryd.ntmps40 rfl fun w0 a S => ?_
  (refine wp_seq_k ?_; intro Kq1 hKq1)
  refine wp_region_lit ?_
  (refine wpl_v S rfl rfl rfl (sv_pure S rfl) ?_; clear S a; intro a S)
  refine wpList_nil ?_
  (refine hKq1 _ _ ?_; try (clear hKq1 Kq1))
  (refine wp_seq_k ?_; intro Kq2 hKq2)
  (refine wp_seq_k ?_; intro Kq3 hKq3)
  refine wp_region_lit ?_
  (refine wpl_v S rfl rfl rfl (sv_pure S rfl) ?_; clear S a; intro a S)
  (refine wpl_v S rfl rfl rfl (sv_lit (c := false) (sv_eqSlNil S rfl rfl rfl) (by rfl)) ?_; clear S a; intro a S)
  refine wpList_nil ?_
  (refine hKq3 _ _ ?_; try (clear hKq3 Kq3))
  refine wpc_false S rfl ?_
  refine wp_skip ?_
  (refine hKq2 _ _ ?_; try (clear hKq2 Kq2))
  (refine wp_seq_k ?_; intro Kq4 hKq4)
  refine wp_region_lit ?_
  (refine wpl_buildSlice S rfl rfl rfl rfl rfl rfl (by rfl) (by simp [Value.cells, splice, splice]) rfl (by rfl) (by rfl) ?_; clear S a; intro b5 a w hown S)
  (refine wpl_v S rfl rfl rfl (sv_pure S rfl) ?_; clear S a; intro a S)
  (refine wpl_appendSl S rfl rfl rfl rfl rfl rfl hown (by rfl) hl (fun _ => ⟨b9, o9, rfl, hc9⟩) h1 (by omega) (by omega) ?_; clear hown S a; intro v g a w hown S)
  (refine wpl_v S rfl rfl rfl (sv_pure S rfl) ?_; clear S a; intro a S)
  refine wpList_nil ?_
  (refine hKq4 _ _ ?_; try (clear hKq4 Kq4))
  refine wp_ret ?_
  refine fin_ret S (results1 Tryd.results40 (RV.tmp S rfl)) ?_
  (try rw [Nat.zero_add] at hown; rw [List.flatMap_nil, List.nil_append] at hown; exact ⟨_, rfl, hown⟩)
theorem mapsCloneCt (F : Heap) (mb : Nat) (es : List (List UInt8 × Value)) : Ct Tryd.prog 38 [.map (some mb)] F [[(mb, mObj kS es)]] (fun _ G' u => ∃ mb', u = .map (some mb') ∧ G' = [[(mb, mObj kS es)], [(mb', mObj kS es)]]) := by
  refine Ct.enter Tryd.func38 rfl Tryd.ntmps38 rfl fun w0 a S => ?_
  (refine wp_seq_k ?_; intro Kq1 hKq1)
  refine wp_region_lit ?_
  (refine wpl_v S rfl rfl rfl (sv_pure S rfl) ?_; clear S a; intro a S)
  refine wpList_nil ?_
  (refine hKq1 _ _ ?_; try (clear hKq1 Kq1))
  (refine wp_seq_k ?_; intro Kq2 hKq2)
  (refine wp_seq_k ?_; intro Kq3 hKq3)
  refine wp_region_lit ?_
  (refine wpl_v S rfl rfl rfl (sv_pure S rfl) ?_; clear S a; intro a S)
  (refine wpl_v S rfl rfl rfl (sv_eqMapNil S rfl rfl rfl) ?_; clear S a; intro a S)
  refine wpList_nil ?_
  (refine hKq3 _ _ ?_; try (clear hKq3 Kq3))
  refine wpc_false S rfl ?_
  refine wp_skip ?_
  (refine hKq2 _ _ ?_; try (clear hKq2 Kq2))
  (refine wp_seq_k ?_; intro Kq4 hKq4)
  refine wp_region_lit ?_
  (refine wpl_v S rfl rfl rfl (sv_pure S rfl) ?_; clear S a; intro a S)
  (refine wpl_v S rfl rfl rfl (sv_mkIface S rfl rfl) ?_; clear S a; intro a S)
  (refine wpl_mapsClone (f := 49) Tryd.func49 (by kernel_rfl) (by kernel_rfl) (by kernel_rfl) (by kernel_rfl) S rfl rfl rfl rfl rfl rfl ?_; clear S a; intro b7 a w S)
  (refine wpl_v S rfl rfl rfl (sv_taMap S rfl rfl) ?_; clear S a; intro a S)
  (refine wpl_v S rfl rfl rfl (sv_pure S rfl) ?_; clear S a; intro a S)
  refine wpList_nil ?_
  (refine hKq4 _ _ ?_; try (clear hKq4 Kq4))
  refine wp_ret ?_
  (replace S := St.rotL (A := [[(b7, _)]]) (B := [[(mb, _)]]) S)
  
  refine fin_ret S (results1 Tryd.results38 (RV.tmp S rfl)) ?_
  exact ⟨_, rfl, rfl⟩
theorem lesserCt (F : Heap) (s t : List UInt8) : Ct Tryd.prog 42 [.string (bs s), .string (bs t)] F [] (fun _ _ u => u = .string (bs (if s = [] ∨ (t ≠ [] ∧ Op.bytesLess t s = true) then t else s))) := by
  refine Ct.enter Tryd.func42 rfl Tryd.ntmps42 rfl fun w0 a S => ?_
  (refine wp_seq_k ?_; intro Kq1 hKq1)
  refine wp_region_lit ?_
  (refine wpl_v S rfl rfl rfl (sv_pure S rfl) ?_; clear S a; intro a S)
  refine wpList_nil ?_
  (refine hKq1 _ _ ?_; try (clear hKq1 Kq1))
  (refine wp_seq_k ?_; intro Kq2 hKq2)
  (refine wp_seq_k ?_; intro Kq3 hKq3)
  refine wp_region_lit ?_
  (refine wpl_v S rfl rfl rfl (sv_pure S rfl) ?_; clear S a; intro a S)
  (refine wpl_v S rfl rfl rfl (sv_pure S rfl) ?_; clear S a; intro a S)
  (refine wpl_v S rfl rfl rfl (sv_pure S rfl) ?_; clear S a; intro a S)
  refine wpl_guard S rfl rfl rfl rfl rfl ?_ ?_
  · (intro h S'; clear S; have S := S'; clear S'; (try simp only [decide_eq_true_eq, decide_eq_false_iff_not, beq_iff_eq, bne_iff_ne, bne_eq_false_iff_eq, beq_eq_false_iff_ne, ne_eq, Bool.not_eq_true', Bool.not_eq_false', Bool.not_eq_true, Bool.not_eq_false, Bool.not_true, Bool.not_false, Int.ofNat_lt, Int.ofNat_le, Nat.not_lt, Nat.not_le] at h))
    (refine wpl_v S rfl rfl rfl (sv_pure S rfl) ?_; clear S a; intro a S)
    refine wpl_take S rfl rfl rfl ?_
    (refine wpl_v S rfl rfl rfl (sv_pure S rfl) ?_; clear S a; intro a S)
    refine wpl_take S rfl rfl rfl ?_
    (refine wpl_v S rfl rfl rfl (sv_pure S rfl) ?_; clear S a; intro a S)
    refine wpl_guard S rfl rfl rfl rfl rfl ?_ ?_
    · (intro h S'; clear S; have S := S'; clear S'; (try simp only [decide_eq_true_eq, decide_eq_false_iff_not, beq_iff_eq, bne_iff_ne, bne_eq_false_iff_eq, beq_eq_false_iff_ne, ne_eq, Bool.not_eq_true', Bool.not_eq_false', Bool.not_eq_true, Bool.not_eq_false, Bool.not_true, Bool.not_false, Int.ofNat_lt, Int.ofNat_le, Nat.not_lt, Nat.not_le] at h))
      (refine wpl_v S rfl rfl rfl (sv_pure S rfl) ?_; clear S a; intro a S)
      refine wpl_take S rfl rfl rfl ?_
      (refine wpl_v S rfl rfl rfl (sv_pure S rfl) ?_; clear S a; intro a S)
      refine wpl_take S rfl rfl rfl ?_
      (refine wpl_v S rfl rfl rfl (sv_pure S rfl) ?_; clear S a; intro a S)
      refine wpl_take S rfl rfl rfl ?_
      first | (refine wpl_v S rfl rfl rfl (sv_pure S rfl) ?_; clear S a; intro a S) | (refine wpl_v S rfl rfl rfl (sv_pickB S rfl rfl rfl rfl) ?_; clear S a; intro a S)
      first | (refine wpl_v S rfl rfl rfl (sv_pure S rfl) ?_; clear S a; intro a S) | (refine wpl_v S rfl rfl rfl (sv_pickB S rfl rfl rfl rfl) ?_; clear S a; intro a S)
      refine wpList_nil ?_
      (refine hKq3 _ _ ?_; try (clear hKq3 Kq3))
      refine wpc_split S rfl (fun h => ?_) (fun h => ?_)
      · (skip; (try simp only [decide_eq_true_eq, decide_eq_false_iff_not, beq_iff_eq, bne_iff_ne, bne_eq_false_iff_eq, beq_eq_false_iff_ne, ne_eq, Bool.not_eq_true', Bool.not_eq_false', Bool.not_eq_true, Bool.not_eq_false, Bool.not_true, Bool.not_false, Int.ofNat_lt, Int.ofNat_le, Nat.not_lt, Nat.not_le] at h))
        (refine wp_seq_k ?_; intro Kq4 hKq4)
        refine wp_region_lit ?_
        (refine wpl_v S rfl rfl rfl (sv_pure S rfl) ?_; clear S a; intro a S)
        (refine wpl_v S rfl rfl rfl (sv_pure S rfl) ?_; clear S a; intro a S)
        refine wpList_nil ?_
        (refine hKq4 _ _ ?_; try (clear hKq4 Kq4))
        refine wp_ret ?_
        refine fin_ret S (results1 Tryd.results42 (RV.tmp S rfl)) ?_
        (first | (rw [if_pos (by first | exact .inl (by assumption) | exact .inr ⟨by assumption, by assumption⟩)]; done) | (rw [if_neg (by rintro (h | h) <;> simp_all)]; done) | trace_state)
      · (skip; (try simp only [decide_eq_true_eq, decide_eq_false_iff_not, beq_iff_eq, bne_iff_ne, bne_eq_false_iff_eq, beq_eq_false_iff_ne, ne_eq, Bool.not_eq_true', Bool.not_eq_false', Bool.not_eq_true, Bool.not_eq_false, Bool.not_true, Bool.not_false, Int.ofNat_lt, Int.ofNat_le, Nat.not_lt, Nat.not_le] at h))
        refine wp_skip ?_
        (refine hKq2 _ _ ?_; try (clear hKq2 Kq2))
        (refine wp_seq_k ?_; intro Kq4 hKq4)
        refine wp_region_lit ?_
        (refine wpl_v S rfl rfl rfl (sv_pure S rfl) ?_; clear S a; intro a S)
        (refine wpl_v S rfl rfl rfl (sv_pure S rfl) ?_; clear S a; intro a S)
        refine wpList_nil ?_
        (refine hKq4 _ _ ?_; try (clear hKq4 Kq4))
        refine wp_ret ?_
        refine fin_ret S (results1 Tryd.results42 (RV.tmp S rfl)) ?_
        (first | (rw [if_pos (by first | exact .inl (by assumption) | exact .inr ⟨by assumption, by assumption⟩)]; done) | (rw [if_neg (by rintro (h | h) <;> simp_all)]; done) | trace_state)
    · (intro h; clear S a; intro a S; (try simp only [decide_eq_true_eq, decide_eq_false_iff_not, beq_iff_eq, bne_iff_ne, bne_eq_false_iff_eq, beq_eq_false_iff_ne, ne_eq, Bool.not_eq_true', Bool.not_eq_false', Bool.not_eq_true, Bool.not_eq_false, Bool.not_true, Bool.not_false, Int.ofNat_lt, Int.ofNat_le, Nat.not_lt, Nat.not_le] at h))
      (refine wpl_skip S rfl rfl rfl rfl rfl ?_; clear S a; intro a S)
      (refine wpl_skip S rfl rfl rfl rfl rfl ?_; clear S a; intro a S)
      refine wpl_take S rfl rfl rfl ?_
      first | (refine wpl_v S rfl rfl rfl (sv_pure S rfl) ?_; clear S a; intro a S) | (refine wpl_v S rfl rfl rfl (sv_pickB S rfl rfl rfl rfl) ?_; clear S a; intro a S)
      first | (refine wpl_v S rfl rfl rfl (sv_pure S rfl) ?_; clear S a; intro a S) | (refine wpl_v S rfl rfl rfl (sv_pickB S rfl rfl rfl rfl) ?_; clear S a; intro a S)
      refine wpList_nil ?_
      (refine hKq3 _ _ ?_; try (clear hKq3 Kq3))
      refine wpc_false S rfl ?_
      refine wp_skip ?_
      (refine hKq2 _ _ ?_; try (clear hKq2 Kq2))
      (refine wp_seq_k ?_; intro Kq4 hKq4)
      refine wp_region_lit ?_
      (refine wpl_v S rfl rfl rfl (sv_pure S rfl) ?_; clear S a; intro a S)
      (refine wpl_v S rfl rfl rfl (sv_pure S rfl) ?_; clear S a; intro a S)
      refine wpList_nil ?_
      (refine hKq4 _ _ ?_; try (clear hKq4 Kq4))
      refine wp_ret ?_
      refine fin_ret S (results1 Tryd.results42 (RV.tmp S rfl)) ?_
      (first | (rw [if_pos (by first | exact .inl (by assumption) | exact .inr ⟨by assumption, by assumption⟩)]; done) | (rw [if_neg (by rintro (h | h) <;> simp_all)]; done) | trace_state)
  · (intro h; clear S a; intro a S; (try simp only [decide_eq_true_eq, decide_eq_false_iff_not, beq_iff_eq, bne_iff_ne, bne_eq_false_iff_eq, beq_eq_false_iff_ne, ne_eq, Bool.not_eq_true', Bool.not_eq_false', Bool.not_eq_true, Bool.not_eq_false, Bool.not_true, Bool.not_false, Int.ofNat_lt, Int.ofNat_le, Nat.not_lt, Nat.not_le] at h))
    (refine wpl_skip S rfl rfl rfl rfl rfl ?_; clear S a; intro a S)
    (refine wpl_skip S rfl rfl rfl rfl rfl ?_; clear S a; intro a S)
    (refine wpl_skipU S rfl rfl rfl rfl rfl ?_; clear S a; intro a S)
    (refine wpl_skipU S rfl rfl rfl rfl rfl ?_; clear S a; intro a S)
    (refine wpl_skipU S rfl rfl rfl rfl rfl ?_; clear S a; intro a S)
    (refine wpl_skip S rfl rfl rfl rfl rfl ?_; clear S a; intro a S)
    first | (refine wpl_v S rfl rfl rfl (sv_pure S rfl) ?_; clear S a; intro a S) | (refine wpl_v S rfl rfl rfl (sv_pickB S rfl rfl rfl rfl) ?_; clear S a; intro a S)
    refine wpList_nil ?_
    (refine hKq3 _ _ ?_; try (clear hKq3 Kq3))
    refine wpc_true S rfl ?_
    (refine wp_seq_k ?_; intro Kq4 hKq4)
    refine wp_region_lit ?_
    (refine wpl_v S rfl rfl rfl (sv_pure S rfl) ?_; clear S a; intro a S)
    (refine wpl_v S rfl rfl rfl (sv_pure S rfl) ?_; clear S a; intro a S)
    refine wpList_nil ?_
    (refine hKq4 _ _ ?_; try (clear hKq4 Kq4))
    refine wp_ret ?_
    refine fin_ret S (results1 Tryd.results42 (RV.tmp S rfl)) ?_
    (first | (rw [if_pos (by first | exact .inl (by assumption) | exact .inr ⟨by assumption, by assumption⟩)]; done) | (rw [if_neg (by rintro (h | h) <;> simp_all)]; done) | trace_state)

theorem grp_app {A B : List Grp} : (A ++ B).flatten.Perm (A.flatten ++ B.flatten) := by rw [List.flatten_append]
theorem ints_one (l : List Nat) : ∀ u ∈ intsN l, u.oneCell' = true := fun u hu => by obtain ⟨k, _, rfl⟩ := List.mem_map.1 hu; rfl
theorem intsI_one (l : List Int) : ∀ u ∈ intsI l, u.oneCell' = true := fun u hu => by obtain ⟨k, _, rfl⟩ := List.mem_map.1 hu; rfl
theorem strs_one (l : List (List UInt8)) : ∀ u ∈ strs l, u.oneCell' = true := fun u hu => by obtain ⟨k, _, rfl⟩ := List.mem_map.1 hu; rfl
theorem NdC.one {F : Heap} : ∀ {xs : List Value} {l : List (List UInt8 × List Nat)}, NdC F xs l → ∀ u ∈ xs, u.oneCell' = true
  | [], [], _, u, hu => by cases hu
  | [], _ :: _, h, _, _ => h.elim
  | [_], [], h, _, _ => h.elim
  | [_], _ :: _, h, _, _ => h.elim
  | _ :: _ :: _, [], h, _, _ => h.elim
  | x :: v :: r, (nm, ks) :: l, ⟨h1, ⟨ao, cap, h2, _⟩, h3⟩, u, hu => by
    rcases List.mem_cons.1 hu with rfl | hu
    · subst h1; rfl
    rcases List.mem_cons.1 hu with rfl | hu
    · subst h2; rfl
    · exact NdC.one h3 u hu
set_option maxHeartbeats 8000000 in
theorem copyCt (F : Heap) (tb mb : Nat) (T : Tb) (n : Nat) (G : List Grp) (h0 : 0 < n) (hn : n ≤ 100000000) (h : TabM F tb mb T n G) :
    Ct Tryd.prog 26 [.pointer (some ⟨tb, 0, none⟩)] F G (fun _ G' u => ∃ tb' mb' G1 G2, u = .pointer (some ⟨tb', 0, none⟩) ∧ G' = G1 ++ G2 ∧ TabM F tb mb T n G1 ∧ TabM F tb' mb' T n G2) := by
  obtain ⟨vn, vp, vt, vl, told, gn, gp, gs, gl, rfl, ⟨xs, hN, hNd⟩, hP, hS, hL⟩ := h
  have c1 := ct_lendG (cloneNCt (F.add gn) vn n xs h0 hn (hN.slC F) (ownS_len hN) (NdC.one hNd))
  have c2 := mapsCloneCt F mb (mapV T.vs)
  have c3 := ct_lendG (cloneICt (F.add gp) vp n _ h0 hn (hP.slC F) (ownS_len hP) (ints_one _))
  have c4 := ct_lendG (cloneICt (F.add gs) vt n _ h0 hn (hS.slC F) (ownS_len hS) (intsI_one _))
  have c5 := ct_lendG (cloneSCt (F.add gl) vl n _ h0 hn (hL.slC F) (ownS_len hL) (strs_one _))
  unfold GT
  refine Ct.enter Tryd.func26 rfl Tryd.ntmps26 rfl fun w0 a S => ?_
  (refine wp_seq_k ?_; intro Kq1 hKq1)
  refine wp_region_lit ?_
  (refine wpl_v S rfl rfl rfl (sv_pure S rfl) ?_; clear S a; intro a S)
  refine wpList_nil ?_
  (refine hKq1 _ _ ?_; try (clear hKq1 Kq1))
  (refine wp_seq_k ?_; intro Kq2 hKq2)
  (refine wp_seq_k ?_; intro Kq3 hKq3)
  refine wp_region_lit ?_
  (refine wpl_v S rfl rfl rfl (sv_pure S rfl) ?_; clear S a; intro a S)
  (refine wpl_v S rfl rfl rfl (sv_lit (c := false) (sv_eqPtrSome S rfl rfl rfl) (by rfl)) ?_; clear S a; intro a S)
  refine wpList_nil ?_
  (refine hKq3 _ _ ?_; try (clear hKq3 Kq3))
  refine wpc_false S rfl ?_
  refine wp_skip ?_
  (refine hKq2 _ _ ?_; try (clear hKq2 Kq2))
  (refine wp_seq_k ?_; intro Kq4 hKq4)
  (replace S : St _ _ _ _ _ F [gn, gp, gs, gl, [(tb, _)], [(mb, _)]] _ _ := St.permI S 6 rfl [2, 3, 4, 5, 0, 1] (by decide))
  (refine wpc_mixM [0, 1, 2, 3, 5, 6, 7, 8, 10, 11, 12, 13, 15, 16, 17, 18, 20, 21, 22, 23, 25, 26, 27, 28, 29] [3, 8, 13, 18, 23, 28] [] (.one 0 (.one 1 (.one 2 (.one 3 (.one 5 (.one 6 (.one 7 (.one 8 (.one 10 (.one 11 (.one 12 (.one 13 (.one 15 (.one 16 (.one 17 (.one 18 (.one 20 (.one 21 (.one 22 (.one 23 (.one 25 (.one 26 (.one 27 (.one 28 (.one 4 (.one 9 (.one 14 (.one 19 (.one 24 (.one 29 (.one 30 (.one 31 .nil)))))))))))))))))))))))))))))))) [tb] S mixed (by kernel_rfl) ?_; clear S; intro w S)
  (refine wpm_v S rfl rfl rfl (want_none _ rfl) rfl rfl (fun w' S => sv_pure S rfl) ?_; clear S a; intro a S)
  (refine wpm_v S rfl rfl rfl (want_none _ rfl) rfl rfl (fun w' S => sv_nilCheck S rfl rfl) ?_; clear S a; intro a S)
  (refine wpm_v S rfl rfl rfl (want_none _ rfl) rfl rfl (fun w' S => sv_fieldAddr S rfl rfl rfl inferInstance rfl) ?_; clear S a; intro a S)
  first | (refine wpm_lateO tb S rfl rfl rfl (want_none _ rfl) rfl rfl (fun w' S => sv_loadO S rfl rfl (by rfl)) ?_; clear S a; intro a S) | (refine wpm_lateO tb S rfl rfl rfl (want_none _ rfl) rfl rfl (fun w' S => sv_loadAO S rfl rfl (by rfl)) ?_; clear S a; intro a S)
  (refine wpm_v S rfl rfl rfl (want_none _ rfl) rfl rfl (fun w' S => sv_pure S rfl) ?_; clear S a; intro a S)
  (refine wpm_v S rfl rfl rfl (want_none _ rfl) rfl rfl (fun w' S => sv_nilCheck S rfl rfl) ?_; clear S a; intro a S)
  (refine wpm_v S rfl rfl rfl (want_none _ rfl) rfl rfl (fun w' S => sv_fieldAddr S rfl rfl rfl inferInstance rfl) ?_; clear S a; intro a S)
  first | (refine wpm_lateO tb S rfl rfl rfl (want_none _ rfl) rfl rfl (fun w' S => sv_loadO S rfl rfl (by rfl)) ?_; clear S a; intro a S) | (refine wpm_lateO tb S rfl rfl rfl (want_none _ rfl) rfl rfl (fun w' S => sv_loadAO S rfl rfl (by rfl)) ?_; clear S a; intro a S)
  (refine wpm_v S rfl rfl rfl (want_none _ rfl) rfl rfl (fun w' S => sv_pure S rfl) ?_; clear S a; intro a S)
  (refine wpm_v S rfl rfl rfl (want_none _ rfl) rfl rfl (fun w' S => sv_nilCheck S rfl rfl) ?_; clear S a; intro a S)
  (refine wpm_v S rfl rfl rfl (want_none _ rfl) rfl rfl (fun w' S => sv_fieldAddr S rfl rfl rfl inferInstance rfl) ?_; clear S a; intro a S)
  first | (refine wpm_lateO tb S rfl rfl rfl (want_none _ rfl) rfl rfl (fun w' S => sv_loadO S rfl rfl (by rfl)) ?_; clear S a; intro a S) | (refine wpm_lateO tb S rfl rfl rfl (want_none _ rfl) rfl rfl (fun w' S => sv_loadAO S rfl rfl (by rfl)) ?_; clear S a; intro a S)
  (refine wpm_v S rfl rfl rfl (want_none _ rfl) rfl rfl (fun w' S => sv_pure S rfl) ?_; clear S a; intro a S)
  (refine wpm_v S rfl rfl rfl (want_none _ rfl) rfl rfl (fun w' S => sv_nilCheck S rfl rfl) ?_; clear S a; intro a S)
  (refine wpm_v S rfl rfl rfl (want_none _ rfl) rfl rfl (fun w' S => sv_fieldAddr S rfl rfl rfl inferInstance rfl) ?_; clear S a; intro a S)
  first | (refine wpm_lateO tb S rfl rfl rfl (want_none _ rfl) rfl rfl (fun w' S => sv_loadO S rfl rfl (by rfl)) ?_; clear S a; intro a S) | (refine wpm_lateO tb S rfl rfl rfl (want_none _ rfl) rfl rfl (fun w' S => sv_loadAO S rfl rfl (by rfl)) ?_; clear S a; intro a S)
  (refine wpm_v S rfl rfl rfl (want_none _ rfl) rfl rfl (fun w' S => sv_pure S rfl) ?_; clear S a; intro a S)
  (refine wpm_v S rfl rfl rfl (want_none _ rfl) rfl rfl (fun w' S => sv_nilCheck S rfl rfl) ?_; clear S a; intro a S)
  (refine wpm_v S rfl rfl rfl (want_none _ rfl) rfl rfl (fun w' S => sv_fieldAddr S rfl rfl rfl inferInstance rfl) ?_; clear S a; intro a S)
  first | (refine wpm_lateO tb S rfl rfl rfl (want_none _ rfl) rfl rfl (fun w' S => sv_loadO S rfl rfl (by rfl)) ?_; clear S a; intro a S) | (refine wpm_lateO tb S rfl rfl rfl (want_none _ rfl) rfl rfl (fun w' S => sv_loadAO S rfl rfl (by rfl)) ?_; clear S a; intro a S)
  (refine wpm_v S rfl rfl rfl (want_none _ rfl) rfl rfl (fun w' S => sv_pure S rfl) ?_; clear S a; intro a S)
  (refine wpm_v S rfl rfl rfl (want_none _ rfl) rfl rfl (fun w' S => sv_nilCheck S rfl rfl) ?_; clear S a; intro a S)
  (refine wpm_v S rfl rfl rfl (want_none _ rfl) rfl rfl (fun w' S => sv_fieldAddr S rfl rfl rfl inferInstance rfl) ?_; clear S a; intro a S)
  first | (refine wpm_lateO tb S rfl rfl rfl (want_none _ rfl) rfl rfl (fun w' S => sv_loadO S rfl rfl (by rfl)) ?_; clear S a; intro a S) | (refine wpm_lateO tb S rfl rfl rfl (want_none _ rfl) rfl rfl (fun w' S => sv_loadAO S rfl rfl (by rfl)) ?_; clear S a; intro a S)
  refine wpm_eff rfl rfl (fun _ => ⟨fun b o h => S.tr.frz b o (by first | exact h | solve_by_elim), S.has inferInstance, trivial⟩) ?_
  (refine wpl_callOwn (Gs := [gn]) (Gr := [gp, gs, gl, [(tb, _)], [(mb, _)]]) S rfl rfl rfl rfl rfl rfl c1 rfl (grp_app (A := [gn])) ?_; clear S a; intro un G9 a w hv S; obtain ⟨G8, rfl, gn', rfl, hN'⟩ := hv; obtain ⟨aN, cN, rfl, -⟩ := hN'.at; replace S : St _ _ _ _ _ F [[(mb, _)], gn, gn', gp, gs, gl, [(tb, _)]] _ _ := St.permI S 7 rfl [6, 0, 1, 2, 3, 4, 5] (by decide))
  refine wpList_nil ?_
  refine wpm_eff rfl rfl (fun _ => ⟨fun b o h => S.tr.frz b o (by first | exact h | solve_by_elim), S.has inferInstance, trivial⟩) ?_
  (refine wpl_callOwn (Gs := [[(mb, _)]]) (Gr := [gn, gn', gp, gs, gl, [(tb, _)]]) S rfl rfl rfl rfl rfl rfl c2 rfl (by exact List.Perm.refl _) ?_; clear S a; intro um G9 a w hv S; obtain ⟨mb', rfl, rfl⟩ := hv; replace S : St _ _ _ _ _ F [gp, gs, gl, [(tb, _)], [(mb, _)], [(mb', _)], gn, gn'] _ _ := St.permI S 8 rfl [4, 5, 6, 7, 0, 1, 2, 3] (by decide))
  refine wpList_nil ?_
  refine wpm_eff rfl rfl (fun _ => ⟨fun b o h => S.tr.frz b o (by first | exact h | solve_by_elim), S.has inferInstance, trivial⟩) ?_
  (first | (refine wpl_callOwn (Gs := [gp]) (Gr := [gs, gl, [(tb, _)], [(mb, _)], [(mb', _)], gn, gn']) S rfl rfl rfl rfl rfl rfl c3 rfl (grp_app (A := [gp])) ?_; clear S a; intro up G9 a w hv S; obtain ⟨G8, rfl, gp', rfl, hP'⟩ := hv; obtain ⟨aP, cP, rfl, -⟩ := hP'.at; replace S : St _ _ _ _ _ F [gs, gl, [(tb, _)], [(mb, _)], [(mb', _)], gn, gn', gp, gp'] _ _ := St.permI S 9 rfl [2, 3, 4, 5, 6, 7, 8, 0, 1] (by decide)) | (refine wpl_callOwn (Gs := [gs]) (Gr := [gl, [(tb, _)], [(mb, _)], [(mb', _)], gn, gn', gp, gp']) S rfl rfl rfl rfl rfl rfl c4 rfl (grp_app (A := [gs])) ?_; clear S a; intro us G9 a w hv S; obtain ⟨G8, rfl, gs', rfl, hS'⟩ := hv; obtain ⟨aS, cS, rfl, -⟩ := hS'.at; replace S : St _ _ _ _ _ F [gl, [(tb, _)], [(mb, _)], [(mb', _)], gn, gn', gp, gp', gs, gs'] _ _ := St.permI S 10 rfl [2, 3, 4, 5, 6, 7, 8, 9, 0, 1] (by decide)))
  refine wpList_nil ?_
  refine wpm_eff rfl rfl (fun _ => ⟨fun b o h => S.tr.frz b o (by first | exact h | solve_by_elim), S.has inferInstance, trivial⟩) ?_
  (first | (refine wpl_callOwn (Gs := [gp]) (Gr := [gs, gl, [(tb, _)], [(mb, _)], [(mb', _)], gn, gn']) S rfl rfl rfl rfl rfl rfl c3 rfl (grp_app (A := [gp])) ?_; clear S a; intro up G9 a w hv S; obtain ⟨G8, rfl, gp', rfl, hP'⟩ := hv; obtain ⟨aP, cP, rfl, -⟩ := hP'.at; replace S : St _ _ _ _ _ F [gs, gl, [(tb, _)], [(mb, _)], [(mb', _)], gn, gn', gp, gp'] _ _ := St.permI S 9 rfl [2, 3, 4, 5, 6, 7, 8, 0, 1] (by decide)) | (refine wpl_callOwn (Gs := [gs]) (Gr := [gl, [(tb, _)], [(mb, _)], [(mb', _)], gn, gn', gp, gp']) S rfl rfl rfl rfl rfl rfl c4 rfl (grp_app (A := [gs])) ?_; clear S a; intro us G9 a w hv S; obtain ⟨G8, rfl, gs', rfl, hS'⟩ := hv; obtain ⟨aS, cS, rfl, -⟩ := hS'.at; replace S : St _ _ _ _ _ F [gl, [(tb, _)], [(mb, _)], [(mb', _)], gn, gn', gp, gp', gs, gs'] _ _ := St.permI S 10 rfl [2, 3, 4, 5, 6, 7, 8, 9, 0, 1] (by decide)))
  refine wpList_nil ?_
  refine wpm_eff rfl rfl (fun _ => ⟨fun b o h => S.tr.frz b o (by first | exact h | solve_by_elim), S.has inferInstance, trivial⟩) ?_
  (refine wpl_callOwn (Gs := [gl]) (Gr := [[(tb, _)], [(mb, _)], [(mb', _)], gn, gn', gp, gp', gs, gs']) S rfl rfl rfl rfl rfl rfl c5 rfl (grp_app (A := [gl])) ?_; clear S a; intro ul G9 a w hv S; obtain ⟨G8, rfl, gl', rfl, hL'⟩ := hv; obtain ⟨aL, cL, rfl, -⟩ := hL'.at; replace S : St _ _ _ _ _ F [[(tb, _)], [(mb, _)], gn, gp, gs, gl, [(mb', _)], gn', gp', gs', gl'] _ _ := St.permI S 11 rfl [2, 3, 5, 7, 9, 0, 4, 6, 8, 10, 1] (by decide))
  refine wpList_nil ?_
  (refine wpm_v S rfl rfl rfl (want_none _ rfl) rfl rfl (fun w' S => sv_build S rfl rfl rfl) ?_; clear S a; intro a S)
  refine wpm_eff rfl rfl (fun _ => ⟨fun b o h => S.tr.frz b o (by first | exact h | solve_by_elim), S.has inferInstance, trivial⟩) ?_
  (refine wpl_box S rfl rfl rfl rfl rfl ?_; clear S a; intro b35 a w S)
  refine wpList_nil ?_
  refine wpm_eff rfl rfl (fun _ => ⟨fun b o h => S.tr.frz b o (by first | exact h | solve_by_elim), S.has inferInstance, trivial⟩) ?_
  (refine wpl_v S rfl rfl rfl (sv_pure S rfl) ?_; clear S a; intro a S)
  refine wpList_nil ?_
  refine wpm_nil (fun _ => ⟨fun b o h => S.tr.frz b o (by first | exact h | solve_by_elim), S.has inferInstance, trivial⟩) ?_
  (refine hKq4 _ _ ?_; try (clear hKq4 Kq4))
  refine wp_ret ?_
  (replace S : St _ _ _ _ _ F [[(tb, _)], [(mb, _)], gn, gp, gs, gl, [(b35, _)], [(mb', _)], gn', gp', gs', gl'] _ _ := St.permI S 12 rfl [1, 2, 3, 4, 5, 6, 0, 7, 8, 9, 10, 11] (by decide))
  
  refine fin_ret S (results1 Tryd.results26 (RV.tmp S rfl)) ?_
  exact ⟨b35, mb', [_, _, gn, gp, gs, gl], [_, _, gn', gp', gs', gl'], rfl, rfl, ⟨_, _, _, _, told, _, _, _, _, rfl, ⟨⟨xs, hN, hNd⟩, hP, hS, hL⟩⟩, ⟨_, _, _, _, told, _, _, _, _, rfl, ⟨⟨xs, hN', hNd⟩, hP', hS', hL'⟩⟩⟩
end Go.Proofs.YtcjnmehpkcblfaaDoor
