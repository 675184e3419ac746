/- The walks of sized, of its function for each part, of May; slices.ContainsFunc over types. -/
import Derived.Test.YtcjnmehpkcblfaaDoorUnB
namespace Go.Proofs.YtcjnmehpkcblfaaDoor
open Go Go.Wk Go.Un
set_option linter.unusedSimpArgs false
set_option linter.unusedVariables false
attribute [local irreducible] Go.wpList Go.Code.wp Go.wpStill Go.Wk.wpPre Go.bodyPost Go.Calls Go.Wk.Ct Go.Wk.OwnS
attribute [local irreducible] Go.Wk.wpG Go.Wk.wpM

/-- The first of them of which it is said; a number goes along. -/
def findP (p : List UInt8 → Fo → Int → Bool × Int) : Fo → Int → Bool × Int
  | .nil, n => (false, n)
  | .cons nm ar r, n => if (p nm ar n).1 = true then (true, (p nm ar n).2) else findP p r (p nm ar n).2
theorem findP_cons (p : List UInt8 → Fo → Int → Bool × Int) (nm : List UInt8) (ar r : Fo) (n : Int) : findP p (.cons nm ar r) n = if (p nm ar n).1 = true then (true, (p nm ar n).2) else findP p r (p nm ar n).2 := rfl
abbrev G3 (db pb lb : Nat) (d n : Int) : List Grp := [[(db, .cells ⟨[.int .i64 d]⟩ 3 (0, 0))], [(pb, .cells ⟨[.pointer (some ⟨lb, 0, none⟩)]⟩ 61 (0, 0))], [(lb, .cells ⟨[.int .i64 n]⟩ 3 (0, 0))]]

set_option maxHeartbeats 2000000 in
theorem indexFuncCt (F : Heap) (l : Fo) (v : Value) (h : SlF F v l) (fid : FuncId) (fi ca : List Value) [hfn : HasFn Tryd.prog fid] (Gn : Int → List Grp) (p : List UInt8 → Fo → Int → Bool × Int)
    (Ok : Int → Prop) (hok : ∀ k x n, l.get? k = some x → Ok n → (p x.1 x.2 n).1 = false → Ok (p x.1 x.2 n).2)
    (hcl : ∀ k x v1 n, l.get? k = some x → SlF F v1 x.2 → Ok n → Ct Tryd.prog fid (fi ++ [.agg ⟨[.string (bs x.1), v1]⟩] ++ ca) F (Gn n) (fun _ G' u => u = .bool (p x.1 x.2 n).1 ∧ G' = Gn (p x.1 x.2 n).2)) (n0 : Int) (hn0 : Ok n0) :
    Ct Tryd.prog 47 [v, .func (.func fid) ⟨fi⟩ ⟨ca⟩] F (Gn n0) (fun _ G' u => ∃ i : Int, u = .int .i64 i ∧ decide (0 ≤ i) = (findP p l n0).1 ∧ G' = Gn (findP p l n0).2) := by
  obtain ⟨ao, cap, rfl, hcap, hpos⟩ := h
  refine Ct.enter Tryd.func47 rfl Tryd.ntmps47 rfl fun w0 a S => ?_
  (refine wp_seq_k ?_; intro Kq1 hKq1)
  refine wp_region_lit ?_
  (refine wpl_v S rfl rfl rfl (sv_pure S rfl) ?_; clear S a; intro a S)
  refine wpList_nil ?_
  (refine hKq1 _ _ ?_; try (clear hKq1 Kq1))
  (refine wp_seq_k ?_; intro Kq2 hKq2)
  (refine wp_seq_k ?_; intro Kq3 hKq3)
  refine wp_region_lit ?_
  (refine wpl_v S rfl rfl rfl (sv_pure S rfl) ?_; clear S a; intro a S)
  (refine wpl_v S rfl rfl rfl (sv_lenSl S rfl rfl) ?_; clear S a; intro a S)
  (refine wpl_v S rfl rfl rfl (sv_pure S rfl) ?_; clear S a; intro a S)
  refine wpList_nil ?_
  (refine hKq3 _ _ ?_; try (clear hKq3 Kq3))
  refine wp_block ?_
  refine wpc_loop (fun m a w' => ∃ (k : Nat) (q : Int), m = l.len - k ∧ k ≤ l.len ∧ Ok q ∧ findP p l n0 = findP p (l.drop k) q ∧ St 19 [(0, .slice ao l.len cap), (1, .func (.func fid) ⟨fi⟩ ⟨ca⟩), (7, .int .i64 l.len), (8, .int .i64 k)] w0 F (keys (Gn n0)) F (Gn q) a w') ?_ ?_
  · (refine ⟨l.len, 0, n0, by omega, Nat.zero_le _, hn0, rfl, ?_⟩; refine S.keep ?_; repeat (first | exact trivial | refine ⟨rfl, ?_⟩))
  · (clear S; rintro m a w ⟨k, q, rfl, hkl, hq, hfp, S⟩)
    (refine wp_seq_k ?_; intro Kq4 hKq4)
    refine wp_region_lit ?_
    (refine wpl_v S rfl rfl rfl (sv_pure S rfl) ?_; clear S a; intro a S)
    refine wpList_nil ?_
    (refine hKq4 _ _ ?_; try (clear hKq4 Kq4))
    (refine wp_seq_k ?_; intro Kq5 hKq5)
    refine wpc_split S rfl (fun h => ?_) (fun h => ?_)
    · (skip; (try simp only [decide_eq_true_eq, decide_eq_false_iff_not, beq_iff_eq, bne_iff_ne, bne_eq_false_iff_eq, beq_eq_false_iff_ne, ne_eq, Bool.not_eq_true', Bool.not_eq_false', Bool.not_eq_true, Bool.not_eq_false, Bool.not_true, Bool.not_false, Int.ofNat_lt, Int.ofNat_le, Nat.not_lt, Nat.not_le] at h))
      refine wp_skip ?_
      (refine hKq5 _ _ ?_; try (clear hKq5 Kq5))
      (refine wp_seq_k ?_; intro Kq6 hKq6)
      refine wp_block ?_
      (refine wp_seq_k ?_; intro Kq7 hKq7)
      refine wp_region_lit ?_
      (refine wpl_v S rfl rfl rfl (sv_pure S rfl) ?_; clear S a; intro a S)
      (refine wpl_v S rfl rfl rfl (sv_pure S rfl) ?_; clear S a; intro a S)
      refine wpList_nil ?_
      (refine hKq7 _ _ ?_; try (clear hKq7 Kq7))
      (refine wp_seq_k ?_; intro Kq8 hKq8)
      (obtain ⟨b8, o8, rfl, x, v1, hx, hc1, hT1⟩ := FoM.pos hpos (k := k) (by omega))
      refine wp_region_lit ?_
      (refine wpl_v S rfl rfl rfl (sv_pure S rfl) ?_; clear S a; intro a S)
      (refine wpl_v S rfl rfl rfl (sv_pure S rfl) ?_; clear S a; intro a S)
      (refine wpl_v S rfl rfl rfl (sv_pure S rfl) ?_; clear S a; intro a S)
      (refine wpl_v S rfl rfl rfl (sv_indexAddrSl S rfl rfl rfl (by first | omega | (simp only [List.length_append, List.length_cons, List.length_nil]; omega))) ?_; clear S a; intro a S)
      first | (refine wpl_v S rfl rfl rfl (sv_loadAO S rfl rfl (by rfl)) ?_; clear S a; intro a S) | (refine wpl_v S rfl rfl rfl (sv_loadAF S rfl rfl (by assumption) (by rfl)) ?_; clear S a; intro a S)
      (refine wpl_callOwn (Gs := Gn q) (Gr := []) S rfl rfl rfl rfl rfl rfl (hcl k x v1 q hx hT1 hq) rfl (by simp) ?_; clear S a; intro u9 G9 a w hv S; obtain ⟨rfl, rfl⟩ := hv; rw [List.append_nil] at S)
      refine wpList_nil ?_
      (refine hKq8 _ _ ?_; try (clear hKq8 Kq8))
      refine wpc_split S rfl (fun h => ?_) (fun h => ?_)
      · (skip; (try simp only [decide_eq_true_eq, decide_eq_false_iff_not, beq_iff_eq, bne_iff_ne, bne_eq_false_iff_eq, beq_eq_false_iff_ne, ne_eq, Bool.not_eq_true', Bool.not_eq_false', Bool.not_eq_true, Bool.not_eq_false, Bool.not_true, Bool.not_false, Int.ofNat_lt, Int.ofNat_le, Nat.not_lt, Nat.not_le] at h))
        (refine wp_seq_k ?_; intro Kq9 hKq9)
        refine wp_region_lit ?_
        (refine wpl_v S rfl rfl rfl (sv_pure S rfl) ?_; clear S a; intro a S)
        (refine wpl_v S rfl rfl rfl (sv_pure S rfl) ?_; clear S a; intro a S)
        refine wpList_nil ?_
        (refine hKq9 _ _ ?_; try (clear hKq9 Kq9))
        refine wp_ret ?_
        refine fin_ret S (results1 Tryd.results47 (RV.tmp S rfl)) ?_
        (first | (have hpf : (p x.1 x.2 q).1 = true := (by assumption); have e9 : findP p l n0 = (true, (p x.1 x.2 q).2) := (by rw [hfp, Fo.drop_get hx]; rw [findP_cons, if_pos hpf]); rw [e9]; exact ⟨_, rfl, by simp, rfl⟩) | (have e9 : findP p l n0 = (false, q) := (by rw [hfp, Fo.drop_len (by omega)]; rfl); rw [e9]; exact ⟨_, rfl, by simp, rfl⟩) | trace_state)
      · (skip; (try simp only [decide_eq_true_eq, decide_eq_false_iff_not, beq_iff_eq, bne_iff_ne, bne_eq_false_iff_eq, beq_eq_false_iff_ne, ne_eq, Bool.not_eq_true', Bool.not_eq_false', Bool.not_eq_true, Bool.not_eq_false, Bool.not_true, Bool.not_false, Int.ofNat_lt, Int.ofNat_le, Nat.not_lt, Nat.not_le] at h))
        refine wp_skip ?_
        (refine hKq6 _ _ ?_; try (clear hKq6 Kq6))
        refine wp_region_lit ?_
        (refine wpl_v S rfl rfl rfl (sv_add S rfl rfl rfl (by first | omega | (simp only [List.length_append, List.length_cons, List.length_nil]; omega))) ?_; clear S a; intro a S)
        (refine wpl_v S rfl rfl rfl (sv_pure S rfl) ?_; clear S a; intro a S)
        refine wpList_nil ?_
        change ∃ m', _ ∧ _
        (refine ⟨l.len - (k + 1), by omega, k + 1, (p x.1 x.2 q).2, rfl, by omega, hok k x q hx hq (by assumption), ?_, ?_⟩; rotate_left 1; (refine S.keep ?_; repeat (first | exact trivial | refine ⟨rfl, ?_⟩)); rw [hfp, Fo.drop_get hx]; rw [findP_cons, if_neg (by have hpf : (p x.1 x.2 q).1 = false := (by assumption); rw [hpf]; simp)])
    · (skip; (try simp only [decide_eq_true_eq, decide_eq_false_iff_not, beq_iff_eq, bne_iff_ne, bne_eq_false_iff_eq, beq_eq_false_iff_ne, ne_eq, Bool.not_eq_true', Bool.not_eq_false', Bool.not_eq_true, Bool.not_eq_false, Bool.not_true, Bool.not_false, Int.ofNat_lt, Int.ofNat_le, Nat.not_lt, Nat.not_le] at h))
      refine wp_exit ?_
      (refine hKq2 _ _ ?_; try (clear hKq2 Kq2))
      (refine wp_seq_k ?_; intro Kq6 hKq6)
      refine wp_region_lit ?_
      (refine wpl_v S rfl rfl rfl (sv_pure S rfl) ?_; clear S a; intro a S)
      refine wpList_nil ?_
      (refine hKq6 _ _ ?_; try (clear hKq6 Kq6))
      refine wp_ret ?_
      refine fin_ret S (results1 Tryd.results47 (RV.tmp S rfl)) ?_
      (first | (have hpf : (p x.1 x.2 q).1 = true := (by assumption); have e9 : findP p l n0 = (true, (p x.1 x.2 q).2) := (by rw [hfp, Fo.drop_get hx]; rw [findP_cons, if_pos hpf]); rw [e9]; exact ⟨_, rfl, by simp, rfl⟩) | (have e9 : findP p l n0 = (false, q) := (by rw [hfp, Fo.drop_len (by omega)]; rfl); rw [e9]; exact ⟨_, rfl, by simp, rfl⟩) | trace_state)

theorem St.rot {n : Sz} {L : List (Nat × Value)} {w0 : World} {F0 : Heap} {K0 : List Nat} {F : Heap} {g : Grp} {G : List Grp} {a : Act} {w : World} (S : St n L w0 F0 K0 F ([g] ++ G) a w) : St n L w0 F0 K0 F (G ++ [g]) a w :=
  ⟨S.fr, S.tr.perm (by rw [List.flatten_append, List.flatten_append]; exact List.perm_append_comm)⟩
theorem containsFuncCt (F : Heap) (l : Fo) (v : Value) (h : SlF F v l) (fid : FuncId) (fi ca : List Value) [hfn : HasFn Tryd.prog fid] (Gn : Int → List Grp) (p : List UInt8 → Fo → Int → Bool × Int)
    (Ok : Int → Prop) (hok : ∀ k x n, l.get? k = some x → Ok n → (p x.1 x.2 n).1 = false → Ok (p x.1 x.2 n).2)
    (hcl : ∀ k x v1 n, l.get? k = some x → SlF F v1 x.2 → Ok n → Ct Tryd.prog fid (fi ++ [.agg ⟨[.string (bs x.1), v1]⟩] ++ ca) F (Gn n) (fun _ G' u => u = .bool (p x.1 x.2 n).1 ∧ G' = Gn (p x.1 x.2 n).2)) (n0 : Int) (hn0 : Ok n0) :
    Ct Tryd.prog 31 [v, .func (.func fid) ⟨fi⟩ ⟨ca⟩] F (Gn n0) (fun _ G' u => u = .bool (findP p l n0).1 ∧ G' = Gn (findP p l n0).2) := by
  have hc := indexFuncCt F l v h fid fi ca Gn p Ok hok hcl n0 hn0
  obtain ⟨ao, cap, rfl, hcap, hpos⟩ := h
  refine Ct.enter Tryd.func31 rfl Tryd.ntmps31 rfl fun w0 a S => ?_
  (refine wp_seq_k ?_; intro Kq1 hKq1)
  refine wp_region_lit ?_
  (refine wpl_v S rfl rfl rfl (sv_pure S rfl) ?_; clear S a; intro a S)
  refine wpList_nil ?_
  (refine hKq1 _ _ ?_; try (clear hKq1 Kq1))
  (refine wp_seq_k ?_; intro Kq2 hKq2)
  refine wp_region_lit ?_
  (refine wpl_v S rfl rfl rfl (sv_pure S rfl) ?_; clear S a; intro a S)
  (refine wpl_v S rfl rfl rfl (sv_pure S rfl) ?_; clear S a; intro a S)
  (refine wpl_callOwn (Gs := Gn n0) (Gr := []) S rfl rfl rfl rfl rfl rfl hc rfl (by simp) ?_; clear S a; intro u9 G9 a w hv S; obtain ⟨i9, rfl, hi9, rfl⟩ := hv; rw [List.append_nil] at S)
  (refine wpl_v S rfl rfl rfl (sv_pure S rfl) ?_; clear S a; intro a S)
  (refine wpl_v S rfl rfl rfl (sv_pure S rfl) ?_; clear S a; intro a S)
  refine wpList_nil ?_
  (refine hKq2 _ _ ?_; try (clear hKq2 Kq2))
  refine wp_ret ?_
  refine fin_ret S (results1 Tryd.results31 (RV.tmp S rfl)) ?_
  exact ⟨by rw [← hi9], rfl⟩
theorem findP_sized (d : Int) : ∀ (l : Fo) (n : Int), findP (fun nm ar n => (!(sizedT nm ar d n).1, (sizedT nm ar d n).2)) l n = (!(sizedL l d n).1, (sizedL l d n).2)
  | .nil, n => rfl
  | .cons nm ar r, n => by
    rw [findP_cons, sizedL_cons, findP_sized d r]
    cases (sizedT nm ar d n).1 <;> rfl
/-- What sized does, where it does so for all that are smaller. -/
def SizedCt (F : Heap) (m : Nat) : Prop := ∀ (nm : List UInt8) (ar : Fo) (cs : List Value) (d n : Int) (lb : Nat), ar.size < m → TyC F cs nm ar → 0 ≤ d → d ≤ 100 → -100000 ≤ n → n ≤ 100000 → Ct Tryd.prog 30 [.agg ⟨cs⟩, .int .i64 d, .pointer (some ⟨lb, 0, none⟩)] F [[(lb, .cells ⟨[.int .i64 n]⟩ 3 (0, 0))]] (fun _ G' u => u = .bool (sizedT nm ar d n).1 ∧ G' = [[(lb, .cells ⟨[.int .i64 (sizedT nm ar d n).2]⟩ 3 (0, 0))]])
set_option maxHeartbeats 2000000 in
theorem sized1Ct (F : Heap) (m : Nat) (ih : SizedCt F m) (nm : List UInt8) (ar : Fo) (v1 : Value) (d n : Int) (db pb lb : Nat) (hm : ar.size < m) (h : SlF F v1 ar) (hd : 0 ≤ d) (hd2 : d < 100) (hn : -100000 ≤ n) (hn2 : n ≤ 100000) :
    Ct Tryd.prog 46 ([] ++ [.agg ⟨[.string (bs nm), v1]⟩] ++ [.pointer (some ⟨db, 0, none⟩), .pointer (some ⟨pb, 0, none⟩)]) F (G3 db pb lb d n) (fun _ G' u => u = .bool (!(sizedT nm ar (d + 1) n).1) ∧ G' = G3 db pb lb d (sizedT nm ar (d + 1) n).2) := by
  have hT : TyC F [.string (bs nm), v1] nm ar := ⟨v1, rfl, h⟩
  obtain ⟨ao, cap, rfl, -, -⟩ := h
  refine Ct.enter Tryd.func46 rfl Tryd.ntmps46 rfl fun w0 a S => ?_
  (refine wp_seq_k ?_; intro Kq1 hKq1)
  refine wp_region_lit ?_
  (refine wpl_box S rfl rfl rfl rfl rfl ?_; clear S a; intro b3 a w S)
  (refine wpl_v S rfl rfl rfl (sv_pure S rfl) ?_; clear S a; intro a S)
  refine wpList_nil ?_
  (refine hKq1 _ _ ?_; try (clear hKq1 Kq1))
  (refine wp_seq_k ?_; intro Kq2 hKq2)
  refine wp_region_lit ?_
  first | (refine wpl_v S rfl rfl rfl (sv_loadAO S rfl rfl (by rfl)) ?_; clear S a; intro a S) | (refine wpl_v S rfl rfl rfl (sv_loadAF S rfl rfl (by assumption) (by rfl)) ?_; clear S a; intro a S)
  first | (refine wpl_v S rfl rfl rfl (sv_loadO S rfl rfl (by rfl)) ?_; clear S a; intro a S) | (refine wpl_v S rfl rfl rfl (sv_loadF S rfl rfl (by assumption)) ?_; clear S a; intro a S)
  (refine wpl_v S rfl rfl rfl (sv_add S rfl rfl rfl (by first | omega | (simp only [List.length_append, List.length_cons, List.length_nil]; omega))) ?_; clear S a; intro a S)
  first | (refine wpl_v S rfl rfl rfl (sv_loadO S rfl rfl (by rfl)) ?_; clear S a; intro a S) | (refine wpl_v S rfl rfl rfl (sv_loadF S rfl rfl (by assumption)) ?_; clear S a; intro a S)
  (refine wpl_callOwn (Gs := [[(lb, .cells ⟨[.int .i64 n]⟩ 3 (0, 0))]]) (Gr := [[(b3, .cells ⟨[.string (bs nm), .slice ao ar.len cap]⟩ 36 (0, 0))], [(db, .cells ⟨[.int .i64 d]⟩ 3 (0, 0))], [(pb, .cells ⟨[.pointer (some ⟨lb, 0, none⟩)]⟩ 61 (0, 0))]]) S rfl rfl rfl rfl rfl rfl (ih nm ar _ (d + 1) n lb hm hT (by omega) (by omega) hn hn2) rfl (by exact List.perm_append_comm (l₁ := [_, _, _]) (l₂ := [_])) ?_; clear S a; intro u9 G9 a w hv S; obtain ⟨rfl, rfl⟩ := hv; replace S := (St.rot S).drop1)
  (refine wpl_v S rfl rfl rfl (sv_pure S rfl) ?_; clear S a; intro a S)
  (refine wpl_v S rfl rfl rfl (sv_pure S rfl) ?_; clear S a; intro a S)
  refine wpList_nil ?_
  (refine hKq2 _ _ ?_; try (clear hKq2 Kq2))
  refine wp_ret ?_
  refine fin_ret S (results1 Tryd.results46 (RV.tmp S rfl)) ?_
  exact ⟨rfl, rfl⟩

theorem St.head1 {n : Sz} {L : List (Nat × Value)} {w0 : World} {F0 : Heap} {K0 : List Nat} {F : Heap} {g : Grp} {G : List Grp} {a : Act} {w : World} (S : St n L w0 F0 K0 F (g :: G) a w) : St n L w0 F0 K0 F [g] a w :=
  ⟨S.fr, S.tr.sub (by rw [List.flatten_cons, List.flatten_cons, List.flatten_nil, List.append_nil]; exact List.sublist_append_left _ _)⟩
theorem sizedL_pos : ∀ {l : Fo} {d n : Int}, 0 ≤ n → (sizedL l d n).1 = true → 0 ≤ (sizedL l d n).2
  | .nil, d, n, h, _ => h
  | .cons nm ar r, d, n, h, h2 => by
    rw [sizedL_cons] at h2 ⊢
    split at h2
    · rename_i h3
      rw [if_pos h3]
      refine sizedL_pos ?_ h2
      unfold sizedT at h3 ⊢
      split at h3
      · cases h3
      · rename_i h4
        rw [if_neg h4]
        have h5 : 0 ≤ n - 1 := by rcases Int.lt_or_le (n - 1) 0 with h | h; exact absurd (.inl h) h4; exact h
        split at h3
        · rename_i h6; rw [if_pos h6]; exact h5
        · rename_i h6; rw [if_neg h6]; exact sizedL_pos h5 h3
    · cases h2
theorem sizedT_pos {nm : List UInt8} {ar : Fo} {d n : Int} (h3 : (sizedT nm ar d n).1 = true) : 0 ≤ (sizedT nm ar d n).2 := by
  unfold sizedT at h3 ⊢
  split at h3
  · cases h3
  · rename_i h4
    rw [if_neg h4]
    have h5 : 0 ≤ n - 1 := by rcases Int.lt_or_le (n - 1) 0 with h | h; exact absurd (.inl h) h4; exact h
    split at h3
    · rename_i h6; rw [if_pos h6]; exact h5
    · rename_i h6; rw [if_neg h6]; exact sizedL_pos h5 h3
theorem sizedT_out {nm : List UInt8} {ar : Fo} {d n : Int} (h : n - 1 < 0 ∨ 64 < d ∨ nm = []) : sizedT nm ar d n = (false, n - 1) := if_pos h
theorem sizedT_var {nm : List UInt8} {ar : Fo} {d n : Int} (h : ¬ (n - 1 < 0 ∨ 64 < d ∨ nm = [])) (h2 : (nm.getD 0 0).toNat = 39) : sizedT nm ar d n = (varT nm ar, n - 1) := by unfold sizedT; rw [if_neg h, if_pos h2]
theorem sizedT_in {nm : List UInt8} {ar : Fo} {d n : Int} (h : ¬ (n - 1 < 0 ∨ 64 < d ∨ nm = [])) (h2 : ¬ (nm.getD 0 0).toNat = 39) : sizedT nm ar d n = sizedL ar (d + 1) (n - 1) := by unfold sizedT; rw [if_neg h, if_neg h2]
set_option maxHeartbeats 4000000 in
theorem sizedCt (F : Heap) : ∀ m, SizedCt F m := by
  intro m
  induction m with
  | zero => intro nm ar cs d n lb hm; omega
  | succ m ihm =>
  intro nm ar cs d n lb hm hT hd hd2 hn hn2
  have ih1 := sized1Ct F m ihm
  have hT0 := hT
  obtain ⟨v, rfl, hsl⟩ := hT
  have hsl0 := hsl
  obtain ⟨ao, cap, rfl, hcap, hpos⟩ := hsl
  refine Ct.enter Tryd.func30 rfl Tryd.ntmps30 rfl fun w0 a S => ?_
  (refine wp_seq_k ?_; intro Kq1 hKq1)
  refine wp_region_lit ?_
  (refine wpl_box S rfl rfl rfl rfl rfl ?_; clear S a; intro b3 a w S)
  (refine wpl_box S rfl rfl rfl rfl rfl ?_; clear S a; intro b4 a w S)
  (refine wpl_box S rfl rfl rfl rfl rfl ?_; clear S a; intro b5 a w S)
  (refine wpl_v S rfl rfl rfl (sv_pure S rfl) ?_; clear S a; intro a S)
  refine wpList_nil ?_
  (refine hKq1 _ _ ?_; try (clear hKq1 Kq1))
  (refine wp_seq_k ?_; intro Kq2 hKq2)
  refine wp_region_lit ?_
  first | (refine wpl_v S rfl rfl rfl (sv_loadO S rfl rfl (by rfl)) ?_; clear S a; intro a S) | (refine wpl_v S rfl rfl rfl (sv_loadF S rfl rfl (by assumption)) ?_; clear S a; intro a S)
  (refine wpl_v S rfl rfl rfl (sv_nilCheck S rfl rfl) ?_; clear S a; intro a S)
  first | (refine wpl_v S rfl rfl rfl (sv_loadO S rfl rfl (by rfl)) ?_; clear S a; intro a S) | (refine wpl_v S rfl rfl rfl (sv_loadF S rfl rfl (by assumption)) ?_; clear S a; intro a S)
  (refine wpl_v S rfl rfl rfl (sv_sub S rfl rfl rfl (by first | omega | exact List.length_pos_iff.2 (by assumption))) ?_; clear S a; intro a S)
  (refine wpl_v S rfl rfl rfl (sv_nilCheck S rfl rfl) ?_; clear S a; intro a S)
  (refine wpl_store1 S rfl rfl rfl rfl rfl rfl (by first | (simp; done) | (simp [Value.cells]; done) | exact Nat.le_of_ble_eq_true rfl) ?_; clear S; intro w S)
  refine wpList_nil ?_
  (refine hKq2 _ _ ?_; try (clear hKq2 Kq2))
  (refine wp_seq_k ?_; intro Kq3 hKq3)
  refine wp_block ?_
  (refine wp_seq_k ?_; intro Kq4 hKq4)
  refine wp_region_lit ?_
  first | (refine wpl_v S rfl rfl rfl (sv_loadO S rfl rfl (by rfl)) ?_; clear S a; intro a S) | (refine wpl_v S rfl rfl rfl (sv_loadF S rfl rfl (by assumption)) ?_; clear S a; intro a S)
  (refine wpl_v S rfl rfl rfl (sv_nilCheck S rfl rfl) ?_; clear S a; intro a S)
  first | (refine wpl_v S rfl rfl rfl (sv_loadO S rfl rfl (by rfl)) ?_; clear S a; intro a S) | (refine wpl_v S rfl rfl rfl (sv_loadF S rfl rfl (by assumption)) ?_; clear S a; intro a S)
  (refine wpl_v S rfl rfl rfl (sv_pure S rfl) ?_; clear S a; intro a S)
  (refine wpl_v S rfl rfl rfl (sv_pure S rfl) ?_; clear S a; intro a S)
  refine wpl_guard S rfl rfl rfl rfl rfl ?_ ?_
  · (intro h S'; clear S; have S := S'; clear S'; (try simp only [decide_eq_true_eq, decide_eq_false_iff_not, beq_iff_eq, bne_iff_ne, bne_eq_false_iff_eq, beq_eq_false_iff_ne, ne_eq, Bool.not_eq_true', Bool.not_eq_false', Bool.not_eq_true, Bool.not_eq_false, Bool.not_true, Bool.not_false, Int.ofNat_lt, Int.ofNat_le, Nat.not_lt, Nat.not_le] at h))
    first | (refine wpl_v S rfl rfl rfl (sv_loadO S rfl rfl (by rfl)) ?_; clear S a; intro a S) | (refine wpl_v S rfl rfl rfl (sv_loadF S rfl rfl (by assumption)) ?_; clear S a; intro a S)
    refine wpl_take S rfl rfl rfl ?_
    (refine wpl_v S rfl rfl rfl (sv_pure S rfl) ?_; clear S a; intro a S)
    first | (refine wpl_v S rfl rfl rfl (sv_pure S rfl) ?_; clear S a; intro a S) | (refine wpl_v S rfl rfl rfl (sv_pickB S rfl rfl rfl rfl) ?_; clear S a; intro a S)
    (refine wpl_v S rfl rfl rfl (sv_pure S rfl) ?_; clear S a; intro a S)
    refine wpl_guard S rfl rfl rfl rfl rfl ?_ ?_
    · (intro h S'; clear S; have S := S'; clear S'; (try simp only [decide_eq_true_eq, decide_eq_false_iff_not, beq_iff_eq, bne_iff_ne, bne_eq_false_iff_eq, beq_eq_false_iff_ne, ne_eq, Bool.not_eq_true', Bool.not_eq_false', Bool.not_eq_true, Bool.not_eq_false, Bool.not_true, Bool.not_false, Int.ofNat_lt, Int.ofNat_le, Nat.not_lt, Nat.not_le] at h))
      (refine wpl_v S rfl rfl rfl (sv_fieldAddr S rfl rfl rfl inferInstance rfl) ?_; clear S a; intro a S)
      refine wpl_take S rfl rfl rfl ?_
      first | (refine wpl_v S rfl rfl rfl (sv_loadO S rfl rfl (by rfl)) ?_; clear S a; intro a S) | (refine wpl_v S rfl rfl rfl (sv_loadF S rfl rfl (by assumption)) ?_; clear S a; intro a S)
      refine wpl_take S rfl rfl rfl ?_
      (refine wpl_v S rfl rfl rfl (sv_pure S rfl) ?_; clear S a; intro a S)
      first | (refine wpl_v S rfl rfl rfl (sv_pure S rfl) ?_; clear S a; intro a S) | (refine wpl_v S rfl rfl rfl (sv_pickB S rfl rfl rfl rfl) ?_; clear S a; intro a S)
      (refine wpl_v S rfl rfl rfl (sv_pure S rfl) ?_; clear S a; intro a S)
      refine wpList_nil ?_
      (refine hKq4 _ _ ?_; try (clear hKq4 Kq4))
      refine wpc_split S rfl (fun h => ?_) (fun h => ?_)
      · (skip; (try simp only [decide_eq_true_eq, decide_eq_false_iff_not, beq_iff_eq, bne_iff_ne, bne_eq_false_iff_eq, beq_eq_false_iff_ne, ne_eq, Bool.not_eq_true', Bool.not_eq_false', Bool.not_eq_true, Bool.not_eq_false, Bool.not_true, Bool.not_false, Int.ofNat_lt, Int.ofNat_le, Nat.not_lt, Nat.not_le] at h))
        (refine wp_seq_k ?_; intro Kq5 hKq5)
        refine wp_region_lit ?_
        (refine wpl_v S rfl rfl rfl (sv_pure S rfl) ?_; clear S a; intro a S)
        refine wpList_nil ?_
        (refine hKq5 _ _ ?_; try (clear hKq5 Kq5))
        refine wp_ret ?_
        (first | (have S9 : St _ _ _ _ _ F [[(lb, _)]] _ _ := S.drop1.drop1.drop1; replace S := S9; clear S9) | (have S9 : St _ _ _ _ _ F [[(lb, _)]] _ _ := St.head1 S.drop1.drop1; replace S := S9; clear S9))
        
        refine fin_ret S (results1 Tryd.results30 (RV.tmp S rfl)) ?_
        (first | (rw [sizedT_out (by first | exact .inl (by omega) | exact .inr (.inl (by omega)) | exact .inr (.inr (by assumption)))]; exact ⟨rfl, rfl⟩) | (rw [sizedT_var (by rintro (h | h | h) <;> first | omega | contradiction) (by omega)]; exact ⟨rfl, rfl⟩) | (rw [sizedT_in hnot hn39]; exact ⟨by simp, rfl⟩) | trace_state)
      · (skip; (try simp only [decide_eq_true_eq, decide_eq_false_iff_not, beq_iff_eq, bne_iff_ne, bne_eq_false_iff_eq, beq_eq_false_iff_ne, ne_eq, Bool.not_eq_true', Bool.not_eq_false', Bool.not_eq_true, Bool.not_eq_false, Bool.not_true, Bool.not_false, Int.ofNat_lt, Int.ofNat_le, Nat.not_lt, Nat.not_le] at h))
        (refine wp_seq_k ?_; intro Kq5 hKq5)
        refine wp_region_lit ?_
        (refine wpl_v S rfl rfl rfl (sv_fieldAddr S rfl rfl rfl inferInstance rfl) ?_; clear S a; intro a S)
        first | (refine wpl_v S rfl rfl rfl (sv_loadO S rfl rfl (by rfl)) ?_; clear S a; intro a S) | (refine wpl_v S rfl rfl rfl (sv_loadF S rfl rfl (by assumption)) ?_; clear S a; intro a S)
        (refine wpl_v S rfl rfl rfl (sv_indexSN (i := 0) S rfl rfl rfl (by first | omega | exact List.length_pos_iff.2 (by assumption))) ?_; clear S a; intro a S)
        (refine wpl_v S rfl rfl rfl (sv_pure S rfl) ?_; clear S a; intro a S)
        (refine wpl_v S rfl rfl rfl (sv_pure S rfl) ?_; clear S a; intro a S)
        refine wpList_nil ?_
        (refine hKq5 _ _ ?_; try (clear hKq5 Kq5))
        refine wpc_split S rfl (fun h => ?_) (fun h => ?_)
        · (skip; (try simp only [decide_eq_true_eq, decide_eq_false_iff_not, beq_iff_eq, bne_iff_ne, bne_eq_false_iff_eq, beq_eq_false_iff_ne, ne_eq, Bool.not_eq_true', Bool.not_eq_false', Bool.not_eq_true, Bool.not_eq_false, Bool.not_true, Bool.not_false, Int.ofNat_lt, Int.ofNat_le, Nat.not_lt, Nat.not_le] at h))
          (refine wp_seq_k ?_; intro Kq6 hKq6)
          refine wp_region_lit ?_
          first | (refine wpl_v S rfl rfl rfl (sv_loadAO S rfl rfl (by rfl)) ?_; clear S a; intro a S) | (refine wpl_v S rfl rfl rfl (sv_loadAF S rfl rfl (by assumption) (by rfl)) ?_; clear S a; intro a S)
          (refine wpl_call0 S rfl rfl rfl rfl rfl rfl (isVarCt nm ar _ F hT0) rfl ?_; clear S a; intro v a w hv S; subst hv)
          (refine wpl_v S rfl rfl rfl (sv_pure S rfl) ?_; clear S a; intro a S)
          refine wpList_nil ?_
          (refine hKq6 _ _ ?_; try (clear hKq6 Kq6))
          refine wp_ret ?_
          (first | (have S9 : St _ _ _ _ _ F [[(lb, _)]] _ _ := S.drop1.drop1.drop1; replace S := S9; clear S9) | (have S9 : St _ _ _ _ _ F [[(lb, _)]] _ _ := St.head1 S.drop1.drop1; replace S := S9; clear S9))
          
          refine fin_ret S (results1 Tryd.results30 (RV.tmp S rfl)) ?_
          (first | (rw [sizedT_out (by first | exact .inl (by omega) | exact .inr (.inl (by omega)) | exact .inr (.inr (by assumption)))]; exact ⟨rfl, rfl⟩) | (rw [sizedT_var (by rintro (h | h | h) <;> first | omega | contradiction) (by omega)]; exact ⟨rfl, rfl⟩) | (rw [sizedT_in hnot hn39]; exact ⟨by simp, rfl⟩) | trace_state)
        · (skip; (try simp only [decide_eq_true_eq, decide_eq_false_iff_not, beq_iff_eq, bne_iff_ne, bne_eq_false_iff_eq, beq_eq_false_iff_ne, ne_eq, Bool.not_eq_true', Bool.not_eq_false', Bool.not_eq_true, Bool.not_eq_false, Bool.not_true, Bool.not_false, Int.ofNat_lt, Int.ofNat_le, Nat.not_lt, Nat.not_le] at h))
          refine wp_skip ?_
          (refine hKq3 _ _ ?_; try (clear hKq3 Kq3))
          (refine wp_seq_k ?_; intro Kq6 hKq6)
          (have hnot : ¬ (n - 1 < 0 ∨ 64 < d ∨ nm = []) := (by rintro (h | h | h) <;> first | omega | contradiction); have hn39 : ¬ (nm.getD 0 0).toNat = 39 := (by omega); have hcf := containsFuncCt F ar _ hsl0 46 [] [.pointer (some ⟨b4, 0, none⟩), .pointer (some ⟨b5, 0, none⟩)] (fun n => G3 b4 b5 lb d n) (fun nm ar n => (!(sizedT nm ar (d + 1) n).1, (sizedT nm ar (d + 1) n).2)) (fun q => 0 ≤ q ∧ q ≤ 100000) (fun k x q hx hq hp => ⟨sizedT_pos (by simpa using hp), (by have := sizedT_le x.1 x.2 (d + 1) q; show (sizedT x.1 x.2 (d + 1) q).2 ≤ 100000; omega)⟩) (fun k x v1 q hx h1 hq => ih1 x.1 x.2 v1 d q b4 b5 lb (by have := Fo.size_get hx; omega) h1 (by omega) (by omega) (by omega) (by omega)) (n - 1) ⟨by omega, by omega⟩; rw [findP_sized] at hcf)
          refine wp_region_lit ?_
          (refine wpl_v S rfl rfl rfl (sv_fieldAddr S rfl rfl rfl inferInstance rfl) ?_; clear S a; intro a S)
          first | (refine wpl_v S rfl rfl rfl (sv_loadO S rfl rfl (by rfl)) ?_; clear S a; intro a S) | (refine wpl_v S rfl rfl rfl (sv_loadF S rfl rfl (by assumption)) ?_; clear S a; intro a S)
          (refine wpl_v S rfl rfl rfl (sv_pure S rfl) ?_; clear S a; intro a S)
          (refine wpl_callOwn (Gs := G3 b4 b5 lb d (n - 1)) (Gr := [[(b3, .cells ⟨[.string (bs nm), .slice ao ar.len cap]⟩ 36 (0, 0))]]) S rfl rfl rfl rfl rfl rfl hcf rfl (by exact (List.Perm.swap _ _ _).trans (.cons _ (.cons _ (.swap _ _ _)))) ?_; clear S a; intro u9 G9 a w hv S; obtain ⟨rfl, rfl⟩ := hv)
          (refine wpl_v S rfl rfl rfl (sv_pure S rfl) ?_; clear S a; intro a S)
          (refine wpl_v S rfl rfl rfl (sv_pure S rfl) ?_; clear S a; intro a S)
          refine wpList_nil ?_
          (refine hKq6 _ _ ?_; try (clear hKq6 Kq6))
          refine wp_ret ?_
          (first | (have S9 : St _ _ _ _ _ F [[(lb, _)]] _ _ := S.drop1.drop1.drop1; replace S := S9; clear S9) | (have S9 : St _ _ _ _ _ F [[(lb, _)]] _ _ := St.head1 S.drop1.drop1; replace S := S9; clear S9))
          
          refine fin_ret S (results1 Tryd.results30 (RV.tmp S rfl)) ?_
          (first | (rw [sizedT_out (by first | exact .inl (by omega) | exact .inr (.inl (by omega)) | exact .inr (.inr (by assumption)))]; exact ⟨rfl, rfl⟩) | (rw [sizedT_var (by rintro (h | h | h) <;> first | omega | contradiction) (by omega)]; exact ⟨rfl, rfl⟩) | (rw [sizedT_in hnot hn39]; exact ⟨by simp, rfl⟩) | trace_state)
    · (intro h; clear S a; intro a S; (try simp only [decide_eq_true_eq, decide_eq_false_iff_not, beq_iff_eq, bne_iff_ne, bne_eq_false_iff_eq, beq_eq_false_iff_ne, ne_eq, Bool.not_eq_true', Bool.not_eq_false', Bool.not_eq_true, Bool.not_eq_false, Bool.not_true, Bool.not_false, Int.ofNat_lt, Int.ofNat_le, Nat.not_lt, Nat.not_le] at h))
      (refine wpl_skip S rfl rfl rfl rfl rfl ?_; clear S a; intro a S)
      (refine wpl_skip S rfl rfl rfl rfl rfl ?_; clear S a; intro a S)
      first | (refine wpl_v S rfl rfl rfl (sv_pure S rfl) ?_; clear S a; intro a S) | (refine wpl_v S rfl rfl rfl (sv_pickB S rfl rfl rfl rfl) ?_; clear S a; intro a S)
      (refine wpl_v S rfl rfl rfl (sv_pure S rfl) ?_; clear S a; intro a S)
      refine wpList_nil ?_
      (refine hKq4 _ _ ?_; try (clear hKq4 Kq4))
      refine wpc_true S rfl ?_
      (refine wp_seq_k ?_; intro Kq5 hKq5)
      refine wp_region_lit ?_
      (refine wpl_v S rfl rfl rfl (sv_pure S rfl) ?_; clear S a; intro a S)
      refine wpList_nil ?_
      (refine hKq5 _ _ ?_; try (clear hKq5 Kq5))
      refine wp_ret ?_
      (first | (have S9 : St _ _ _ _ _ F [[(lb, _)]] _ _ := S.drop1.drop1.drop1; replace S := S9; clear S9) | (have S9 : St _ _ _ _ _ F [[(lb, _)]] _ _ := St.head1 S.drop1.drop1; replace S := S9; clear S9))
      
      refine fin_ret S (results1 Tryd.results30 (RV.tmp S rfl)) ?_
      (first | (rw [sizedT_out (by first | exact .inl (by omega) | exact .inr (.inl (by omega)) | exact .inr (.inr (by assumption)))]; exact ⟨rfl, rfl⟩) | (rw [sizedT_var (by rintro (h | h | h) <;> first | omega | contradiction) (by omega)]; exact ⟨rfl, rfl⟩) | (rw [sizedT_in hnot hn39]; exact ⟨by simp, rfl⟩) | trace_state)
  · (intro h; clear S a; intro a S; (try simp only [decide_eq_true_eq, decide_eq_false_iff_not, beq_iff_eq, bne_iff_ne, bne_eq_false_iff_eq, beq_eq_false_iff_ne, ne_eq, Bool.not_eq_true', Bool.not_eq_false', Bool.not_eq_true, Bool.not_eq_false, Bool.not_true, Bool.not_false, Int.ofNat_lt, Int.ofNat_le, Nat.not_lt, Nat.not_le] at h))
    (refine wpl_skip S rfl rfl rfl rfl rfl ?_; clear S a; intro a S)
    first | (refine wpl_v S rfl rfl rfl (sv_pure S rfl) ?_; clear S a; intro a S) | (refine wpl_v S rfl rfl rfl (sv_pickB S rfl rfl rfl rfl) ?_; clear S a; intro a S)
    (refine wpl_v S rfl rfl rfl (sv_pure S rfl) ?_; clear S a; intro a S)
    (refine wpl_skip S rfl rfl rfl rfl rfl ?_; clear S a; intro a S)
    (refine wpl_skip S rfl rfl rfl rfl rfl ?_; clear S a; intro a S)
    (refine wpl_skip S rfl rfl rfl rfl rfl ?_; clear S a; intro a S)
    first | (refine wpl_v S rfl rfl rfl (sv_pure S rfl) ?_; clear S a; intro a S) | (refine wpl_v S rfl rfl rfl (sv_pickB S rfl rfl rfl rfl) ?_; clear S a; intro a S)
    (refine wpl_v S rfl rfl rfl (sv_pure S rfl) ?_; clear S a; intro a S)
    refine wpList_nil ?_
    (refine hKq4 _ _ ?_; try (clear hKq4 Kq4))
    refine wpc_true S rfl ?_
    (refine wp_seq_k ?_; intro Kq5 hKq5)
    refine wp_region_lit ?_
    (refine wpl_v S rfl rfl rfl (sv_pure S rfl) ?_; clear S a; intro a S)
    refine wpList_nil ?_
    (refine hKq5 _ _ ?_; try (clear hKq5 Kq5))
    refine wp_ret ?_
    (first | (have S9 : St _ _ _ _ _ F [[(lb, _)]] _ _ := S.drop1.drop1.drop1; replace S := S9; clear S9) | (have S9 : St _ _ _ _ _ F [[(lb, _)]] _ _ := St.head1 S.drop1.drop1; replace S := S9; clear S9))
    
    refine fin_ret S (results1 Tryd.results30 (RV.tmp S rfl)) ?_
    (first | (rw [sizedT_out (by first | exact .inl (by omega) | exact .inr (.inl (by omega)) | exact .inr (.inr (by assumption)))]; exact ⟨rfl, rfl⟩) | (rw [sizedT_var (by rintro (h | h | h) <;> first | omega | contradiction) (by omega)]; exact ⟨rfl, rfl⟩) | (rw [sizedT_in hnot hn39]; exact ⟨by simp, rfl⟩) | trace_state)

theorem mayCt (F : Heap) (nm : List UInt8) (ar : Fo) (cs : List Value) (h : TyC F cs nm ar) : Ct Tryd.prog 15 [.agg ⟨cs⟩] F [] (fun _ _ u => u = .bool (may nm ar)) := by
  have h0 := h
  obtain ⟨v, rfl, ao, cap, rfl, hcap, hpos⟩ := h
  refine Ct.enter Tryd.func15 rfl Tryd.ntmps15 rfl fun w0 a S => ?_
  (refine wp_seq_k ?_; intro Kq1 hKq1)
  refine wp_region_lit ?_
  (refine wpl_box S rfl rfl rfl rfl rfl ?_; clear S a; intro b1 a w S)
  (refine wpl_v S rfl rfl rfl (sv_pure S rfl) ?_; clear S a; intro a S)
  refine wpList_nil ?_
  (refine hKq1 _ _ ?_; try (clear hKq1 Kq1))
  (refine wp_seq_k ?_; intro Kq2 hKq2)
  refine wp_region_lit ?_
  (refine wpl_alloc S rfl rfl rfl rfl ?_; clear S a; intro b3 a w S)
  (refine wpl_store1 S rfl rfl rfl rfl rfl rfl (by first | (simp; done) | (simp [Value.cells]; done) | exact Nat.le_of_ble_eq_true rfl) ?_; clear S; intro w S)
  refine wpList_nil ?_
  (refine hKq2 _ _ ?_; try (clear hKq2 Kq2))
  (refine wp_seq_k ?_; intro Kq3 hKq3)
  refine wp_region_lit ?_
  first | (refine wpl_v S rfl rfl rfl (sv_loadAO S rfl rfl (by rfl)) ?_; clear S a; intro a S) | (refine wpl_v S rfl rfl rfl (sv_loadAF S rfl rfl (by assumption) (by rfl)) ?_; clear S a; intro a S)
  (refine wpl_callOwn (Gs := [[(b3, .cells ⟨[.int .i64 2048]⟩ 3 (0, 0))]]) (Gr := [[(b1, .cells ⟨[.string (bs nm), .slice ao ar.len cap]⟩ 36 (0, 0))]]) S rfl rfl rfl rfl rfl rfl (sizedCt F (ar.size + 1) nm ar _ 1 2048 b3 (by omega) h0 (by omega) (by omega) (by omega) (by omega)) rfl (by exact List.Perm.refl _) ?_; clear S a; intro u9 G9 a w hv S; obtain ⟨rfl, rfl⟩ := hv)
  (refine wpl_v S rfl rfl rfl (sv_pure S rfl) ?_; clear S a; intro a S)
  refine wpList_nil ?_
  (refine hKq3 _ _ ?_; try (clear hKq3 Kq3))
  refine wp_ret ?_
  refine fin_ret S (results1 Tryd.results15 (RV.tmp S rfl)) ?_
  rfl
end Go.Proofs.YtcjnmehpkcblfaaDoor
