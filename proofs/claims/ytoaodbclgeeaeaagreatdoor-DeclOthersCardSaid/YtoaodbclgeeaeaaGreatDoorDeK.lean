/- Walks: exprs, body, rule, the rules and the nevers. -/
import Derived.Test.YtoaodbclgeeaeaaGreatDoorDeJ
namespace Go.Proofs.YtoaodbclgeeaeaaGreatDoor
open Go Go.Wk Go.Un Go.De
set_option linter.unusedSimpArgs false
set_option linter.unusedVariables false
attribute [local irreducible] Go.wpList Go.Code.wp Go.wpStill Go.Wk.wpPre Go.bodyPost Go.Calls Go.Wk.Ct Go.Wk.OwnS
attribute [local irreducible] Go.Wk.wpG Go.Wk.wpM

/-- A whole table, in memory that does not turn. -/
structure TabS (F : Heap) (tb m1 m2 m3 : Nat) (ts : List TD) (css : List KC) (rs : List RD) : Prop where
  c : Cels F tb 0 [.map (some m1), .map (some m2), .map (some m3)]
  t : MapS F TdR TD.nm m1 ts
  k : MapS F KcR KC.nm m2 css
  r : MapS F RdR RD.nm m3 rs
theorem TabS.mono {F F' : Heap} {tb m1 m2 m3 : Nat} {ts : List TD} {css : List KC} {rs : List RD} (hF : ∀ b o, F b = some o → F' b = some o) (h : TabS F tb m1 m2 m3 ts css rs) : TabS F' tb m1 m2 m3 ts css rs := ⟨Cels.mono hF h.c, h.t.mono hF, h.k.mono hF, h.r.mono hF⟩
theorem TabS.ty {F : Heap} {tb m1 m2 m3 : Nat} {ts : List TD} {css : List KC} {rs : List RD} (h : TabS F tb m1 m2 m3 ts css rs) : TyS F tb m1 ts := ⟨h.c 0 _ rfl, h.t⟩
def zKC : KC := ⟨[], [], [], 0, []⟩
theorem get_kc {F : Heap} {es : List (List UInt8 × Value)} {cl : List KC} (hm : MapM F KcR KC.nm es cl) (s : List UInt8) :
    ∃ (x : KC) (ap : Option Addr) (cp : Nat) (ac : Option Addr) (cc : Nat), (mGet es s).getD (.agg #[.string { data := #[] }, .slice none 0 0, .int .i64 0, .slice none 0 0]) = .agg ⟨[.string (bs x.ty), .slice ap x.ps.length cp, .int .i64 x.pl, .slice ac x.fs.length cc]⟩ ∧
      LiM F 1 StR (.slice ap x.ps.length cp) x.ps ∧ LiM F 3 FdR (.slice ac x.fs.length cc) x.fs ∧ (findC cl s = some x ∨ findC cl s = none ∧ x = zKC) ∧ (mGet es s).isSome = (findC cl s).isSome := by
  rcases hm.get s with ⟨x, cs, h1, h2, v, u, rfl, h3, h4⟩ | ⟨h1, h2⟩
  · have h3c := h3
    have h4c := h4
    obtain ⟨ap, cp, rfl, -, -⟩ := h3c
    obtain ⟨ac, cc, rfl, -, -⟩ := h4c
    exact ⟨x, ap, cp, ac, cc, by rw [h2]; rfl, h3, h4, .inl h1, by rw [h2]; unfold findC; rw [h1]; rfl⟩
  · exact ⟨zKC, none, 0, none, 0, by rw [h2]; rfl, LiM.nil _ _ _, LiM.nil _ _ _, .inr ⟨h1, rfl⟩, by rw [h2]; unfold findC; rw [h1]; rfl⟩
def zRD : RD := ⟨0, 0, false, false, [], []⟩
theorem get_rd {F : Heap} {es : List (List UInt8 × Value)} {rl : List RD} (hm : MapM F RdR RD.nm es rl) (s : List UInt8) :
    ∃ (x : RD) (ac : Option Addr) (cc : Nat), (mGet es s).getD (.agg #[.int .i64 0, .int .i64 0, .bool false, .bool false, .string { data := #[] }, .slice none 0 0]) = .agg ⟨[.int .i64 x.l, .int .i64 x.c, .bool x.pub, .bool x.inp, .string (bs x.nm), .slice ac x.fs.length cc]⟩ ∧
      LiM F 3 FdR (.slice ac x.fs.length cc) x.fs ∧ (findR rl s = some x ∨ findR rl s = none ∧ x = zRD) ∧ (mGet es s).isSome = (findR rl s).isSome := by
  rcases hm.get s with ⟨x, cs, h1, h2, u, rfl, h4⟩ | ⟨h1, h2⟩
  · have h4c := h4
    obtain ⟨ac, cc, rfl, -, -⟩ := h4c
    exact ⟨x, ac, cc, by rw [h2]; rfl, h4, .inl h1, by rw [h2]; unfold findR; rw [h1]; rfl⟩
  · exact ⟨zRD, none, 0, by rw [h2]; rfl, LiM.nil _ _ _, .inr ⟨h1, rfl⟩, by rw [h2]; unfold findR; rw [h1]; rfl⟩
theorem some_of {α : Type} {o : Option α} {x z : α} (h : o = some x ∨ o = none ∧ x = z) (hs : o.isSome = true) : o = some x := by
  rcases h with h | ⟨h, -⟩
  · exact h
  · rw [h] at hs; cases hs
theorem none_of {α : Type} {o : Option α} (hs : o.isSome = false) : o = none := by cases o with | none => rfl | some x => cases hs
set_option maxRecDepth 20000 in
set_option maxHeartbeats 16000000 in
theorem exprsCt (F : Heap) (tb m1 m2 m3 : Nat) (ts : List TD) (css : List KC) (rs : List RD) (hT : TabS F tb m1 m2 m3 ts css rs) : ∀ (n : Nat) (l : Ef) (v : Value), l.size ≤ n → TrS F 9 EhR v l →
    Ct Tryz.prog 81 [.pointer (some ⟨tb, 0, none⟩), v] F [] (fun _ _ u => ErrV (exprsE css l) u) := by
  intro n
  induction n using Nat.strongRecOn with
  | _ n ih =>
  intro l v hn h
  obtain ⟨ao, cap, rfl, hcap, hpos⟩ := h
  have hcc : Cel F tb 1 (.map (some m2)) := hT.c 1 _ rfl
  obtain ⟨es, hes, hm⟩ := hT.k
  refine Ct.enter Tryz.func81 rfl Tryz.ntmps81 rfl fun w0 a S => ?_
  refine wp_sr fun Kq1 hKq1 => ?_
  (refine wpl_p S ?_; clear S a; intro a S)
  (refine wpList_nil (hKq1 _ _ (wp_seq_k fun Kq2 hKq2 => ?_)); try clear hKq1 Kq1)
  refine wp_sr fun Kq3 hKq3 => ?_
  (refine wpl_p S ?_; clear S a; intro a S)
  (refine wpl_n S ?_; clear S a; intro a S)
  (refine wpl_p S ?_; clear S a; intro a S)
  (refine wpList_nil (hKq3 _ _ ?_); try clear hKq3 Kq3)
  refine wp_block ?_
  refine wpc_loop (fun m a w' => ∃ (k : Nat), m = l.len - k ∧ k ≤ l.len ∧ exprsE css l = exprsE css (l.drop k) ∧ St 56 [(0, ptr tb), (10, .slice ao l.len cap), (11, .int .i64 l.len), (12, .int .i64 k)] w0 F [] F [] a w') ?_ ?_
  · (refine ⟨l.len, 0, by omega, Nat.zero_le _, rfl, ?_⟩; refine S.keep ?_; repeat (first | exact trivial | refine ⟨rfl, ?_⟩))
  (clear S; rintro m a w ⟨k, rfl, hkl, hfe, S⟩)
  refine wp_sr fun Kq4 hKq4 => ?_
  (refine wpl_p S ?_; clear S a; intro a S)
  (refine wpList_nil (hKq4 _ _ (wp_seq_k fun Kq5 hKq5 => ?_)); try clear hKq4 Kq4)
  refine wpc_split S rfl (fun h => ?_) (fun h => ?_)
  · (skip; (try simp only [tq] at h))
    refine wp_skip ?_
    (refine hKq5 _ _ ?_; try (clear hKq5 Kq5))
    (refine wp_seq_k ?_; intro Kq6 hKq6)
    refine wp_block ?_
    (refine wp_seq_k ?_; intro Kq7 hKq7)
    (obtain ⟨b8, o8, hao, x, cs1, v1, hx, hc1, ⟨w9, rfl, hw9⟩, hT1⟩ := TrM.pos hpos (k := k) (by omega); rw [hao] at S; have hxs := Rose.size_get hx; have hT1c := hT1; obtain ⟨a91, c91, rfl, -⟩ := hT1c; have hw9c := hw9; obtain ⟨a92, c92, rfl, -⟩ := hw9c; (simp only [List.cons_append, List.nil_append] at hc1))
    refine wp_region_lit ?_
    (refine wpl_i S ?_; clear S a; intro a S)
    (refine wpl_l S ?_; clear S a; intro a S)
    (refine wpl_al S ?_; clear S a; intro b6 a w S)
    (refine wpl_storeO S rfl rfl rfl rfl rfl (by rfl) (by simp [Value.cells, Value.oneCell', splice]) (by rfl) ?_; clear S; intro w S)
    (refine wpList_nil (hKq7 _ _ (wp_seq_k fun Kq8 hKq8 => ?_)); try clear hKq7 Kq7)
    refine wp_sr fun Kq9 hKq9 => ?_
    (refine wpl_f S ?_; clear S a; intro a S)
    (refine wpl_l S ?_; clear S a; intro a S)
    (refine wpl_p S ?_; clear S a; intro a S)
    (refine wpList_nil (hKq9 _ _ ?_); try clear hKq9 Kq9)
    refine wpc_split S rfl (fun h => ?_) (fun h => ?_)
    · (skip; (try simp only [tq] at h))
      (refine wp_seq_k ?_; intro Kq10 hKq10)
      (refine wpc_mixM [0, 1, 2, 3, 4, 5, 6, 7, 8, 9] [3, 5, 6] [] (.one 0 (.one 1 (.one 2 (.one 3 (.one 4 (.one 5 (.one 6 (.one 7 (.one 8 (.one 9 (.one 10 (.one 11 (.one 12 .nil))))))))))))) [b6] S mixed (by kernel_rfl) ?_; clear S; intro w S)
      (refine wpm_p S ?_; clear S a; intro a S)
      (refine wpm_s S ?_; clear S a; intro a S)
      (refine wpm_f S ?_; clear S a; intro a S)
      (refine wpm_lateF S rfl rfl rfl (want_none _ rfl) rfl rfl (fun w' S => sv_loadF S rfl rfl hcc) ?_; clear S a; intro a S)
      (refine wpm_f S ?_; clear S a; intro a S)
      (refine wpm_o b6 S ?_; clear S a; intro a S)
      (refine wpm_lateF S rfl rfl rfl (want_none _ rfl) rfl rfl (fun w' S => sv_lookupF (enc := kS) S rfl rfl rfl hes) ?_; clear S a; intro a S)
      (obtain ⟨y, ap, cp, ac, cc, hgd, hps, hfs, hy, his⟩ := get_kc hm x.1.nm; rw [if_pos rfl, hgd, his] at S)
      iterate 3 (refine wpm_p S ?_; clear S a; intro a S)
      refine wpm_eff rfl rfl (kwa S) ?_
      (refine wpl_al S ?_; clear S a; intro b7 a w S)
      refine wpList_nil ?_
      refine wpm_eff rfl rfl (kwa S) ?_
      (refine wpl_storeO S rfl rfl rfl rfl rfl (by rfl) (by simp [Value.cells, Value.oneCell', splice]) (by rfl) ?_; clear S; intro w S)
      refine wpList_nil ?_
      refine wpm_eff rfl rfl (kwa S) ?_
      (refine wpl_p S ?_; clear S a; intro a S)
      refine wpList_nil ?_
      (refine wpm_nil (kwa S) (hKq10 _ _ ?_); try clear hKq10 Kq10)
      refine wp_block ?_
      refine wp_sr fun Kq11 hKq11 => ?_
      iterate 3 (refine wpl_p S ?_; clear S a; intro a S)
      (refine wpList_nil (hKq11 _ _ ?_); try clear hKq11 Kq11)
      refine wpc_split S rfl (fun h => ?_) (fun h => ?_)
      · (skip; (try simp only [tq] at h))
        refine wp_sr fun Kq12 hKq12 => ?_
        (refine wpl_f S ?_; clear S a; intro a S)
        (refine wpl_l S ?_; clear S a; intro a S)
        (refine wpl_b S ?_; clear S a; intro a S)
        (refine wpl_s S ?_; clear S a; intro a S)
        (refine wpl_p S ?_; clear S a; intro a S)
        (refine wpList_nil (hKq12 _ _ ?_); try clear hKq12 Kq12)
        refine wp_ret (fin_ret S (results1 Tryz.results81 (RV.tmp S rfl)) ?_)
        (first | (have hz : exprsE css l = 0 := (by rw [hfe, Rose.drop_len (by omega)]; rfl); rw [hz]; exact errV_0) | (have h9 := hz1; have hne : exprsE css x.2 ≠ 0 := (by first | assumption | simpa using h); have e9 : exprsE css l = exprsE css x.2 := (by rw [hfe, Rose.drop_get hx, exprsE_cons, if_neg (fun h => h hz1), if_pos hne]); rw [e9]; exact hv) | (have hz1 : exprE css x.1 x.2.len = 63 := exprE_none (by omega) (none_of (by assumption)); have e9 : exprsE css l = 63 := (by rw [hfe, Rose.drop_get hx, exprsE_cons, hz1]; rfl); rw [e9]; exact errV_of (by decide)) | (have hz1 : exprE css x.1 x.2.len = 70 := (by rw [exprE_some (by omega) (some_of hy (by assumption)), if_pos (by omega)]); have e9 : exprsE css l = 70 := (by rw [hfe, Rose.drop_get hx, exprsE_cons, hz1]; rfl); rw [e9]; exact errV_of (by decide)) | trace_state)
      (skip; (try simp only [tq] at h))
      refine wp_sr fun Kq12 hKq12 => ?_
      (refine wpl_f S ?_; clear S a; intro a S)
      (refine wpl_l S ?_; clear S a; intro a S)
      (refine wpl_n S ?_; clear S a; intro a S)
      (refine wpl_f S ?_; clear S a; intro a S)
      (refine wpl_l S ?_; clear S a; intro a S)
      (refine wpl_n S ?_; clear S a; intro a S)
      iterate 2 (refine wpl_p S ?_; clear S a; intro a S)
      (refine wpList_nil (hKq12 _ _ ?_); try clear hKq12 Kq12)
      refine wpc_split S rfl (fun h => ?_) (fun h => ?_)
      · (skip; (try simp only [tq] at h))
        refine wp_sr fun Kq13 hKq13 => ?_
        (refine wpl_f S ?_; clear S a; intro a S)
        (refine wpl_l S ?_; clear S a; intro a S)
        (refine wpl_b S ?_; clear S a; intro a S)
        (refine wpl_s S ?_; clear S a; intro a S)
        (refine wpl_p S ?_; clear S a; intro a S)
        (refine wpList_nil (hKq13 _ _ ?_); try clear hKq13 Kq13)
        refine wp_ret (fin_ret S (results1 Tryz.results81 (RV.tmp S rfl)) ?_)
        (first | (have hz : exprsE css l = 0 := (by rw [hfe, Rose.drop_len (by omega)]; rfl); rw [hz]; exact errV_0) | (have h9 := hz1; have hne : exprsE css x.2 ≠ 0 := (by first | assumption | simpa using h); have e9 : exprsE css l = exprsE css x.2 := (by rw [hfe, Rose.drop_get hx, exprsE_cons, if_neg (fun h => h hz1), if_pos hne]); rw [e9]; exact hv) | (have hz1 : exprE css x.1 x.2.len = 63 := exprE_none (by omega) (none_of (by assumption)); have e9 : exprsE css l = 63 := (by rw [hfe, Rose.drop_get hx, exprsE_cons, hz1]; rfl); rw [e9]; exact errV_of (by decide)) | (have hz1 : exprE css x.1 x.2.len = 70 := (by rw [exprE_some (by omega) (some_of hy (by assumption)), if_pos (by omega)]); have e9 : exprsE css l = 70 := (by rw [hfe, Rose.drop_get hx, exprsE_cons, hz1]; rfl); rw [e9]; exact errV_of (by decide)) | trace_state)
      (skip; (try simp only [tq] at h))
      refine wp_skip ?_
      (refine hKq8 _ _ ?_; try (clear hKq8 Kq8))
      (refine wp_seq_k ?_; intro Kq13 hKq13)
      (have hz1 : exprE css x.1 x.2.len = 0 := (by first | (exact exprE_no (by omega)) | (rw [exprE_some (by omega) (some_of hy (by assumption)), if_neg (by omega)])))
      refine wp_region_lit ?_
      (refine wpl_p S ?_; clear S a; intro a S)
      (refine wpl_f S ?_; clear S a; intro a S)
      (refine wpl_l S ?_; clear S a; intro a S)
      (refine wpl_c0 S (ih x.2.size (by omega) x.2 _ (Nat.le_refl _) hT1) ?_; clear S a; intro v9 a w hv S)
      (refine wpl_p S ?_; clear S a; intro a S)
      (refine wpList_nil (hKq13 _ _ (wp_sr fun Kq14 hKq14 => ?_)); try clear hKq13 Kq13)
      (refine wpl_p S ?_; clear S a; intro a S)
      (refine wpl_v S rfl rfl rfl (sv_neErr S rfl rfl hv) ?_; clear S a; intro a S)
      (refine wpList_nil (hKq14 _ _ ?_); try clear hKq14 Kq14)
      refine wpc_split S rfl (fun h => ?_) (fun h => ?_)
      · (skip; (try simp only [tq] at h))
        refine wp_sr fun Kq15 hKq15 => ?_
        iterate 2 (refine wpl_p S ?_; clear S a; intro a S)
        (refine wpList_nil (hKq15 _ _ ?_); try clear hKq15 Kq15)
        refine wp_ret (fin_ret S (results1 Tryz.results81 (RV.tmp S rfl)) ?_)
        (first | (have hz : exprsE css l = 0 := (by rw [hfe, Rose.drop_len (by omega)]; rfl); rw [hz]; exact errV_0) | (have h9 := hz1; have hne : exprsE css x.2 ≠ 0 := (by first | assumption | simpa using h); have e9 : exprsE css l = exprsE css x.2 := (by rw [hfe, Rose.drop_get hx, exprsE_cons, if_neg (fun h => h hz1), if_pos hne]); rw [e9]; exact hv) | (have hz1 : exprE css x.1 x.2.len = 63 := exprE_none (by omega) (none_of (by assumption)); have e9 : exprsE css l = 63 := (by rw [hfe, Rose.drop_get hx, exprsE_cons, hz1]; rfl); rw [e9]; exact errV_of (by decide)) | (have hz1 : exprE css x.1 x.2.len = 70 := (by rw [exprE_some (by omega) (some_of hy (by assumption)), if_pos (by omega)]); have e9 : exprsE css l = 70 := (by rw [hfe, Rose.drop_get hx, exprsE_cons, hz1]; rfl); rw [e9]; exact errV_of (by decide)) | trace_state)
      (skip; (try simp only [tq] at h))
      refine wp_skip ?_
      (refine hKq6 _ _ ?_; try (clear hKq6 Kq6))
      refine wp_region_lit ?_
      (refine wpl_a S ?_; clear S a; intro a S)
      (refine wpl_p S ?_; clear S a; intro a S)
      refine wpList_nil ?_
      change ∃ m', _ ∧ _
      (rw [← hao] at S; (first | (replace S := S.drop1.drop1) | (replace S := S.drop1)); have hz2 : exprsE css x.2 = 0 := (by first | assumption | omega | (simp_all; done)); refine ⟨l.len - (k + 1), by omega, k + 1, rfl, by omega, by rw [hfe, Rose.drop_get hx, exprsE_cons, if_neg (fun h => h hz1), if_neg (fun h => h hz2)], ?_⟩; refine S.keep ?_; repeat (first | exact trivial | refine ⟨rfl, ?_⟩))
    (skip; (try simp only [tq] at h))
    refine wp_skip ?_
    (refine hKq8 _ _ ?_; try (clear hKq8 Kq8))
    (refine wp_seq_k ?_; intro Kq10 hKq10)
    (have hz1 : exprE css x.1 x.2.len = 0 := (by first | (exact exprE_no (by omega)) | (rw [exprE_some (by omega) (some_of hy (by assumption)), if_neg (by omega)])))
    refine wp_region_lit ?_
    (refine wpl_p S ?_; clear S a; intro a S)
    (refine wpl_f S ?_; clear S a; intro a S)
    (refine wpl_l S ?_; clear S a; intro a S)
    (refine wpl_c0 S (ih x.2.size (by omega) x.2 _ (Nat.le_refl _) hT1) ?_; clear S a; intro v9 a w hv S)
    (refine wpl_p S ?_; clear S a; intro a S)
    (refine wpList_nil (hKq10 _ _ (wp_sr fun Kq11 hKq11 => ?_)); try clear hKq10 Kq10)
    (refine wpl_p S ?_; clear S a; intro a S)
    (refine wpl_v S rfl rfl rfl (sv_neErr S rfl rfl hv) ?_; clear S a; intro a S)
    (refine wpList_nil (hKq11 _ _ ?_); try clear hKq11 Kq11)
    refine wpc_split S rfl (fun h => ?_) (fun h => ?_)
    · (skip; (try simp only [tq] at h))
      refine wp_sr fun Kq12 hKq12 => ?_
      iterate 2 (refine wpl_p S ?_; clear S a; intro a S)
      (refine wpList_nil (hKq12 _ _ ?_); try clear hKq12 Kq12)
      refine wp_ret (fin_ret S (results1 Tryz.results81 (RV.tmp S rfl)) ?_)
      (first | (have hz : exprsE css l = 0 := (by rw [hfe, Rose.drop_len (by omega)]; rfl); rw [hz]; exact errV_0) | (have h9 := hz1; have hne : exprsE css x.2 ≠ 0 := (by first | assumption | simpa using h); have e9 : exprsE css l = exprsE css x.2 := (by rw [hfe, Rose.drop_get hx, exprsE_cons, if_neg (fun h => h hz1), if_pos hne]); rw [e9]; exact hv) | (have hz1 : exprE css x.1 x.2.len = 63 := exprE_none (by omega) (none_of (by assumption)); have e9 : exprsE css l = 63 := (by rw [hfe, Rose.drop_get hx, exprsE_cons, hz1]; rfl); rw [e9]; exact errV_of (by decide)) | (have hz1 : exprE css x.1 x.2.len = 70 := (by rw [exprE_some (by omega) (some_of hy (by assumption)), if_pos (by omega)]); have e9 : exprsE css l = 70 := (by rw [hfe, Rose.drop_get hx, exprsE_cons, hz1]; rfl); rw [e9]; exact errV_of (by decide)) | trace_state)
    (skip; (try simp only [tq] at h))
    refine wp_skip ?_
    (refine hKq6 _ _ ?_; try (clear hKq6 Kq6))
    refine wp_region_lit ?_
    (refine wpl_a S ?_; clear S a; intro a S)
    (refine wpl_p S ?_; clear S a; intro a S)
    refine wpList_nil ?_
    change ∃ m', _ ∧ _
    (rw [← hao] at S; (first | (replace S := S.drop1.drop1) | (replace S := S.drop1)); have hz2 : exprsE css x.2 = 0 := (by first | assumption | omega | (simp_all; done)); refine ⟨l.len - (k + 1), by omega, k + 1, rfl, by omega, by rw [hfe, Rose.drop_get hx, exprsE_cons, if_neg (fun h => h hz1), if_neg (fun h => h hz2)], ?_⟩; refine S.keep ?_; repeat (first | exact trivial | refine ⟨rfl, ?_⟩))
  (skip; (try simp only [tq] at h))
  refine wp_exit ?_
  (refine hKq2 _ _ ?_; try (clear hKq2 Kq2))
  refine wp_sr fun Kq6 hKq6 => ?_
  (refine wpl_p S ?_; clear S a; intro a S)
  (refine wpList_nil (hKq6 _ _ ?_); try clear hKq6 Kq6)
  refine wp_ret (fin_ret S (results1 Tryz.results81 (RV.tmp S rfl)) ?_)
  (first | (have hz : exprsE css l = 0 := (by rw [hfe, Rose.drop_len (by omega)]; rfl); rw [hz]; exact errV_0) | (have h9 := hz1; have hne : exprsE css x.2 ≠ 0 := (by first | assumption | simpa using h); have e9 : exprsE css l = exprsE css x.2 := (by rw [hfe, Rose.drop_get hx, exprsE_cons, if_neg (fun h => h hz1), if_pos hne]); rw [e9]; exact hv) | (have hz1 : exprE css x.1 x.2.len = 63 := exprE_none (by omega) (none_of (by assumption)); have e9 : exprsE css l = 63 := (by rw [hfe, Rose.drop_get hx, exprsE_cons, hz1]; rfl); rw [e9]; exact errV_of (by decide)) | (have hz1 : exprE css x.1 x.2.len = 70 := (by rw [exprE_some (by omega) (some_of hy (by assumption)), if_pos (by omega)]); have e9 : exprsE css l = 70 := (by rw [hfe, Rose.drop_get hx, exprsE_cons, hz1]; rfl); rw [e9]; exact errV_of (by decide)) | trace_state)
end Go.Proofs.YtoaodbclgeeaeaaGreatDoor
