/- The walk of related: the relations of a program. -/
import Derived.Test.YtoaodbclgeeaeaaGreatDoorDeL
namespace Go.Proofs.YtoaodbclgeeaeaaGreatDoor
open Go Go.Wk Go.Un Go.De
set_option linter.unusedSimpArgs false
set_option linter.unusedVariables false
attribute [local irreducible] Go.wpList Go.Code.wp Go.wpStill Go.Wk.wpPre Go.bodyPost Go.Calls Go.Wk.Ct Go.Wk.OwnS
attribute [local irreducible] Go.Wk.wpG Go.Wk.wpM

theorem related1Ct (F : Heap) : CbS F 80 [] [] (fun _ => true) := by
  unfold CbS
  intro F' s hF
  refine Ct.enter Tryz.func80 rfl Tryz.ntmps80 rfl fun w0 a S => ?_
  refine wp_sr fun Kq1 hKq1 => ?_
  (refine wpl_p S ?_; clear S a; intro a S)
  (refine wpList_nil (hKq1 _ _ (wp_sr fun Kq2 hKq2 => ?_)); try clear hKq1 Kq1)
  (refine wpl_p S ?_; clear S a; intro a S)
  (refine wpList_nil (hKq2 _ _ ?_); try clear hKq2 Kq2)
  exact wp_ret (fin_ret S (results1 Tryz.results80 (RV.tmp S rfl)) rfl)
theorem relatedE_cons (ts : List TD) (seen : List (List UInt8)) (x : RD) (r : List RD) : relatedE ts seen (x :: r) = if x.nm ∈ seen ∨ twiceD x.fs = true then 6 else if fieldsE ts (fun _ => true) x.fs ≠ 0 then fieldsE ts (fun _ => true) x.fs else relatedE ts (seen ++ [x.nm]) r := rfl
set_option maxRecDepth 20000 in
set_option maxHeartbeats 16000000 in
theorem relatedCt (F : Heap) (tb m1 m3 : Nat) (ts : List TD) (hT : TyS F tb m1 ts) (hcc : Cel F tb 2 (.map (some m3))) (l : List RD) (v : Value) (h : LiM F 6 RdR v l) (hsz : ∀ x ∈ l, FSz x.fs ∧ x.fs.length ≤ 1000000) :
    Ct Tryz.prog 53 [.pointer (some ⟨tb, 0, none⟩), v] F [[(m3, mObj kS [])]] (fun _ G' u => ErrV (relatedE ts [] l) u ∧ (relatedE ts [] l = 0 → ∃ es, G' = [[(m3, mObj kS es)]] ∧ MapM F RdR RD.nm es l)) := by
  obtain ⟨ao, cap, rfl, hcap, hpos⟩ := h
  refine Ct.enter Tryz.func53 rfl Tryz.ntmps53 rfl fun w0 a S => ?_
  refine wp_sr fun Kq1 hKq1 => ?_
  (refine wpl_p S ?_; clear S a; intro a S)
  (refine wpList_nil (hKq1 _ _ (wp_seq_k fun Kq2 hKq2 => ?_)); try clear hKq1 Kq1)
  refine wp_sr fun Kq3 hKq3 => ?_
  (refine wpl_p S ?_; clear S a; intro a S)
  (refine wpl_n S ?_; clear S a; intro a S)
  (refine wpl_p S ?_; clear S a; intro a S)
  (refine wpList_nil (hKq3 _ _ ?_); try clear hKq3 Kq3)
  refine wp_block ?_
  refine wpc_loop (fun m a w' => ∃ (k : Nat) (es : List (List UInt8 × Value)), m = l.length - k ∧ k ≤ l.length ∧ MapM F RdR RD.nm es (l.take k) ∧ relatedE ts [] l = relatedE ts ((l.take k).map RD.nm) (l.drop k) ∧ St 53 [(0, ptr tb), (10, .slice ao l.length cap), (11, .int .i64 l.length), (12, .int .i64 k)] w0 F [m3] F [[(m3, mObj kS es)]] a w') ?_ ?_
  · (refine ⟨l.length, 0, [], by omega, Nat.zero_le _, trivial, rfl, ?_⟩; refine S.keep ?_; repeat (first | exact trivial | refine ⟨rfl, ?_⟩))
  (clear S; rintro m a w ⟨k, es, rfl, hkl, hm, hfe, S⟩)
  refine wp_sr fun Kq4 hKq4 => ?_
  (refine wpl_p S ?_; clear S a; intro a S)
  (refine wpList_nil (hKq4 _ _ (wp_seq_k fun Kq5 hKq5 => ?_)); try clear hKq4 Kq4)
  refine wpc_split S rfl (fun h => ?_) (fun h => ?_)
  · (skip; (try simp only [tq] at h))
    refine wp_skip ?_
    (refine hKq5 _ _ ?_; try (clear hKq5 Kq5))
    (refine wp_seq_k ?_; intro Kq6 hKq6)
    refine wp_block ?_
    (refine wp_seq_k ?_; intro Kq7 hKq7)
    (obtain ⟨b8, o8, hao, x, cs1, hx, hc1, ⟨v1, rfl, hT1⟩⟩ := LiM.pos hpos (k := k) (by omega); rw [hao] at S; have hT1c := hT1; obtain ⟨a91, c91, rfl, -⟩ := hT1c; have hxsz := hsz x (List.mem_of_getElem? hx); have htk : l.take (k + 1) = l.take k ++ [x] := (by rw [List.take_add_one, hx]; rfl))
    refine wp_region_lit ?_
    (refine wpl_i S ?_; clear S a; intro a S)
    (refine wpl_l S ?_; clear S a; intro a S)
    (refine wpl_al S ?_; clear S a; intro b6 a w S)
    (refine wpl_storeO S rfl rfl rfl rfl rfl (by rfl) (by simp [Value.cells, Value.oneCell', splice]) (by rfl) ?_; clear S; intro w S)
    (refine wpList_nil (hKq7 _ _ (wp_seq_k fun Kq8 hKq8 => ?_)); try clear hKq7 Kq7)
    (refine wp_seq_k ?_; intro Kq9 hKq9)
    (refine wpc_mixM [0, 1, 2, 3, 4, 5, 6, 7, 8, 9] [3, 5, 6] [] (.one 0 (.one 1 (.one 2 (.one 3 (.one 4 (.one 5 (.one 6 (.one 7 (.one 8 (.one 9 (.one 10 (.one 11 (.one 12 .nil))))))))))))) [b6, m3] S mixed (by kernel_rfl) ?_; clear S; intro w S)
    (refine wpm_p S ?_; clear S a; intro a S)
    (refine wpm_s S ?_; clear S a; intro a S)
    (refine wpm_f S ?_; clear S a; intro a S)
    (refine wpm_lateF S rfl rfl rfl (want_none _ rfl) rfl rfl (fun w' S => sv_loadF S rfl rfl hcc) ?_; clear S a; intro a S)
    (refine wpm_f S ?_; clear S a; intro a S)
    (refine wpm_o b6 S ?_; clear S a; intro a S)
    (refine wpm_lateO m3 S rfl rfl rfl (want_none _ rfl) rfl rfl (fun w' S => sv_lookupO (enc := kS) S rfl rfl rfl) ?_; clear S a; intro a S)
    (obtain ⟨y, ac, cc, hgd, -, -, -⟩ := get_rd hm x.nm; rw [if_pos rfl, hgd, hm.mem x.nm] at S)
    iterate 3 (refine wpm_p S ?_; clear S a; intro a S)
    refine wpm_eff rfl rfl (kwa S) ?_
    (refine wpl_al S ?_; clear S a; intro b7 a w S)
    refine wpList_nil ?_
    refine wpm_eff rfl rfl (kwa S) ?_
    (refine wpl_storeO S rfl rfl rfl rfl rfl (by rfl) (by simp [Value.cells, Value.oneCell', splice]) (by rfl) ?_; clear S; intro w S)
    refine wpList_nil ?_
    refine wpm_eff rfl rfl (kwa S) ?_
    (refine wpl_p S ?_; clear S a; intro a S)
    refine wpList_nil ?_
    (refine wpm_nil (kwa S) (hKq9 _ _ (wp_sr fun Kq10 hKq10 => ?_)); try clear hKq9 Kq9)
    iterate 2 (refine wpl_p S ?_; clear S a; intro a S)
    refine wpl_guard S rfl rfl rfl rfl rfl ?_ ?_
    · (intro h S'; clear S; have S := S'; clear S'; (try simp only [tq] at h))
      (refine wpl_f S ?_; clear S a; intro a S)
      refine wpl_take S rfl rfl rfl ?_
      (refine wpl_l S ?_; clear S a; intro a S)
      refine wpl_take S rfl rfl rfl ?_
      (refine wpl_c0 S (twiceCt F x.fs _ hT1 hxsz.2) ?_; clear S a; intro v9 a w hv S; subst hv)
      (refine wpl_p S ?_; clear S a; intro a S)
      (refine wpList_nil (hKq10 _ _ ?_); try clear hKq10 Kq10)
      refine wpc_split S rfl (fun h => ?_) (fun h => ?_)
      · (skip; (try simp only [tq] at h))
        refine wp_sr fun Kq11 hKq11 => ?_
        (refine wpl_f S ?_; clear S a; intro a S)
        (refine wpl_l S ?_; clear S a; intro a S)
        (refine wpl_b S ?_; clear S a; intro a S)
        (refine wpl_s S ?_; clear S a; intro a S)
        (refine wpl_p S ?_; clear S a; intro a S)
        (refine wpList_nil (hKq11 _ _ ?_); try clear hKq11 Kq11)
        refine wp_ret ?_
        (first | (have h9 := hnb; replace S := S.drop1.drop1) | (have h9 := hx; replace S := S.drop1.drop1) | skip)
        refine fin_ret S (results1 Tryz.results53 (RV.tmp S rfl)) ?_
        (first | (have hii : k = l.length := (by omega); have hz : relatedE ts [] l = 0 := (by rw [hfe, List.drop_eq_nil_of_le (by omega)]; rfl); rw [hz]; exact ⟨errV_0, fun _ => ⟨es, rfl, by rw [List.take_of_length_le (by omega)] at hm; exact hm⟩⟩) | (have h9 := hnb; have hne : fieldsE ts (fun _ => true) x.fs ≠ 0 := (by first | assumption | simpa using h); have e9 : relatedE ts [] l = fieldsE ts (fun _ => true) x.fs := (by rw [hfe, drop_at hx, relatedE_cons, if_neg hnb, if_pos hne]); rw [e9]; exact ⟨hv, fun h9 => absurd h9 hne⟩) | (have hb : x.nm ∈ (l.take k).map RD.nm ∨ twiceD x.fs = true := (by simp_all); have e9 : relatedE ts [] l = 6 := (by rw [hfe, drop_at hx, relatedE_cons, if_pos hb]); rw [e9]; exact ⟨errV_of (by decide), fun h9 => absurd h9 (by decide)⟩) | trace_state)
      (skip; (try simp only [tq] at h))
      refine wp_skip ?_
      (refine hKq8 _ _ ?_; try (clear hKq8 Kq8))
      (refine wp_seq_k ?_; intro Kq11 hKq11)
      (have hnb : ¬ (x.nm ∈ (l.take k).map RD.nm ∨ twiceD x.fs = true) := (by rintro (h9 | h9) <;> simp_all); have hms : mSet es x.nm (.agg ⟨[.int .i64 x.l, .int .i64 x.c, .bool x.pub, .bool x.inp, .string (bs x.nm), .slice a91 x.fs.length c91]⟩) = es ++ [(x.nm, .agg ⟨[.int .i64 x.l, .int .i64 x.c, .bool x.pub, .bool x.inp, .string (bs x.nm), .slice a91 x.fs.length c91]⟩)] := mSet_new (by have h9 := hm.mem x.nm; rw [decide_eq_false (fun h8 => hnb (.inl h8))] at h9; exact none_of h9))
      (refine wpc_mixM [0, 1, 2, 3, 4, 5, 6] [3, 5, 6] [] (.one 0 (.one 1 (.one 2 (.one 3 (.one 4 (.one 5 (.one 6 (.one 7 .nil)))))))) [b6] S mixed (by kernel_rfl) ?_; clear S; intro w S)
      (refine wpm_p S ?_; clear S a; intro a S)
      (refine wpm_s S ?_; clear S a; intro a S)
      (refine wpm_f S ?_; clear S a; intro a S)
      (refine wpm_lateF S rfl rfl rfl (want_none _ rfl) rfl rfl (fun w' S => sv_loadF S rfl rfl hcc) ?_; clear S a; intro a S)
      (refine wpm_f S ?_; clear S a; intro a S)
      iterate 2 (refine wpm_o b6 S ?_; clear S a; intro a S)
      refine wpm_eff rfl rfl (kwa S) ?_
      (refine wpl_mapSet (enc := kS) S rfl rfl rfl rfl rfl rfl ?_; clear S; intro w S)
      refine wpList_nil ?_
      (refine wpm_nil (kwa S) (hKq11 _ _ (wp_seq_k fun Kq12 hKq12 => ?_)); try clear hKq11 Kq11)
      (replace S : St _ _ _ _ _ F [_, _, [(m3, mObj kS (mSet es x.nm (.agg ⟨[.int .i64 x.l, .int .i64 x.c, .bool x.pub, .bool x.inp, .string (bs x.nm), .slice a91 x.fs.length c91]⟩)))]] _ _ := S; rw [hms] at S)
      refine wp_region_lit ?_
      (refine wpl_p S ?_; clear S a; intro a S)
      (refine wpl_f S ?_; clear S a; intro a S)
      (refine wpl_l S ?_; clear S a; intro a S)
      (refine wpl_f S ?_; clear S a; intro a S)
      (refine wpl_l S ?_; clear S a; intro a S)
      (refine wpl_c0 S (fieldsCt F tb m1 ts hT x.fs _ hT1 hxsz.1 x.l x.c (fun _ => true) 80 [] [] (related1Ct F)) ?_; clear S a; intro v9 a w hv S)
      (refine wpl_p S ?_; clear S a; intro a S)
      (refine wpList_nil (hKq12 _ _ (wp_sr fun Kq13 hKq13 => ?_)); try clear hKq12 Kq12)
      (refine wpl_p S ?_; clear S a; intro a S)
      (refine wpl_v S rfl rfl rfl (sv_neErr S rfl rfl hv) ?_; clear S a; intro a S)
      (refine wpList_nil (hKq13 _ _ ?_); try clear hKq13 Kq13)
      refine wpc_split S rfl (fun h => ?_) (fun h => ?_)
      · (skip; (try simp only [tq] at h))
        refine wp_sr fun Kq14 hKq14 => ?_
        iterate 2 (refine wpl_p S ?_; clear S a; intro a S)
        (refine wpList_nil (hKq14 _ _ ?_); try clear hKq14 Kq14)
        refine wp_ret ?_
        (first | (have h9 := hnb; replace S := S.drop1.drop1) | (have h9 := hx; replace S := S.drop1.drop1) | skip)
        refine fin_ret S (results1 Tryz.results53 (RV.tmp S rfl)) ?_
        (first | (have hii : k = l.length := (by omega); have hz : relatedE ts [] l = 0 := (by rw [hfe, List.drop_eq_nil_of_le (by omega)]; rfl); rw [hz]; exact ⟨errV_0, fun _ => ⟨es, rfl, by rw [List.take_of_length_le (by omega)] at hm; exact hm⟩⟩) | (have h9 := hnb; have hne : fieldsE ts (fun _ => true) x.fs ≠ 0 := (by first | assumption | simpa using h); have e9 : relatedE ts [] l = fieldsE ts (fun _ => true) x.fs := (by rw [hfe, drop_at hx, relatedE_cons, if_neg hnb, if_pos hne]); rw [e9]; exact ⟨hv, fun h9 => absurd h9 hne⟩) | (have hb : x.nm ∈ (l.take k).map RD.nm ∨ twiceD x.fs = true := (by simp_all); have e9 : relatedE ts [] l = 6 := (by rw [hfe, drop_at hx, relatedE_cons, if_pos hb]); rw [e9]; exact ⟨errV_of (by decide), fun h9 => absurd h9 (by decide)⟩) | trace_state)
      (skip; (try simp only [tq] at h))
      refine wp_skip ?_
      (refine hKq6 _ _ ?_; try (clear hKq6 Kq6))
      refine wp_region_lit ?_
      (refine wpl_a S ?_; clear S a; intro a S)
      (refine wpl_p S ?_; clear S a; intro a S)
      refine wpList_nil ?_
      change ∃ m', _ ∧ _
      (rw [← hao] at S; replace S := S.drop1.drop1; have hz2 : fieldsE ts (fun _ => true) x.fs = 0 := (by first | assumption | omega | (simp_all; done)); refine ⟨l.length - (k + 1), by omega, k + 1, _, rfl, by omega, (by rw [htk]; exact hm.app ⟨_, rfl, hT1⟩), (by rw [hfe, drop_at hx, relatedE_cons, if_neg hnb, if_neg (fun h => h hz2), htk, List.map_append]; rfl), ?_⟩; refine S.keep ?_; repeat (first | exact trivial | refine ⟨rfl, ?_⟩))
    (intro h; clear S a; intro a S; (try simp only [tq] at h))
    iterate 2 (refine wpl_k S ?_; clear S a; intro a S)
    (refine wpl_p S ?_; clear S a; intro a S)
    (refine wpList_nil (hKq10 _ _ ?_); try clear hKq10 Kq10)
    refine wpc_true S rfl ?_
    refine wp_sr fun Kq11 hKq11 => ?_
    (refine wpl_f S ?_; clear S a; intro a S)
    (refine wpl_l S ?_; clear S a; intro a S)
    (refine wpl_b S ?_; clear S a; intro a S)
    (refine wpl_s S ?_; clear S a; intro a S)
    (refine wpl_p S ?_; clear S a; intro a S)
    (refine wpList_nil (hKq11 _ _ ?_); try clear hKq11 Kq11)
    refine wp_ret ?_
    (first | (have h9 := hnb; replace S := S.drop1.drop1) | (have h9 := hx; replace S := S.drop1.drop1) | skip)
    refine fin_ret S (results1 Tryz.results53 (RV.tmp S rfl)) ?_
    (first | (have hii : k = l.length := (by omega); have hz : relatedE ts [] l = 0 := (by rw [hfe, List.drop_eq_nil_of_le (by omega)]; rfl); rw [hz]; exact ⟨errV_0, fun _ => ⟨es, rfl, by rw [List.take_of_length_le (by omega)] at hm; exact hm⟩⟩) | (have h9 := hnb; have hne : fieldsE ts (fun _ => true) x.fs ≠ 0 := (by first | assumption | simpa using h); have e9 : relatedE ts [] l = fieldsE ts (fun _ => true) x.fs := (by rw [hfe, drop_at hx, relatedE_cons, if_neg hnb, if_pos hne]); rw [e9]; exact ⟨hv, fun h9 => absurd h9 hne⟩) | (have hb : x.nm ∈ (l.take k).map RD.nm ∨ twiceD x.fs = true := (by simp_all); have e9 : relatedE ts [] l = 6 := (by rw [hfe, drop_at hx, relatedE_cons, if_pos hb]); rw [e9]; exact ⟨errV_of (by decide), fun h9 => absurd h9 (by decide)⟩) | trace_state)
  (skip; (try simp only [tq] at h))
  refine wp_exit ?_
  (refine hKq2 _ _ ?_; try (clear hKq2 Kq2))
  refine wp_sr fun Kq6 hKq6 => ?_
  (refine wpl_p S ?_; clear S a; intro a S)
  (refine wpList_nil (hKq6 _ _ ?_); try clear hKq6 Kq6)
  refine wp_ret ?_
  (first | (have h9 := hnb; replace S := S.drop1.drop1) | (have h9 := hx; replace S := S.drop1.drop1) | skip)
  refine fin_ret S (results1 Tryz.results53 (RV.tmp S rfl)) ?_
  (first | (have hii : k = l.length := (by omega); have hz : relatedE ts [] l = 0 := (by rw [hfe, List.drop_eq_nil_of_le (by omega)]; rfl); rw [hz]; exact ⟨errV_0, fun _ => ⟨es, rfl, by rw [List.take_of_length_le (by omega)] at hm; exact hm⟩⟩) | (have h9 := hnb; have hne : fieldsE ts (fun _ => true) x.fs ≠ 0 := (by first | assumption | simpa using h); have e9 : relatedE ts [] l = fieldsE ts (fun _ => true) x.fs := (by rw [hfe, drop_at hx, relatedE_cons, if_neg hnb, if_pos hne]); rw [e9]; exact ⟨hv, fun h9 => absurd h9 hne⟩) | (have hb : x.nm ∈ (l.take k).map RD.nm ∨ twiceD x.fs = true := (by simp_all); have e9 : relatedE ts [] l = 6 := (by rw [hfe, drop_at hx, relatedE_cons, if_pos hb]); rw [e9]; exact ⟨errV_of (by decide), fun h9 => absurd h9 (by decide)⟩) | trace_state)
end Go.Proofs.YtoaodbclgeeaeaaGreatDoor
