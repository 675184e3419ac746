/- The walk of take: a whole program. -/
import Derived.Test.YtoaodbclgeeaeaaGreatDoorDeO
namespace Go.Proofs.YtoaodbclgeeaeaaGreatDoor
open Go Go.Wk Go.Un Go.De
set_option linter.unusedSimpArgs false
set_option linter.unusedVariables false
attribute [local irreducible] Go.wpList Go.Code.wp Go.wpStill Go.Wk.wpPre Go.bodyPost Go.Calls Go.Wk.Ct Go.Wk.OwnS
attribute [local irreducible] Go.Wk.wpG Go.Wk.wpM

theorem rulesE_cons (css : List KC) (rs : List RD) (x : RU) (r : List RU) : rulesE css rs (x :: r) = if ruleE css rs x ≠ 0 then ruleE css rs x else rulesE css rs r := rfl
theorem neversE_cons (css : List KC) (rs : List RD) (x : NV) (r : List NV) : neversE css rs (x :: r) = if bodyE css rs x.body ≠ 0 then bodyE css rs x.body else neversE css rs r := rfl
def RSz (l : List RD) : Prop := ∀ x ∈ l, FSz x.fs ∧ x.fs.length ≤ 1000000
set_option maxRecDepth 20000 in
set_option maxHeartbeats 32000000 in
theorem takeCt (F : Heap) (tb m1 m2 m3 : Nat) (hcc : Cels F tb 0 [.map (some m1), .map (some m2), .map (some m3)]) (M : MD) (cs : List Value) (h : MdR F M cs) (hts : TSz M.ts) (hrs : RSz M.rs) :
    Ct Tryz.prog 40 [.pointer (some ⟨tb, 0, none⟩), .agg ⟨cs⟩] F [[(m1, mObj kS [])], [(m2, mObj kS [])], [(m3, mObj kS [])]] (fun F' G' u => ErrV (takeE M) u ∧ (takeE M = 0 → TabS F' tb m1 m2 m3 M.ts (consOf M.ts) M.rs)) := by
  obtain ⟨i1, i2, i3, v1, v2, v3, v4, rfl, h1, h2, h3, h4⟩ := h
  have h1c := h1
  obtain ⟨ao1, cap1, rfl, -, -⟩ := h1c
  have h2c := h2
  obtain ⟨ao2, cap2, rfl, -, -⟩ := h2c
  obtain ⟨ao3, cap3, rfl, hcap3, hpos3⟩ := h3
  obtain ⟨ao4, cap4, rfl, hcap4, hpos4⟩ := h4
  have hc3 : Cel F tb 2 (.map (some m3)) := hcc 2 _ rfl
  refine Ct.enter Tryz.func40 rfl Tryz.ntmps40 rfl fun w0 a S => ?_
  refine wp_sr fun Kq1 hKq1 => ?_
  (refine wpl_bx S ?_; clear S a; intro b3 a w S)
  (refine wpl_p S ?_; clear S a; intro a S)
  (refine wpList_nil (hKq1 _ _ (wp_seq_k fun Kq2 hKq2 => ?_)); try clear hKq1 Kq1)
  refine wp_sr fun Kq3 hKq3 => ?_
  (refine wpl_p S ?_; clear S a; intro a S)
  (refine wpl_f S ?_; clear S a; intro a S)
  (refine wpl_l S ?_; clear S a; intro a S)
  (refine wpl_call (Gs := [[(m1, mObj kS [])], [(m2, mObj kS [])]]) (Gr := [[(m3, mObj kS [])], [(b3, _)]]) S rfl rfl rfl rfl rfl rfl (typedCt F tb m1 m2 m3 hcc M.ts _ h1 hts) rfl (by exact List.perm_append_comm (l₁ := [_]) (l₂ := [_, _, _])) ?_; clear S a; intro u9 F1 G1 a w hv hF1 S; replace S : St _ _ _ _ _ F1 ([(m3, mObj kS [])] :: [(b3, _)] :: G1) _ _ := St.rotG S)
  (refine wpl_p S ?_; clear S a; intro a S)
  (refine wpList_nil (hKq3 _ _ (wp_sr fun Kq4 hKq4 => ?_)); try clear hKq3 Kq3)
  (refine wpl_p S ?_; clear S a; intro a S)
  (refine wpl_v S rfl rfl rfl (sv_neErr S rfl rfl hv.1) ?_; clear S a; intro a S)
  (refine wpList_nil (hKq4 _ _ ?_); try clear hKq4 Kq4)
  refine wpc_split S rfl (fun h => ?_) (fun h => ?_)
  · (skip; (try simp only [tq] at h))
    refine wp_sr fun Kq5 hKq5 => ?_
    iterate 2 (refine wpl_p S ?_; clear S a; intro a S)
    (refine wpList_nil (hKq5 _ _ ?_); try clear hKq5 Kq5)
    refine wp_ret (fin_ret S (results1 Tryz.results40 (RV.tmp S rfl)) ?_)
    (first | (have h9 := hfe2; have hzr : rulesE (consOf M.ts) M.rs M.ru = 0 := (by rw [hfe, List.drop_eq_nil_of_le (by omega)]; rfl); first | (have hne : bodyE (consOf M.ts) M.rs x.body ≠ 0 := (by first | assumption | simpa using h); have e1 : neversE (consOf M.ts) M.rs M.nv = bodyE (consOf M.ts) M.rs x.body := (by rw [hfe2, drop_at hx, neversE_cons, if_pos hne]); have e9 : takeE M = bodyE (consOf M.ts) M.rs x.body := (by unfold takeE; rw [if_neg (fun h => h hz1), if_neg (fun h => h hz2), if_neg (fun h => h hzr), e1]); rw [e9]; exact ⟨hv9, fun h9 => absurd h9 hne⟩) | (have e1 : neversE (consOf M.ts) M.rs M.nv = 0 := (by rw [hfe2, List.drop_eq_nil_of_le (by omega)]; rfl); have e9 : takeE M = 0 := (by unfold takeE; rw [if_neg (fun h => h hz1), if_neg (fun h => h hz2), if_neg (fun h => h hzr), e1]); rw [e9]; exact ⟨errV_0, fun _ => hT⟩)) | (have h9 := hfe; have hne : ruleE (consOf M.ts) M.rs x ≠ 0 := (by first | assumption | simpa using h); have e1 : rulesE (consOf M.ts) M.rs M.ru = ruleE (consOf M.ts) M.rs x := (by rw [hfe, drop_at hx, rulesE_cons, if_pos hne]); have e9 : takeE M = ruleE (consOf M.ts) M.rs x := (by unfold takeE; rw [if_neg (fun h => h hz1), if_neg (fun h => h hz2), if_pos (by rw [e1]; exact hne), e1]); rw [e9]; exact ⟨hv9, fun h9 => absurd h9 hne⟩) | (have h9 := hTy; have hne : relatedE M.ts [] M.rs ≠ 0 := (by first | assumption | simpa using h); have e9 : takeE M = relatedE M.ts [] M.rs := (by unfold takeE; rw [if_neg (fun h => h hz1), if_pos hne]); rw [e9]; exact ⟨hv2.1, fun h9 => absurd h9 hne⟩) | (have hne : typedE M.ts ≠ 0 := (by first | assumption | simpa using h); have e9 : takeE M = typedE M.ts := (by unfold takeE; rw [if_pos hne]); rw [e9]; exact ⟨hv.1, fun h9 => absurd h9 hne⟩) | trace_state)
  (skip; (try simp only [tq] at h))
  refine wp_skip ?_
  (refine hKq2 _ _ ?_; try (clear hKq2 Kq2))
  (refine wp_seq_k ?_; intro Kq5 hKq5)
  (refine wp_seq_k ?_; intro Kq6 hKq6)
  (have hz1 : typedE M.ts = 0 := (by first | assumption | simpa using h); obtain ⟨rfl, hM1, hM2⟩ := hv.2 hz1; have hTy : TyS F1 tb m1 M.ts := ⟨(hcc 0 _ rfl : Cel F tb 0 _).mono hF1, hM1⟩)
  refine wp_region_lit ?_
  (refine wpl_p S ?_; clear S a; intro a S)
  (refine wpl_f S ?_; clear S a; intro a S)
  (refine wpl_l S ?_; clear S a; intro a S)
  (refine wpl_call (Gs := [[(m3, mObj kS [])]]) (Gr := [[(b3, _)]]) S rfl rfl rfl rfl rfl rfl (relatedCt F1 tb m1 m3 M.ts hTy (hc3.mono hF1) M.rs _ (h2.mono hF1) hrs) rfl (by exact List.Perm.refl _) ?_; clear S a; intro u8 F2 G2 a w hv2 hF2 S; replace S : St _ _ _ _ _ F2 ([(b3, _)] :: G2) _ _ := St.rotG S)
  (refine wpl_p S ?_; clear S a; intro a S)
  (refine wpList_nil (hKq6 _ _ (wp_sr fun Kq7 hKq7 => ?_)); try clear hKq6 Kq6)
  (refine wpl_p S ?_; clear S a; intro a S)
  (refine wpl_v S rfl rfl rfl (sv_neErr S rfl rfl hv2.1) ?_; clear S a; intro a S)
  (refine wpList_nil (hKq7 _ _ ?_); try clear hKq7 Kq7)
  refine wpc_split S rfl (fun h => ?_) (fun h => ?_)
  · (skip; (try simp only [tq] at h))
    refine wp_sr fun Kq8 hKq8 => ?_
    iterate 2 (refine wpl_p S ?_; clear S a; intro a S)
    (refine wpList_nil (hKq8 _ _ ?_); try clear hKq8 Kq8)
    refine wp_ret (fin_ret S (results1 Tryz.results40 (RV.tmp S rfl)) ?_)
    (first | (have h9 := hfe2; have hzr : rulesE (consOf M.ts) M.rs M.ru = 0 := (by rw [hfe, List.drop_eq_nil_of_le (by omega)]; rfl); first | (have hne : bodyE (consOf M.ts) M.rs x.body ≠ 0 := (by first | assumption | simpa using h); have e1 : neversE (consOf M.ts) M.rs M.nv = bodyE (consOf M.ts) M.rs x.body := (by rw [hfe2, drop_at hx, neversE_cons, if_pos hne]); have e9 : takeE M = bodyE (consOf M.ts) M.rs x.body := (by unfold takeE; rw [if_neg (fun h => h hz1), if_neg (fun h => h hz2), if_neg (fun h => h hzr), e1]); rw [e9]; exact ⟨hv9, fun h9 => absurd h9 hne⟩) | (have e1 : neversE (consOf M.ts) M.rs M.nv = 0 := (by rw [hfe2, List.drop_eq_nil_of_le (by omega)]; rfl); have e9 : takeE M = 0 := (by unfold takeE; rw [if_neg (fun h => h hz1), if_neg (fun h => h hz2), if_neg (fun h => h hzr), e1]); rw [e9]; exact ⟨errV_0, fun _ => hT⟩)) | (have h9 := hfe; have hne : ruleE (consOf M.ts) M.rs x ≠ 0 := (by first | assumption | simpa using h); have e1 : rulesE (consOf M.ts) M.rs M.ru = ruleE (consOf M.ts) M.rs x := (by rw [hfe, drop_at hx, rulesE_cons, if_pos hne]); have e9 : takeE M = ruleE (consOf M.ts) M.rs x := (by unfold takeE; rw [if_neg (fun h => h hz1), if_neg (fun h => h hz2), if_pos (by rw [e1]; exact hne), e1]); rw [e9]; exact ⟨hv9, fun h9 => absurd h9 hne⟩) | (have h9 := hTy; have hne : relatedE M.ts [] M.rs ≠ 0 := (by first | assumption | simpa using h); have e9 : takeE M = relatedE M.ts [] M.rs := (by unfold takeE; rw [if_neg (fun h => h hz1), if_pos hne]); rw [e9]; exact ⟨hv2.1, fun h9 => absurd h9 hne⟩) | (have hne : typedE M.ts ≠ 0 := (by first | assumption | simpa using h); have e9 : takeE M = typedE M.ts := (by unfold takeE; rw [if_pos hne]); rw [e9]; exact ⟨hv.1, fun h9 => absurd h9 hne⟩) | trace_state)
  (skip; (try simp only [tq] at h))
  refine wp_skip ?_
  (refine hKq5 _ _ ?_; try (clear hKq5 Kq5))
  (refine wp_seq_k ?_; intro Kq8 hKq8)
  (refine wp_seq_k ?_; intro Kq9 hKq9)
  (have hz2 : relatedE M.ts [] M.rs = 0 := (by first | assumption | simpa using h); obtain ⟨es3, rfl, hM3⟩ := hv2.2 hz2; replace S : St _ _ _ _ _ F2 [[(m3, mObj kS es3)], [(b3, .cells ⟨[.string (bs M.nm), .slice i1 i2 i3, .slice ao1 M.ts.length cap1, .slice ao2 M.rs.length cap2, .slice ao3 M.ru.length cap3, .slice ao4 M.nv.length cap4]⟩ 37 (0, 0))]] _ _ := St.permI S 2 rfl [1, 0] (by decide); have hle3 := add_le (G1 := []) S; replace S := St.freeze (G1 := []) S; (try simp only [List.nil_append] at S hle3); have hm3 : (F2.add [(m3, mObj kS es3)]) m3 = some (mObj kS es3) := Heap.add_new (p := (m3, _)) (List.mem_singleton.2 rfl) (by simp); generalize (F2.add [(m3, mObj kS es3)]) = F3 at S hle3 hm3; have hF13 : ∀ b o, F1 b = some o → F3 b = some o := (fun b o h => hle3 _ _ (hF2 _ _ h)); have hF03 : ∀ b o, F b = some o → F3 b = some o := (fun b o h => hF13 _ _ (hF1 _ _ h)); have hT : TabS F3 tb m1 m2 m3 M.ts (consOf M.ts) M.rs := ⟨Cels.mono hF03 hcc, hM1.mono hF13, hM2.mono hF13, ⟨es3, hm3, hM3.mono hF13⟩⟩)
  refine wp_region_lit ?_
  (refine wpl_f S ?_; clear S a; intro a S)
  (refine wpl_l S ?_; clear S a; intro a S)
  (refine wpl_n S ?_; clear S a; intro a S)
  (refine wpl_p S ?_; clear S a; intro a S)
  (refine wpList_nil (hKq9 _ _ ?_); try clear hKq9 Kq9)
  refine wp_block ?_
  refine wpc_loop (fun m a w' => ∃ (k : Nat), m = M.ru.length - k ∧ k ≤ M.ru.length ∧ rulesE (consOf M.ts) M.rs M.ru = rulesE (consOf M.ts) M.rs (M.ru.drop k) ∧ St 56 [(0, ptr tb), (3, ptr b3), (28, .slice ao3 M.ru.length cap3), (29, .int .i64 M.ru.length), (30, .int .i64 k)] w0 F [m1, m2, m3] F3 [[(b3, .cells ⟨[.string (bs M.nm), .slice i1 i2 i3, .slice ao1 M.ts.length cap1, .slice ao2 M.rs.length cap2, .slice ao3 M.ru.length cap3, .slice ao4 M.nv.length cap4]⟩ 37 (0, 0))]] a w') ?_ ?_
  · (refine ⟨M.ru.length, 0, by omega, Nat.zero_le _, rfl, ?_⟩; refine S.keep ?_; repeat (first | exact trivial | refine ⟨rfl, ?_⟩))
  (clear S; rintro m a w ⟨k, rfl, hkl, hfe, S⟩)
  refine wp_sr fun Kq10 hKq10 => ?_
  (refine wpl_p S ?_; clear S a; intro a S)
  (refine wpList_nil (hKq10 _ _ (wp_seq_k fun Kq11 hKq11 => ?_)); try clear hKq10 Kq10)
  refine wpc_split S rfl (fun h => ?_) (fun h => ?_)
  · (skip; (try simp only [tq] at h))
    refine wp_skip ?_
    (refine hKq11 _ _ ?_; try (clear hKq11 Kq11))
    (refine wp_seq_k ?_; intro Kq12 hKq12)
    refine wp_block ?_
    (refine wp_seq_k ?_; intro Kq13 hKq13)
    (obtain ⟨bq, oq, hao, x, cs1, hx, hd1, ⟨w1, w2, w3, rfl, hx1, hx2, hx3⟩⟩ := LiM.pos hpos3 (k := k) (by omega); rw [hao] at S; replace hd1 := Cels.mono hF03 hd1; replace hx1 := hx1.mono hF03; replace hx2 := hx2.mono hF03; replace hx3 := hx3.mono hF03; have y1 := hx1; have y2 := hx2; have y3 := hx3; obtain ⟨p1, q1, rfl, -, -⟩ := y1; obtain ⟨p2, q2, rfl, -, -⟩ := y2; obtain ⟨p3, q3, rfl, -, -⟩ := y3)
    refine wp_region_lit ?_
    (refine wpl_i S ?_; clear S a; intro a S)
    (refine wpl_l S ?_; clear S a; intro a S)
    (refine wpl_al S ?_; clear S a; intro b8 a w S)
    (refine wpl_storeO S rfl rfl rfl rfl rfl (by rfl) (by simp [Value.cells, Value.oneCell', splice]) (by rfl) ?_; clear S; intro w S)
    (refine wpList_nil (hKq13 _ _ (wp_sr fun Kq14 hKq14 => ?_)); try clear hKq13 Kq13)
    (refine wpl_p S ?_; clear S a; intro a S)
    (refine wpl_l S ?_; clear S a; intro a S)
    (refine wpl_c0 S (ruleCt F3 tb m1 m2 m3 M.ts (consOf M.ts) M.rs hT x _ ⟨_, _, _, rfl, hx1, hx2, hx3⟩) ?_; clear S a; intro v9 a w hv9 S)
    (refine wpl_p S ?_; clear S a; intro a S)
    (refine wpList_nil (hKq14 _ _ (wp_sr fun Kq15 hKq15 => ?_)); try clear hKq14 Kq14)
    (refine wpl_p S ?_; clear S a; intro a S)
    (refine wpl_v S rfl rfl rfl (sv_neErr S rfl rfl hv9) ?_; clear S a; intro a S)
    (refine wpList_nil (hKq15 _ _ ?_); try clear hKq15 Kq15)
    refine wpc_split S rfl (fun h => ?_) (fun h => ?_)
    · (skip; (try simp only [tq] at h))
      refine wp_sr fun Kq16 hKq16 => ?_
      iterate 2 (refine wpl_p S ?_; clear S a; intro a S)
      (refine wpList_nil (hKq16 _ _ ?_); try clear hKq16 Kq16)
      refine wp_ret (fin_ret S (results1 Tryz.results40 (RV.tmp S rfl)) ?_)
      (first | (have h9 := hfe2; have hzr : rulesE (consOf M.ts) M.rs M.ru = 0 := (by rw [hfe, List.drop_eq_nil_of_le (by omega)]; rfl); first | (have hne : bodyE (consOf M.ts) M.rs x.body ≠ 0 := (by first | assumption | simpa using h); have e1 : neversE (consOf M.ts) M.rs M.nv = bodyE (consOf M.ts) M.rs x.body := (by rw [hfe2, drop_at hx, neversE_cons, if_pos hne]); have e9 : takeE M = bodyE (consOf M.ts) M.rs x.body := (by unfold takeE; rw [if_neg (fun h => h hz1), if_neg (fun h => h hz2), if_neg (fun h => h hzr), e1]); rw [e9]; exact ⟨hv9, fun h9 => absurd h9 hne⟩) | (have e1 : neversE (consOf M.ts) M.rs M.nv = 0 := (by rw [hfe2, List.drop_eq_nil_of_le (by omega)]; rfl); have e9 : takeE M = 0 := (by unfold takeE; rw [if_neg (fun h => h hz1), if_neg (fun h => h hz2), if_neg (fun h => h hzr), e1]); rw [e9]; exact ⟨errV_0, fun _ => hT⟩)) | (have h9 := hfe; have hne : ruleE (consOf M.ts) M.rs x ≠ 0 := (by first | assumption | simpa using h); have e1 : rulesE (consOf M.ts) M.rs M.ru = ruleE (consOf M.ts) M.rs x := (by rw [hfe, drop_at hx, rulesE_cons, if_pos hne]); have e9 : takeE M = ruleE (consOf M.ts) M.rs x := (by unfold takeE; rw [if_neg (fun h => h hz1), if_neg (fun h => h hz2), if_pos (by rw [e1]; exact hne), e1]); rw [e9]; exact ⟨hv9, fun h9 => absurd h9 hne⟩) | (have h9 := hTy; have hne : relatedE M.ts [] M.rs ≠ 0 := (by first | assumption | simpa using h); have e9 : takeE M = relatedE M.ts [] M.rs := (by unfold takeE; rw [if_neg (fun h => h hz1), if_pos hne]); rw [e9]; exact ⟨hv2.1, fun h9 => absurd h9 hne⟩) | (have hne : typedE M.ts ≠ 0 := (by first | assumption | simpa using h); have e9 : takeE M = typedE M.ts := (by unfold takeE; rw [if_pos hne]); rw [e9]; exact ⟨hv.1, fun h9 => absurd h9 hne⟩) | trace_state)
    (skip; (try simp only [tq] at h))
    refine wp_skip ?_
    (refine hKq12 _ _ ?_; try (clear hKq12 Kq12))
    refine wp_region_lit ?_
    (refine wpl_a S ?_; clear S a; intro a S)
    (refine wpl_p S ?_; clear S a; intro a S)
    refine wpList_nil ?_
    change ∃ m', _ ∧ _
    (have hz : ruleE (consOf M.ts) M.rs x = 0 := (by first | assumption | (simp_all; done)); rw [← hao] at S; replace S := S.drop1; refine ⟨M.ru.length - (k + 1), by omega, k + 1, rfl, by omega, (by rw [hfe, drop_at hx, rulesE_cons, if_neg (fun h => h hz)]), ?_⟩; refine S.keep ?_; repeat (first | exact trivial | refine ⟨rfl, ?_⟩))
  (skip; (try simp only [tq] at h))
  refine wp_exit ?_
  (refine hKq8 _ _ ?_; try (clear hKq8 Kq8))
  (refine wp_seq_k ?_; intro Kq12 hKq12)
  refine wp_sr fun Kq13 hKq13 => ?_
  (refine wpl_f S ?_; clear S a; intro a S)
  (refine wpl_l S ?_; clear S a; intro a S)
  (refine wpl_n S ?_; clear S a; intro a S)
  (refine wpl_p S ?_; clear S a; intro a S)
  (refine wpList_nil (hKq13 _ _ ?_); try clear hKq13 Kq13)
  refine wp_block ?_
  refine wpc_loop (fun m a w' => ∃ (k : Nat), m = M.nv.length - k ∧ k ≤ M.nv.length ∧ neversE (consOf M.ts) M.rs M.nv = neversE (consOf M.ts) M.rs (M.nv.drop k) ∧ St 56 [(0, ptr tb), (42, .slice ao4 M.nv.length cap4), (43, .int .i64 M.nv.length), (44, .int .i64 k)] w0 F [m1, m2, m3] F3 [] a w') ?_ ?_
  · (have hzr : rulesE (consOf M.ts) M.rs M.ru = 0 := (by rw [hfe, List.drop_eq_nil_of_le (by omega)]; rfl); replace S := S.drop1; refine ⟨M.nv.length, 0, by omega, Nat.zero_le _, rfl, ?_⟩; refine S.keep ?_; repeat (first | exact trivial | refine ⟨rfl, ?_⟩))
  (clear S; rintro m a w ⟨k2, rfl, hkl2, hfe2, S⟩)
  refine wp_sr fun Kq14 hKq14 => ?_
  (refine wpl_p S ?_; clear S a; intro a S)
  (refine wpList_nil (hKq14 _ _ (wp_seq_k fun Kq15 hKq15 => ?_)); try clear hKq14 Kq14)
  refine wpc_split S rfl (fun h => ?_) (fun h => ?_)
  · (skip; (try simp only [tq] at h))
    refine wp_skip ?_
    (refine hKq15 _ _ ?_; try (clear hKq15 Kq15))
    (refine wp_seq_k ?_; intro Kq16 hKq16)
    refine wp_block ?_
    (refine wp_seq_k ?_; intro Kq17 hKq17)
    (obtain ⟨bq, oq, hao, x, cs1, hx, hd1, ⟨w3, rfl, hx3⟩⟩ := LiM.pos hpos4 (k := k2) (by omega); rw [hao] at S; replace hd1 := Cels.mono hF03 hd1; replace hx3 := hx3.mono hF03; have y3 := hx3; obtain ⟨p3, q3, rfl, -, -⟩ := y3)
    refine wp_region_lit ?_
    (refine wpl_i S ?_; clear S a; intro a S)
    (refine wpl_l S ?_; clear S a; intro a S)
    (refine wpl_al S ?_; clear S a; intro b11 a w S)
    (refine wpl_storeO S rfl rfl rfl rfl rfl (by rfl) (by simp [Value.cells, Value.oneCell', splice]) (by rfl) ?_; clear S; intro w S)
    (refine wpList_nil (hKq17 _ _ (wp_sr fun Kq18 hKq18 => ?_)); try clear hKq17 Kq17)
    (refine wpl_p S ?_; clear S a; intro a S)
    (refine wpl_f S ?_; clear S a; intro a S)
    (refine wpl_l S ?_; clear S a; intro a S)
    (refine wpl_c0 S (bodyCt F3 tb m1 m2 m3 M.ts (consOf M.ts) M.rs hT x.body _ hx3) ?_; clear S a; intro v9 a w hv9 S)
    (refine wpl_p S ?_; clear S a; intro a S)
    (refine wpList_nil (hKq18 _ _ (wp_sr fun Kq19 hKq19 => ?_)); try clear hKq18 Kq18)
    (refine wpl_p S ?_; clear S a; intro a S)
    (refine wpl_v S rfl rfl rfl (sv_neErr S rfl rfl hv9) ?_; clear S a; intro a S)
    (refine wpList_nil (hKq19 _ _ ?_); try clear hKq19 Kq19)
    refine wpc_split S rfl (fun h => ?_) (fun h => ?_)
    · (skip; (try simp only [tq] at h))
      refine wp_sr fun Kq20 hKq20 => ?_
      iterate 2 (refine wpl_p S ?_; clear S a; intro a S)
      (refine wpList_nil (hKq20 _ _ ?_); try clear hKq20 Kq20)
      refine wp_ret (fin_ret S (results1 Tryz.results40 (RV.tmp S rfl)) ?_)
      (first | (have h9 := hfe2; have hzr : rulesE (consOf M.ts) M.rs M.ru = 0 := (by rw [hfe, List.drop_eq_nil_of_le (by omega)]; rfl); first | (have hne : bodyE (consOf M.ts) M.rs x.body ≠ 0 := (by first | assumption | simpa using h); have e1 : neversE (consOf M.ts) M.rs M.nv = bodyE (consOf M.ts) M.rs x.body := (by rw [hfe2, drop_at hx, neversE_cons, if_pos hne]); have e9 : takeE M = bodyE (consOf M.ts) M.rs x.body := (by unfold takeE; rw [if_neg (fun h => h hz1), if_neg (fun h => h hz2), if_neg (fun h => h hzr), e1]); rw [e9]; exact ⟨hv9, fun h9 => absurd h9 hne⟩) | (have e1 : neversE (consOf M.ts) M.rs M.nv = 0 := (by rw [hfe2, List.drop_eq_nil_of_le (by omega)]; rfl); have e9 : takeE M = 0 := (by unfold takeE; rw [if_neg (fun h => h hz1), if_neg (fun h => h hz2), if_neg (fun h => h hzr), e1]); rw [e9]; exact ⟨errV_0, fun _ => hT⟩)) | (have h9 := hfe; have hne : ruleE (consOf M.ts) M.rs x ≠ 0 := (by first | assumption | simpa using h); have e1 : rulesE (consOf M.ts) M.rs M.ru = ruleE (consOf M.ts) M.rs x := (by rw [hfe, drop_at hx, rulesE_cons, if_pos hne]); have e9 : takeE M = ruleE (consOf M.ts) M.rs x := (by unfold takeE; rw [if_neg (fun h => h hz1), if_neg (fun h => h hz2), if_pos (by rw [e1]; exact hne), e1]); rw [e9]; exact ⟨hv9, fun h9 => absurd h9 hne⟩) | (have h9 := hTy; have hne : relatedE M.ts [] M.rs ≠ 0 := (by first | assumption | simpa using h); have e9 : takeE M = relatedE M.ts [] M.rs := (by unfold takeE; rw [if_neg (fun h => h hz1), if_pos hne]); rw [e9]; exact ⟨hv2.1, fun h9 => absurd h9 hne⟩) | (have hne : typedE M.ts ≠ 0 := (by first | assumption | simpa using h); have e9 : takeE M = typedE M.ts := (by unfold takeE; rw [if_pos hne]); rw [e9]; exact ⟨hv.1, fun h9 => absurd h9 hne⟩) | trace_state)
    (skip; (try simp only [tq] at h))
    refine wp_skip ?_
    (refine hKq16 _ _ ?_; try (clear hKq16 Kq16))
    refine wp_region_lit ?_
    (refine wpl_a S ?_; clear S a; intro a S)
    (refine wpl_p S ?_; clear S a; intro a S)
    refine wpList_nil ?_
    change ∃ m', _ ∧ _
    (have hz : bodyE (consOf M.ts) M.rs x.body = 0 := (by first | assumption | (simp_all; done)); rw [← hao] at S; replace S := S.drop1; refine ⟨M.nv.length - (k2 + 1), by omega, k2 + 1, rfl, by omega, (by rw [hfe2, drop_at hx, neversE_cons, if_neg (fun h => h hz)]), ?_⟩; refine S.keep ?_; repeat (first | exact trivial | refine ⟨rfl, ?_⟩))
  (skip; (try simp only [tq] at h))
  refine wp_exit ?_
  (refine hKq12 _ _ ?_; try (clear hKq12 Kq12))
  refine wp_sr fun Kq16 hKq16 => ?_
  (refine wpl_p S ?_; clear S a; intro a S)
  (refine wpList_nil (hKq16 _ _ ?_); try clear hKq16 Kq16)
  refine wp_ret (fin_ret S (results1 Tryz.results40 (RV.tmp S rfl)) ?_)
  (first | (have h9 := hfe2; have hzr : rulesE (consOf M.ts) M.rs M.ru = 0 := (by rw [hfe, List.drop_eq_nil_of_le (by omega)]; rfl); first | (have hne : bodyE (consOf M.ts) M.rs x.body ≠ 0 := (by first | assumption | simpa using h); have e1 : neversE (consOf M.ts) M.rs M.nv = bodyE (consOf M.ts) M.rs x.body := (by rw [hfe2, drop_at hx, neversE_cons, if_pos hne]); have e9 : takeE M = bodyE (consOf M.ts) M.rs x.body := (by unfold takeE; rw [if_neg (fun h => h hz1), if_neg (fun h => h hz2), if_neg (fun h => h hzr), e1]); rw [e9]; exact ⟨hv9, fun h9 => absurd h9 hne⟩) | (have e1 : neversE (consOf M.ts) M.rs M.nv = 0 := (by rw [hfe2, List.drop_eq_nil_of_le (by omega)]; rfl); have e9 : takeE M = 0 := (by unfold takeE; rw [if_neg (fun h => h hz1), if_neg (fun h => h hz2), if_neg (fun h => h hzr), e1]); rw [e9]; exact ⟨errV_0, fun _ => hT⟩)) | (have h9 := hfe; have hne : ruleE (consOf M.ts) M.rs x ≠ 0 := (by first | assumption | simpa using h); have e1 : rulesE (consOf M.ts) M.rs M.ru = ruleE (consOf M.ts) M.rs x := (by rw [hfe, drop_at hx, rulesE_cons, if_pos hne]); have e9 : takeE M = ruleE (consOf M.ts) M.rs x := (by unfold takeE; rw [if_neg (fun h => h hz1), if_neg (fun h => h hz2), if_pos (by rw [e1]; exact hne), e1]); rw [e9]; exact ⟨hv9, fun h9 => absurd h9 hne⟩) | (have h9 := hTy; have hne : relatedE M.ts [] M.rs ≠ 0 := (by first | assumption | simpa using h); have e9 : takeE M = relatedE M.ts [] M.rs := (by unfold takeE; rw [if_neg (fun h => h hz1), if_pos hne]); rw [e9]; exact ⟨hv2.1, fun h9 => absurd h9 hne⟩) | (have hne : typedE M.ts ≠ 0 := (by first | assumption | simpa using h); have e9 : takeE M = typedE M.ts := (by unfold takeE; rw [if_pos hne]); rw [e9]; exact ⟨hv.1, fun h9 => absurd h9 hne⟩) | trace_state)
end Go.Proofs.YtoaodbclgeeaeaaGreatDoor
