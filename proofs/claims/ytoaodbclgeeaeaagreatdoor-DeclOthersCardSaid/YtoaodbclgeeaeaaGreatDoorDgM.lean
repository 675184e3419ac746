/- How much a program is. The walk of large: whether a program is more than a statement goes over. What a small program's sizes are; what New tells, in one form. What is declared besides, in a type and a relation of another name, changes nothing; a value's types have one name: the plain laws of DeclOthers and DeclApart. The walk of DeclApart; what a small program's sizes are. -/
import Derived.Test.YtoaodbclgeeaeaaGreatDoorDeE
import Derived.Test.YtoaodbclgeeaeaaGreatDoorDfC
import Derived.Test.YtoaodbclgeeaeaaGreatDoorDeV
import Derived.Test.YtoaodbclgeeaeaaGreatDoorDfE
namespace Go.Proofs.YtoaodbclgeeaeaaGreatDoor
open Go Go.Wk Go.Un Go.De
set_option linter.unusedSimpArgs false
set_option linter.unusedVariables false

def consN : List CD → Nat
  | [] => 0
  | x :: r => 1 + fdsN x.fs + consN r
def tsN : List TD → Nat
  | [] => 0
  | x :: r => 1 + x.ps.length + consN x.cs + tsN r
def rsN : List RD → Nat
  | [] => 0
  | x :: r => 1 + fdsN x.fs + rsN r
def ruN : List RU → Nat
  | [] => 0
  | x :: r => 1 + x.args.size + bodyN x.body + ruN r
def nvN : List NV → Nat
  | [] => 0
  | x :: r => 1 + bodyN x.body + nvN r
def mdN (m : MD) : Nat := tsN m.ts + rsN m.rs + ruN m.ru + nvN m.nv
end Go.Proofs.YtoaodbclgeeaeaaGreatDoor
namespace Go.Proofs.YtoaodbclgeeaeaaGreatDoor
open Go Go.Wk Go.Un Go.De
set_option linter.unusedSimpArgs false
set_option linter.unusedVariables false
attribute [local irreducible] Go.wpList Go.Code.wp Go.wpStill Go.Wk.wpPre Go.bodyPost Go.Calls Go.Wk.Ct Go.Wk.OwnS
attribute [local irreducible] Go.Wk.wpG Go.Wk.wpM

set_option maxRecDepth 20000 in
set_option maxHeartbeats 16000000 in
theorem largeCt (F : Heap) (M : MD) (cs : List Value) (h : MdR F M cs) : Ct Tryz.prog 12 [.agg ⟨cs⟩] F [] (fun _ _ u => ∃ b : Bool, u = .bool b ∧ (b = false → mdN M < 1000)) := by
  obtain ⟨i1, i2, i3, v1, v2, v3, v4, rfl, h1, h2, h3, h4⟩ := h
  obtain ⟨ao1, cap1, rfl, hcap1, hpos1⟩ := h1
  obtain ⟨ao2, cap2, rfl, hcap2, hpos2⟩ := h2
  obtain ⟨ao3, cap3, rfl, hcap3, hpos3⟩ := h3
  obtain ⟨ao4, cap4, rfl, hcap4, hpos4⟩ := h4
  refine Ct.enter Tryz.func12 rfl Tryz.ntmps12 rfl fun w0 a S => ?_
  refine wp_sr fun Kq1 hKq1 => ?_
  (refine wpl_bx S ?_; clear S a; intro b1 a w S)
  (refine wpl_p S ?_; clear S a; intro a S)
  (refine wpList_nil (hKq1 _ _ (wp_sr fun Kq2 hKq2 => ?_)); try clear hKq1 Kq1)
  (refine wpl_p S ?_; clear S a; intro a S)
  (refine wpList_nil (hKq2 _ _ (wp_seq_k fun Kq3 hKq3 => ?_)); try clear hKq2 Kq2)
  refine wp_sr fun Kq4 hKq4 => ?_
  (refine wpl_p S ?_; clear S a; intro a S)
  (refine wpList_nil (hKq4 _ _ ?_); try clear hKq4 Kq4)
  refine wp_block ?_
  refine wpc_loop (fun m a w' => ∃ (k n s : Nat), m = M.ts.length - k ∧ k ≤ M.ts.length ∧ s + tsN (M.ts.drop k) = tsN M.ts ∧ (n < 1000 → n = s) ∧ n ≤ 281474976710656 ∧ St 142 [(1, ptr b1), (3, .int .i64 (n : Int)), (4, .int .i64 k)] w0 F [] F [[(b1, .cells ⟨[.string (bs M.nm), .slice i1 i2 i3, .slice ao1 M.ts.length cap1, .slice ao2 M.rs.length cap2, .slice ao3 M.ru.length cap3, .slice ao4 M.nv.length cap4]⟩ 37 (0, 0))]] a w') ?_ ?_
  · (refine ⟨M.ts.length, 0, 0, 0, by omega, Nat.zero_le _, by rw [Nat.zero_add]; rfl, fun _ => rfl, by decide, ?_⟩; refine S.keep ?_; repeat (first | exact trivial | refine ⟨rfl, ?_⟩))
  (clear S; rintro m a w ⟨k, n, s, rfl, hkl, hs, hn, hnb, S⟩)
  (refine wp_seq_k ?_; intro Kq5 hKq5)
  refine wp_sr fun Kq6 hKq6 => ?_
  (refine wpl_p S ?_; clear S a; intro a S)
  (refine wpl_f S ?_; clear S a; intro a S)
  (refine wpl_l S ?_; clear S a; intro a S)
  (refine wpl_n S ?_; clear S a; intro a S)
  iterate 2 (refine wpl_p S ?_; clear S a; intro a S)
  refine wpl_guard S rfl rfl rfl rfl rfl ?_ ?_
  · (intro h S'; clear S; have S := S'; clear S'; (try simp only [tq] at h))
    (refine wpl_p S ?_; clear S a; intro a S)
    refine wpl_take S rfl rfl rfl ?_
    iterate 2 (refine wpl_p S ?_; clear S a; intro a S)
    (refine wpList_nil (hKq6 _ _ ?_); try clear hKq6 Kq6)
    refine wpc_split S rfl (fun h => ?_) (fun h => ?_)
    · (skip; (try simp only [tq] at h))
      refine wp_skip ?_
      (refine hKq5 _ _ ?_; try (clear hKq5 Kq5))
      (refine wp_seq_k ?_; intro Kq7 hKq7)
      refine wp_block ?_
      (refine wp_seq_k ?_; intro Kq8 hKq8)
      (obtain ⟨b8, o8, hao, x, cs1, hx, hc1, ⟨w1, w2, rfl, ⟨ap, cp, rfl, hcp, -⟩, ⟨ac, cc, rfl, hcc, hposc⟩⟩⟩ := LiM.pos hpos1 (k := k) (by omega); rw [hao] at S; have hdz : tsN (M.ts.drop k) = 1 + x.ps.length + consN x.cs + tsN (M.ts.drop (k + 1)) := (by rw [drop_at hx]; rfl); have hc4 : Cel F b8 (o8 + k * 6 + 4) (.slice ap x.ps.length cp) := hc1 4 _ rfl; have hc5 : Cel F b8 (o8 + k * 6 + 5) (.slice ac x.cs.length cc) := hc1 5 _ rfl)
      refine wp_region_lit ?_
      (refine wpl_p S ?_; clear S a; intro a S)
      (refine wpl_a S ?_; clear S a; intro a S)
      (refine wpl_f S ?_; clear S a; intro a S)
      (refine wpl_l S ?_; clear S a; intro a S)
      (refine wpl_p S ?_; clear S a; intro a S)
      (refine wpl_i S ?_; clear S a; intro a S)
      (refine wpl_f S ?_; clear S a; intro a S)
      (refine wpl_v S rfl rfl rfl (sv_loadF S rfl rfl hc4) ?_; clear S a; intro a S)
      (refine wpl_n S ?_; clear S a; intro a S)
      (refine wpl_a S ?_; clear S a; intro a S)
      (refine wpl_p S ?_; clear S a; intro a S)
      (refine wpList_nil (hKq8 _ _ (wp_sr fun Kq9 hKq9 => ?_)); try clear hKq8 Kq8)
      (refine wpl_p S ?_; clear S a; intro a S)
      (refine wpList_nil (hKq9 _ _ ?_); try clear hKq9 Kq9)
      refine wp_block ?_
      refine wpc_loop (fun m a w' => ∃ (kk n2 s2 : Nat), m = x.cs.length - kk ∧ kk ≤ x.cs.length ∧ s2 + consN (x.cs.drop kk) = s + 1 + x.ps.length + consN x.cs ∧ (n2 < 1000 → n2 = s2) ∧ n2 ≤ 281474976710656 ∧ St 142 [(1, ptr b1), (3, .int .i64 (n2 : Int)), (4, .int .i64 k), (5, .int .i64 kk)] w0 F [] F [[(b1, .cells ⟨[.string (bs M.nm), .slice i1 i2 i3, .slice (some ⟨b8, o8, none⟩) M.ts.length cap1, .slice ao2 M.rs.length cap2, .slice ao3 M.ru.length cap3, .slice ao4 M.nv.length cap4]⟩ 37 (0, 0))]] a w') ?_ ?_
      · (refine ⟨x.cs.length, 0, n + 1 + x.ps.length, s + 1 + x.ps.length, by omega, Nat.zero_le _, rfl, by omega, by omega, ?_⟩; refine S.keep ?_; repeat (first | exact trivial | refine ⟨rfl, ?_⟩))
      (clear S; rintro m a w ⟨kk, n2, s2, rfl, hkl2, hs2, hn2, hnb2, S⟩)
      (refine wp_seq_k ?_; intro Kq10 hKq10)
      refine wp_sr fun Kq11 hKq11 => ?_
      (refine wpl_p S ?_; clear S a; intro a S)
      (refine wpl_f S ?_; clear S a; intro a S)
      (refine wpl_l S ?_; clear S a; intro a S)
      (refine wpl_p S ?_; clear S a; intro a S)
      (refine wpl_i S ?_; clear S a; intro a S)
      (refine wpl_f S ?_; clear S a; intro a S)
      (refine wpl_v S rfl rfl rfl (sv_loadF S rfl rfl hc5) ?_; clear S a; intro a S)
      (refine wpl_n S ?_; clear S a; intro a S)
      iterate 2 (refine wpl_p S ?_; clear S a; intro a S)
      refine wpl_guard S rfl rfl rfl rfl rfl ?_ ?_
      · (intro h S'; clear S; have S := S'; clear S'; (try simp only [tq] at h))
        (refine wpl_p S ?_; clear S a; intro a S)
        refine wpl_take S rfl rfl rfl ?_
        iterate 2 (refine wpl_p S ?_; clear S a; intro a S)
        (refine wpList_nil (hKq11 _ _ ?_); try clear hKq11 Kq11)
        refine wpc_split S rfl (fun h => ?_) (fun h => ?_)
        · (skip; (try simp only [tq] at h))
          refine wp_skip ?_
          (refine hKq10 _ _ ?_; try (clear hKq10 Kq10))
          (refine wp_seq_k ?_; intro Kq12 hKq12)
          refine wp_block ?_
          (obtain ⟨b9, o9, hao2, y, cs2, hy, hd1, ⟨w3, rfl, hT2⟩⟩ := LiM.pos hposc (k := kk) (by omega); have hdy : consN (x.cs.drop kk) = 1 + fdsN y.fs + consN (x.cs.drop (kk + 1)) := (by rw [drop_at hy]; rfl); have hd2 : Cel F b9 (o9 + kk * 2 + 1) w3 := hd1 1 _ rfl; have hT2c := hT2; obtain ⟨af, cf, rfl, -, -⟩ := hT2c)
          refine wp_region_lit ?_
          (refine wpl_p S ?_; clear S a; intro a S)
          (refine wpl_a S ?_; clear S a; intro a S)
          (refine wpl_f S ?_; clear S a; intro a S)
          (refine wpl_l S ?_; clear S a; intro a S)
          (refine wpl_p S ?_; clear S a; intro a S)
          (refine wpl_i S ?_; clear S a; intro a S)
          (refine wpl_f S ?_; clear S a; intro a S)
          (refine wpl_v S rfl rfl rfl (sv_loadF S rfl rfl hc5) ?_; clear S a; intro a S)
          (rw [hao2] at S)
          (refine wpl_p S ?_; clear S a; intro a S)
          (refine wpl_i S ?_; clear S a; intro a S)
          (refine wpl_f S ?_; clear S a; intro a S)
          (refine wpl_l S ?_; clear S a; intro a S)
          (refine wpl_p S ?_; clear S a; intro a S)
          (refine wpl_s S ?_; clear S a; intro a S)
          (rw [show ((1000 : Int) - (n2 : Int)) = ((1000 - n2 : Nat) : Int) by omega] at S)
          (first | (refine wpl_c0 S (fieldsNCt F y.fs _ (1000 - n2) (by omega) hT2) ?_; clear S a; intro v a w hv S; obtain ⟨p9, rfl, hp9⟩ := hv; unfold Cnt at hp9) | (refine wpl_c0 S (fieldsNCt F x.fs _ (1000 - n) (by omega) hT1) ?_; clear S a; intro v a w hv S; obtain ⟨p9, rfl, hp9⟩ := hv; unfold Cnt at hp9))
          (refine wpl_a S ?_; clear S a; intro a S)
          (refine wpl_p S ?_; clear S a; intro a S)
          (refine wpList_nil (hKq12 _ _ ?_); try clear hKq12 Kq12)
          refine wp_region_lit ?_
          (refine wpl_p S ?_; clear S a; intro a S)
          (refine wpl_a S ?_; clear S a; intro a S)
          (refine wpl_p S ?_; clear S a; intro a S)
          refine wpList_nil ?_
          change ∃ m', _ ∧ _
          (rw [← hao2] at S; refine ⟨x.cs.length - (kk + 1), by omega, kk + 1, n2 + 1 + p9, s2 + (1 + fdsN y.fs), rfl, by omega, by omega, by omega, by omega, ?_⟩; refine S.keep ?_; repeat (first | exact trivial | refine ⟨rfl, ?_⟩))
        (skip; (try simp only [tq] at h))
        refine wp_exit ?_
        (refine hKq7 _ _ ?_; try (clear hKq7 Kq7))
        refine wp_region_lit ?_
        (refine wpl_p S ?_; clear S a; intro a S)
        (refine wpl_a S ?_; clear S a; intro a S)
        (refine wpl_p S ?_; clear S a; intro a S)
        refine wpList_nil ?_
        change ∃ m', _ ∧ _
        (have hz2 : n2 < 1000 → consN (x.cs.drop kk) = 0 := (by intro h9; rw [List.drop_eq_nil_of_le (by omega)]; rfl); rw [← hao] at S; refine ⟨M.ts.length - (k + 1), by omega, k + 1, n2, s + (1 + x.ps.length + consN x.cs), rfl, by omega, by omega, by omega, by omega, ?_⟩; refine S.keep ?_; repeat (first | exact trivial | refine ⟨rfl, ?_⟩))
      (intro h; clear S a; intro a S; (try simp only [tq] at h))
      (refine wpl_k S ?_; clear S a; intro a S)
      (refine wpl_p S ?_; clear S a; intro a S)
      (refine wpList_nil (hKq11 _ _ ?_); try clear hKq11 Kq11)
      refine wpc_false S rfl ?_
      refine wp_exit ?_
      (refine hKq7 _ _ ?_; try (clear hKq7 Kq7))
      refine wp_region_lit ?_
      (refine wpl_p S ?_; clear S a; intro a S)
      (refine wpl_a S ?_; clear S a; intro a S)
      (refine wpl_p S ?_; clear S a; intro a S)
      refine wpList_nil ?_
      change ∃ m', _ ∧ _
      (have hz2 : n2 < 1000 → consN (x.cs.drop kk) = 0 := (by intro h9; rw [List.drop_eq_nil_of_le (by omega)]; rfl); rw [← hao] at S; refine ⟨M.ts.length - (k + 1), by omega, k + 1, n2, s + (1 + x.ps.length + consN x.cs), rfl, by omega, by omega, by omega, by omega, ?_⟩; refine S.keep ?_; repeat (first | exact trivial | refine ⟨rfl, ?_⟩))
    (skip; (try simp only [tq] at h))
    refine wp_exit ?_
    (refine hKq3 _ _ ?_; try (clear hKq3 Kq3))
    (refine wp_seq_k ?_; intro Kq7 hKq7)
    refine wp_sr fun Kq8 hKq8 => ?_
    (refine wpl_p S ?_; clear S a; intro a S)
    (refine wpList_nil (hKq8 _ _ ?_); try clear hKq8 Kq8)
    refine wp_block ?_
    refine wpc_loop (fun m a w' => ∃ (k n s : Nat), m = M.rs.length - k ∧ k ≤ M.rs.length ∧ s + rsN (M.rs.drop k) = tsN M.ts + rsN M.rs ∧ (n < 1000 → n = s) ∧ n ≤ 281474976710656 ∧ St 142 [(1, ptr b1), (3, .int .i64 (n : Int)), (6, .int .i64 k)] w0 F [] F [[(b1, .cells ⟨[.string (bs M.nm), .slice i1 i2 i3, .slice ao1 M.ts.length cap1, .slice ao2 M.rs.length cap2, .slice ao3 M.ru.length cap3, .slice ao4 M.nv.length cap4]⟩ 37 (0, 0))]] a w') ?_ ?_
    · (have hz : n < 1000 → n = tsN M.ts := (by intro h9; have hz9 : tsN (M.ts.drop k) = 0 := (by rw [List.drop_eq_nil_of_le (by omega)]; rfl); omega); refine ⟨M.rs.length, 0, n, tsN M.ts, by omega, Nat.zero_le _, rfl, hz, hnb, ?_⟩; refine S.keep ?_; repeat (first | exact trivial | refine ⟨rfl, ?_⟩))
    (clear S; rintro m a w ⟨k, n, s, rfl, hkl, hs, hn, hnb, S⟩)
    (refine wp_seq_k ?_; intro Kq9 hKq9)
    refine wp_sr fun Kq10 hKq10 => ?_
    (refine wpl_p S ?_; clear S a; intro a S)
    (refine wpl_f S ?_; clear S a; intro a S)
    (refine wpl_l S ?_; clear S a; intro a S)
    (refine wpl_n S ?_; clear S a; intro a S)
    iterate 2 (refine wpl_p S ?_; clear S a; intro a S)
    refine wpl_guard S rfl rfl rfl rfl rfl ?_ ?_
    · (intro h S'; clear S; have S := S'; clear S'; (try simp only [tq] at h))
      (refine wpl_p S ?_; clear S a; intro a S)
      refine wpl_take S rfl rfl rfl ?_
      iterate 2 (refine wpl_p S ?_; clear S a; intro a S)
      (refine wpList_nil (hKq10 _ _ ?_); try clear hKq10 Kq10)
      refine wpc_split S rfl (fun h => ?_) (fun h => ?_)
      · (skip; (try simp only [tq] at h))
        refine wp_skip ?_
        (refine hKq9 _ _ ?_; try (clear hKq9 Kq9))
        (refine wp_seq_k ?_; intro Kq11 hKq11)
        refine wp_block ?_
        (obtain ⟨b8, o8, hao, x, cs1, hx, hc1, ⟨w1, rfl, hT1⟩⟩ := LiM.pos hpos2 (k := k) (by omega); rw [hao] at S; have hdz : rsN (M.rs.drop k) = 1 + fdsN x.fs + rsN (M.rs.drop (k + 1)) := (by rw [drop_at hx]; rfl); have hc5 : Cel F b8 (o8 + k * 6 + 5) w1 := hc1 5 _ rfl; have hT1c := hT1; obtain ⟨af, cf, rfl, -, -⟩ := hT1c)
        refine wp_region_lit ?_
        (refine wpl_p S ?_; clear S a; intro a S)
        (refine wpl_a S ?_; clear S a; intro a S)
        (refine wpl_f S ?_; clear S a; intro a S)
        (refine wpl_l S ?_; clear S a; intro a S)
        (refine wpl_p S ?_; clear S a; intro a S)
        (refine wpl_i S ?_; clear S a; intro a S)
        (refine wpl_f S ?_; clear S a; intro a S)
        (refine wpl_v S rfl rfl rfl (sv_loadF S rfl rfl hc5) ?_; clear S a; intro a S)
        (refine wpl_p S ?_; clear S a; intro a S)
        (refine wpl_s S ?_; clear S a; intro a S)
        (rw [show ((1000 : Int) - (n : Int)) = ((1000 - n : Nat) : Int) by omega] at S)
        (first | (refine wpl_c0 S (fieldsNCt F y.fs _ (1000 - n2) (by omega) hT2) ?_; clear S a; intro v a w hv S; obtain ⟨p9, rfl, hp9⟩ := hv; unfold Cnt at hp9) | (refine wpl_c0 S (fieldsNCt F x.fs _ (1000 - n) (by omega) hT1) ?_; clear S a; intro v a w hv S; obtain ⟨p9, rfl, hp9⟩ := hv; unfold Cnt at hp9))
        (refine wpl_a S ?_; clear S a; intro a S)
        (refine wpl_p S ?_; clear S a; intro a S)
        (refine wpList_nil (hKq11 _ _ ?_); try clear hKq11 Kq11)
        refine wp_region_lit ?_
        (refine wpl_p S ?_; clear S a; intro a S)
        (refine wpl_a S ?_; clear S a; intro a S)
        (refine wpl_p S ?_; clear S a; intro a S)
        refine wpList_nil ?_
        change ∃ m', _ ∧ _
        (rw [← hao] at S; refine ⟨M.rs.length - (k + 1), by omega, k + 1, n + 1 + p9, s + (1 + fdsN x.fs), rfl, by omega, by omega, by omega, by omega, ?_⟩; refine S.keep ?_; repeat (first | exact trivial | refine ⟨rfl, ?_⟩))
      (skip; (try simp only [tq] at h))
      refine wp_exit ?_
      (refine hKq7 _ _ ?_; try (clear hKq7 Kq7))
      (refine wp_seq_k ?_; intro Kq11 hKq11)
      refine wp_sr fun Kq12 hKq12 => ?_
      (refine wpl_p S ?_; clear S a; intro a S)
      (refine wpList_nil (hKq12 _ _ ?_); try clear hKq12 Kq12)
      refine wp_block ?_
      refine wpc_loop (fun m a w' => ∃ (k n s : Nat), m = M.ru.length - k ∧ k ≤ M.ru.length ∧ s + ruN (M.ru.drop k) = tsN M.ts + rsN M.rs + ruN M.ru ∧ (n < 1000 → n = s) ∧ n ≤ 281474976710656 ∧ St 142 [(1, ptr b1), (3, .int .i64 (n : Int)), (7, .int .i64 k)] w0 F [] F [[(b1, .cells ⟨[.string (bs M.nm), .slice i1 i2 i3, .slice ao1 M.ts.length cap1, .slice ao2 M.rs.length cap2, .slice ao3 M.ru.length cap3, .slice ao4 M.nv.length cap4]⟩ 37 (0, 0))]] a w') ?_ ?_
      · (have hz : n < 1000 → n = tsN M.ts + rsN M.rs := (by intro h9; have hz9 : rsN (M.rs.drop k) = 0 := (by rw [List.drop_eq_nil_of_le (by omega)]; rfl); omega); refine ⟨M.ru.length, 0, n, tsN M.ts + rsN M.rs, by omega, Nat.zero_le _, rfl, hz, hnb, ?_⟩; refine S.keep ?_; repeat (first | exact trivial | refine ⟨rfl, ?_⟩))
      (clear S; rintro m a w ⟨k, n, s, rfl, hkl, hs, hn, hnb, S⟩)
      (refine wp_seq_k ?_; intro Kq13 hKq13)
      refine wp_sr fun Kq14 hKq14 => ?_
      (refine wpl_p S ?_; clear S a; intro a S)
      (refine wpl_f S ?_; clear S a; intro a S)
      (refine wpl_l S ?_; clear S a; intro a S)
      (refine wpl_n S ?_; clear S a; intro a S)
      iterate 2 (refine wpl_p S ?_; clear S a; intro a S)
      refine wpl_guard S rfl rfl rfl rfl rfl ?_ ?_
      · (intro h S'; clear S; have S := S'; clear S'; (try simp only [tq] at h))
        (refine wpl_p S ?_; clear S a; intro a S)
        refine wpl_take S rfl rfl rfl ?_
        iterate 2 (refine wpl_p S ?_; clear S a; intro a S)
        (refine wpList_nil (hKq14 _ _ ?_); try clear hKq14 Kq14)
        refine wpc_split S rfl (fun h => ?_) (fun h => ?_)
        · (skip; (try simp only [tq] at h))
          refine wp_skip ?_
          (refine hKq13 _ _ ?_; try (clear hKq13 Kq13))
          (refine wp_seq_k ?_; intro Kq15 hKq15)
          refine wp_block ?_
          (obtain ⟨b8, o8, hao, x, cs1, hx, hc1, ⟨w1, w2, w3, rfl, hT1, hT2, hT3⟩⟩ := LiM.pos hpos3 (k := k) (by omega); rw [hao] at S; have hdz : ruN (M.ru.drop k) = 1 + x.args.size + bodyN x.body + ruN (M.ru.drop (k + 1)) := (by rw [drop_at hx]; rfl); have hc3 : Cel F b8 (o8 + k * 6 + 3) w1 := hc1 3 _ rfl; have hc5 : Cel F b8 (o8 + k * 6 + 5) w3 := hc1 5 _ rfl; have hT1c := hT1; obtain ⟨af, cf, rfl, -, -⟩ := hT1c; have hT3c := hT3; obtain ⟨ag, cg, rfl, -, -⟩ := hT3c)
          (refine wpc_mixM [0, 1, 2, 3, 4, 5, 6, 7, 8, 9, 11, 12, 13, 14, 15, 16, 17, 18, 19, 21] [3, 7, 13, 17] [] (.one 0 (.one 1 (.one 2 (.one 3 (.one 4 (.one 5 (.one 6 (.one 7 (.one 8 (.one 9 (.one 12 (.one 13 (.one 14 (.one 15 (.one 16 (.one 17 (.one 18 (.one 19 (.one 10 (.one 11 (.one 20 (.one 21 (.one 22 .nil))))))))))))))))))))))) [b1] S mixed (by kernel_rfl) ?_; clear S; intro w S)
          (refine wpm_p S ?_; clear S a; intro a S)
          (refine wpm_a S ?_; clear S a; intro a S)
          (refine wpm_f S ?_; clear S a; intro a S)
          (refine wpm_o b1 S ?_; clear S a; intro a S)
          (refine wpm_p S ?_; clear S a; intro a S)
          (refine wpm_i S ?_; clear S a; intro a S)
          (refine wpm_f S ?_; clear S a; intro a S)
          (refine wpm_lateF S rfl rfl rfl (want_none _ rfl) rfl rfl (fun w' S => sv_loadF S rfl rfl hc3) ?_; clear S a; intro a S)
          (refine wpm_p S ?_; clear S a; intro a S)
          (refine wpm_s S ?_; clear S a; intro a S)
          (rw [show ((1000 : Int) - (n : Int)) = ((1000 - n : Nat) : Int) by omega] at S)
          (refine wpm_f S ?_; clear S a; intro a S)
          (refine wpm_o b1 S ?_; clear S a; intro a S)
          (refine wpm_p S ?_; clear S a; intro a S)
          (refine wpm_i S ?_; clear S a; intro a S)
          (refine wpm_f S ?_; clear S a; intro a S)
          (refine wpm_lateF S rfl rfl rfl (want_none _ rfl) rfl rfl (fun w' S => sv_loadF S rfl rfl hc5) ?_; clear S a; intro a S)
          (refine wpm_p S ?_; clear S a; intro a S)
          (refine wpm_s S ?_; clear S a; intro a S)
          (rw [show ((1000 : Int) - (n : Int)) = ((1000 - n : Nat) : Int) by omega] at S)
          refine wpm_eff rfl rfl (kwa S) ?_
          (refine wpl_c0 S (exprsNCt F x.args.size x.args _ (1000 - n) (Nat.le_refl _) (by omega) hT1) ?_; clear S a; intro v a w hv S; obtain ⟨p8, rfl, hp8⟩ := hv; unfold Cnt at hp8)
          refine wpList_nil ?_
          (refine wpm_a S ?_; clear S a; intro a S)
          refine wpm_eff rfl rfl (kwa S) ?_
          (refine wpl_c0 S (bodyNCt F x.body _ (1000 - n) (by omega) hT3) ?_; clear S a; intro v a w hv S; obtain ⟨p9, rfl, hp9⟩ := hv; unfold Cnt at hp9)
          refine wpList_nil ?_
          (refine wpm_a S ?_; clear S a; intro a S)
          refine wpm_eff rfl rfl (kwa S) ?_
          (refine wpl_p S ?_; clear S a; intro a S)
          refine wpList_nil ?_
          (refine wpm_nil (kwa S) (hKq15 _ _ ?_); try clear hKq15 Kq15)
          refine wp_region_lit ?_
          (refine wpl_p S ?_; clear S a; intro a S)
          (refine wpl_a S ?_; clear S a; intro a S)
          (refine wpl_p S ?_; clear S a; intro a S)
          refine wpList_nil ?_
          change ∃ m', _ ∧ _
          (rw [← hao] at S; refine ⟨M.ru.length - (k + 1), by omega, k + 1, n + 1 + p8 + p9, s + (1 + x.args.size + bodyN x.body), rfl, by omega, by omega, by omega, by omega, ?_⟩; refine S.keep ?_; repeat (first | exact trivial | refine ⟨rfl, ?_⟩))
        (skip; (try simp only [tq] at h))
        refine wp_exit ?_
        (refine hKq11 _ _ ?_; try (clear hKq11 Kq11))
        (refine wp_seq_k ?_; intro Kq15 hKq15)
        refine wp_sr fun Kq16 hKq16 => ?_
        (refine wpl_p S ?_; clear S a; intro a S)
        (refine wpList_nil (hKq16 _ _ ?_); try clear hKq16 Kq16)
        refine wp_block ?_
        refine wpc_loop (fun m a w' => ∃ (k n s : Nat), m = M.nv.length - k ∧ k ≤ M.nv.length ∧ s + nvN (M.nv.drop k) = mdN M ∧ (n < 1000 → n = s) ∧ n ≤ 281474976710656 ∧ St 142 [(1, ptr b1), (3, .int .i64 (n : Int)), (8, .int .i64 k)] w0 F [] F [[(b1, .cells ⟨[.string (bs M.nm), .slice i1 i2 i3, .slice ao1 M.ts.length cap1, .slice ao2 M.rs.length cap2, .slice ao3 M.ru.length cap3, .slice ao4 M.nv.length cap4]⟩ 37 (0, 0))]] a w') ?_ ?_
        · (have hz : n < 1000 → n = tsN M.ts + rsN M.rs + ruN M.ru := (by intro h9; have hz9 : ruN (M.ru.drop k) = 0 := (by rw [List.drop_eq_nil_of_le (by omega)]; rfl); omega); refine ⟨M.nv.length, 0, n, tsN M.ts + rsN M.rs + ruN M.ru, by omega, Nat.zero_le _, rfl, hz, hnb, ?_⟩; refine S.keep ?_; repeat (first | exact trivial | refine ⟨rfl, ?_⟩))
        (clear S; rintro m a w ⟨k, n, s, rfl, hkl, hs, hn, hnb, S⟩)
        (refine wp_seq_k ?_; intro Kq17 hKq17)
        refine wp_sr fun Kq18 hKq18 => ?_
        (refine wpl_p S ?_; clear S a; intro a S)
        (refine wpl_f S ?_; clear S a; intro a S)
        (refine wpl_l S ?_; clear S a; intro a S)
        (refine wpl_n S ?_; clear S a; intro a S)
        iterate 2 (refine wpl_p S ?_; clear S a; intro a S)
        refine wpl_guard S rfl rfl rfl rfl rfl ?_ ?_
        · (intro h S'; clear S; have S := S'; clear S'; (try simp only [tq] at h))
          (refine wpl_p S ?_; clear S a; intro a S)
          refine wpl_take S rfl rfl rfl ?_
          iterate 2 (refine wpl_p S ?_; clear S a; intro a S)
          (refine wpList_nil (hKq18 _ _ ?_); try clear hKq18 Kq18)
          refine wpc_split S rfl (fun h => ?_) (fun h => ?_)
          · (skip; (try simp only [tq] at h))
            refine wp_skip ?_
            (refine hKq17 _ _ ?_; try (clear hKq17 Kq17))
            (refine wp_seq_k ?_; intro Kq19 hKq19)
            refine wp_block ?_
            (obtain ⟨b8, o8, hao, x, cs1, hx, hc1, ⟨w3, rfl, hT3⟩⟩ := LiM.pos hpos4 (k := k) (by omega); rw [hao] at S; have hdz : nvN (M.nv.drop k) = 1 + bodyN x.body + nvN (M.nv.drop (k + 1)) := (by rw [drop_at hx]; rfl); have hc3 : Cel F b8 (o8 + k * 4 + 3) w3 := hc1 3 _ rfl; have hT3c := hT3; obtain ⟨ag, cg, rfl, -, -⟩ := hT3c)
            refine wp_region_lit ?_
            (refine wpl_p S ?_; clear S a; intro a S)
            (refine wpl_a S ?_; clear S a; intro a S)
            (refine wpl_f S ?_; clear S a; intro a S)
            (refine wpl_l S ?_; clear S a; intro a S)
            (refine wpl_p S ?_; clear S a; intro a S)
            (refine wpl_i S ?_; clear S a; intro a S)
            (refine wpl_f S ?_; clear S a; intro a S)
            (refine wpl_v S rfl rfl rfl (sv_loadF S rfl rfl hc3) ?_; clear S a; intro a S)
            (refine wpl_p S ?_; clear S a; intro a S)
            (refine wpl_s S ?_; clear S a; intro a S)
            (rw [show ((1000 : Int) - (n : Int)) = ((1000 - n : Nat) : Int) by omega] at S)
            (refine wpl_c0 S (bodyNCt F x.body _ (1000 - n) (by omega) hT3) ?_; clear S a; intro v a w hv S; obtain ⟨p9, rfl, hp9⟩ := hv; unfold Cnt at hp9)
            (refine wpl_a S ?_; clear S a; intro a S)
            (refine wpl_p S ?_; clear S a; intro a S)
            (refine wpList_nil (hKq19 _ _ ?_); try clear hKq19 Kq19)
            refine wp_region_lit ?_
            (refine wpl_p S ?_; clear S a; intro a S)
            (refine wpl_a S ?_; clear S a; intro a S)
            (refine wpl_p S ?_; clear S a; intro a S)
            refine wpList_nil ?_
            change ∃ m', _ ∧ _
            (rw [← hao] at S; refine ⟨M.nv.length - (k + 1), by omega, k + 1, n + 1 + p9, s + (1 + bodyN x.body), rfl, by omega, by omega, by omega, by omega, ?_⟩; refine S.keep ?_; repeat (first | exact trivial | refine ⟨rfl, ?_⟩))
          (skip; (try simp only [tq] at h))
          refine wp_exit ?_
          (refine hKq15 _ _ ?_; try (clear hKq15 Kq15))
          refine wp_sr fun Kq19 hKq19 => ?_
          iterate 3 (refine wpl_p S ?_; clear S a; intro a S)
          (refine wpList_nil (hKq19 _ _ ?_); try clear hKq19 Kq19)
          refine wp_ret (fin_ret S (results1 Tryz.results12 (RV.tmp S rfl)) ?_)
          (have hz : n < 1000 → n = mdN M := (by intro h9; have hz9 : nvN (M.nv.drop k) = 0 := (by rw [List.drop_eq_nil_of_le (by omega)]; rfl); omega); exact ⟨_, rfl, by intro h9; simp at h9; omega⟩)
        (intro h; clear S a; intro a S; (try simp only [tq] at h))
        (refine wpl_k S ?_; clear S a; intro a S)
        (refine wpl_p S ?_; clear S a; intro a S)
        (refine wpList_nil (hKq18 _ _ ?_); try clear hKq18 Kq18)
        refine wpc_false S rfl ?_
        refine wp_exit ?_
        (refine hKq15 _ _ ?_; try (clear hKq15 Kq15))
        refine wp_sr fun Kq19 hKq19 => ?_
        iterate 3 (refine wpl_p S ?_; clear S a; intro a S)
        (refine wpList_nil (hKq19 _ _ ?_); try clear hKq19 Kq19)
        refine wp_ret (fin_ret S (results1 Tryz.results12 (RV.tmp S rfl)) ?_)
        (have hz : n < 1000 → n = mdN M := (by intro h9; have hz9 : nvN (M.nv.drop k) = 0 := (by rw [List.drop_eq_nil_of_le (by omega)]; rfl); omega); exact ⟨_, rfl, by intro h9; simp at h9; omega⟩)
      (intro h; clear S a; intro a S; (try simp only [tq] at h))
      (refine wpl_k S ?_; clear S a; intro a S)
      (refine wpl_p S ?_; clear S a; intro a S)
      (refine wpList_nil (hKq14 _ _ ?_); try clear hKq14 Kq14)
      refine wpc_false S rfl ?_
      refine wp_exit ?_
      (refine hKq11 _ _ ?_; try (clear hKq11 Kq11))
      (refine wp_seq_k ?_; intro Kq15 hKq15)
      refine wp_sr fun Kq16 hKq16 => ?_
      (refine wpl_p S ?_; clear S a; intro a S)
      (refine wpList_nil (hKq16 _ _ ?_); try clear hKq16 Kq16)
      refine wp_block ?_
      refine wpc_loop (fun m a w' => ∃ (k n s : Nat), m = M.nv.length - k ∧ k ≤ M.nv.length ∧ s + nvN (M.nv.drop k) = mdN M ∧ (n < 1000 → n = s) ∧ n ≤ 281474976710656 ∧ St 142 [(1, ptr b1), (3, .int .i64 (n : Int)), (8, .int .i64 k)] w0 F [] F [[(b1, .cells ⟨[.string (bs M.nm), .slice i1 i2 i3, .slice ao1 M.ts.length cap1, .slice ao2 M.rs.length cap2, .slice ao3 M.ru.length cap3, .slice ao4 M.nv.length cap4]⟩ 37 (0, 0))]] a w') ?_ ?_
      · (have hz : n < 1000 → n = tsN M.ts + rsN M.rs + ruN M.ru := (by intro h9; have hz9 : ruN (M.ru.drop k) = 0 := (by rw [List.drop_eq_nil_of_le (by omega)]; rfl); omega); refine ⟨M.nv.length, 0, n, tsN M.ts + rsN M.rs + ruN M.ru, by omega, Nat.zero_le _, rfl, hz, hnb, ?_⟩; refine S.keep ?_; repeat (first | exact trivial | refine ⟨rfl, ?_⟩))
      (clear S; rintro m a w ⟨k, n, s, rfl, hkl, hs, hn, hnb, S⟩)
      (refine wp_seq_k ?_; intro Kq17 hKq17)
      refine wp_sr fun Kq18 hKq18 => ?_
      (refine wpl_p S ?_; clear S a; intro a S)
      (refine wpl_f S ?_; clear S a; intro a S)
      (refine wpl_l S ?_; clear S a; intro a S)
      (refine wpl_n S ?_; clear S a; intro a S)
      iterate 2 (refine wpl_p S ?_; clear S a; intro a S)
      refine wpl_guard S rfl rfl rfl rfl rfl ?_ ?_
      · (intro h S'; clear S; have S := S'; clear S'; (try simp only [tq] at h))
        (refine wpl_p S ?_; clear S a; intro a S)
        refine wpl_take S rfl rfl rfl ?_
        iterate 2 (refine wpl_p S ?_; clear S a; intro a S)
        (refine wpList_nil (hKq18 _ _ ?_); try clear hKq18 Kq18)
        refine wpc_split S rfl (fun h => ?_) (fun h => ?_)
        · (skip; (try simp only [tq] at h))
          refine wp_skip ?_
          (refine hKq17 _ _ ?_; try (clear hKq17 Kq17))
          (refine wp_seq_k ?_; intro Kq19 hKq19)
          refine wp_block ?_
          (obtain ⟨b8, o8, hao, x, cs1, hx, hc1, ⟨w3, rfl, hT3⟩⟩ := LiM.pos hpos4 (k := k) (by omega); rw [hao] at S; have hdz : nvN (M.nv.drop k) = 1 + bodyN x.body + nvN (M.nv.drop (k + 1)) := (by rw [drop_at hx]; rfl); have hc3 : Cel F b8 (o8 + k * 4 + 3) w3 := hc1 3 _ rfl; have hT3c := hT3; obtain ⟨ag, cg, rfl, -, -⟩ := hT3c)
          refine wp_region_lit ?_
          (refine wpl_p S ?_; clear S a; intro a S)
          (refine wpl_a S ?_; clear S a; intro a S)
          (refine wpl_f S ?_; clear S a; intro a S)
          (refine wpl_l S ?_; clear S a; intro a S)
          (refine wpl_p S ?_; clear S a; intro a S)
          (refine wpl_i S ?_; clear S a; intro a S)
          (refine wpl_f S ?_; clear S a; intro a S)
          (refine wpl_v S rfl rfl rfl (sv_loadF S rfl rfl hc3) ?_; clear S a; intro a S)
          (refine wpl_p S ?_; clear S a; intro a S)
          (refine wpl_s S ?_; clear S a; intro a S)
          (rw [show ((1000 : Int) - (n : Int)) = ((1000 - n : Nat) : Int) by omega] at S)
          (refine wpl_c0 S (bodyNCt F x.body _ (1000 - n) (by omega) hT3) ?_; clear S a; intro v a w hv S; obtain ⟨p9, rfl, hp9⟩ := hv; unfold Cnt at hp9)
          (refine wpl_a S ?_; clear S a; intro a S)
          (refine wpl_p S ?_; clear S a; intro a S)
          (refine wpList_nil (hKq19 _ _ ?_); try clear hKq19 Kq19)
          refine wp_region_lit ?_
          (refine wpl_p S ?_; clear S a; intro a S)
          (refine wpl_a S ?_; clear S a; intro a S)
          (refine wpl_p S ?_; clear S a; intro a S)
          refine wpList_nil ?_
          change ∃ m', _ ∧ _
          (rw [← hao] at S; refine ⟨M.nv.length - (k + 1), by omega, k + 1, n + 1 + p9, s + (1 + bodyN x.body), rfl, by omega, by omega, by omega, by omega, ?_⟩; refine S.keep ?_; repeat (first | exact trivial | refine ⟨rfl, ?_⟩))
        (skip; (try simp only [tq] at h))
        refine wp_exit ?_
        (refine hKq15 _ _ ?_; try (clear hKq15 Kq15))
        refine wp_sr fun Kq19 hKq19 => ?_
        iterate 3 (refine wpl_p S ?_; clear S a; intro a S)
        (refine wpList_nil (hKq19 _ _ ?_); try clear hKq19 Kq19)
        refine wp_ret (fin_ret S (results1 Tryz.results12 (RV.tmp S rfl)) ?_)
        (have hz : n < 1000 → n = mdN M := (by intro h9; have hz9 : nvN (M.nv.drop k) = 0 := (by rw [List.drop_eq_nil_of_le (by omega)]; rfl); omega); exact ⟨_, rfl, by intro h9; simp at h9; omega⟩)
      (intro h; clear S a; intro a S; (try simp only [tq] at h))
      (refine wpl_k S ?_; clear S a; intro a S)
      (refine wpl_p S ?_; clear S a; intro a S)
      (refine wpList_nil (hKq18 _ _ ?_); try clear hKq18 Kq18)
      refine wpc_false S rfl ?_
      refine wp_exit ?_
      (refine hKq15 _ _ ?_; try (clear hKq15 Kq15))
      refine wp_sr fun Kq19 hKq19 => ?_
      iterate 3 (refine wpl_p S ?_; clear S a; intro a S)
      (refine wpList_nil (hKq19 _ _ ?_); try clear hKq19 Kq19)
      refine wp_ret (fin_ret S (results1 Tryz.results12 (RV.tmp S rfl)) ?_)
      (have hz : n < 1000 → n = mdN M := (by intro h9; have hz9 : nvN (M.nv.drop k) = 0 := (by rw [List.drop_eq_nil_of_le (by omega)]; rfl); omega); exact ⟨_, rfl, by intro h9; simp at h9; omega⟩)
    (intro h; clear S a; intro a S; (try simp only [tq] at h))
    (refine wpl_k S ?_; clear S a; intro a S)
    (refine wpl_p S ?_; clear S a; intro a S)
    (refine wpList_nil (hKq10 _ _ ?_); try clear hKq10 Kq10)
    refine wpc_false S rfl ?_
    refine wp_exit ?_
    (refine hKq7 _ _ ?_; try (clear hKq7 Kq7))
    (refine wp_seq_k ?_; intro Kq11 hKq11)
    refine wp_sr fun Kq12 hKq12 => ?_
    (refine wpl_p S ?_; clear S a; intro a S)
    (refine wpList_nil (hKq12 _ _ ?_); try clear hKq12 Kq12)
    refine wp_block ?_
    refine wpc_loop (fun m a w' => ∃ (k n s : Nat), m = M.ru.length - k ∧ k ≤ M.ru.length ∧ s + ruN (M.ru.drop k) = tsN M.ts + rsN M.rs + ruN M.ru ∧ (n < 1000 → n = s) ∧ n ≤ 281474976710656 ∧ St 142 [(1, ptr b1), (3, .int .i64 (n : Int)), (7, .int .i64 k)] w0 F [] F [[(b1, .cells ⟨[.string (bs M.nm), .slice i1 i2 i3, .slice ao1 M.ts.length cap1, .slice ao2 M.rs.length cap2, .slice ao3 M.ru.length cap3, .slice ao4 M.nv.length cap4]⟩ 37 (0, 0))]] a w') ?_ ?_
    · (have hz : n < 1000 → n = tsN M.ts + rsN M.rs := (by intro h9; have hz9 : rsN (M.rs.drop k) = 0 := (by rw [List.drop_eq_nil_of_le (by omega)]; rfl); omega); refine ⟨M.ru.length, 0, n, tsN M.ts + rsN M.rs, by omega, Nat.zero_le _, rfl, hz, hnb, ?_⟩; refine S.keep ?_; repeat (first | exact trivial | refine ⟨rfl, ?_⟩))
    (clear S; rintro m a w ⟨k, n, s, rfl, hkl, hs, hn, hnb, S⟩)
    (refine wp_seq_k ?_; intro Kq13 hKq13)
    refine wp_sr fun Kq14 hKq14 => ?_
    (refine wpl_p S ?_; clear S a; intro a S)
    (refine wpl_f S ?_; clear S a; intro a S)
    (refine wpl_l S ?_; clear S a; intro a S)
    (refine wpl_n S ?_; clear S a; intro a S)
    iterate 2 (refine wpl_p S ?_; clear S a; intro a S)
    refine wpl_guard S rfl rfl rfl rfl rfl ?_ ?_
    · (intro h S'; clear S; have S := S'; clear S'; (try simp only [tq] at h))
      (refine wpl_p S ?_; clear S a; intro a S)
      refine wpl_take S rfl rfl rfl ?_
      iterate 2 (refine wpl_p S ?_; clear S a; intro a S)
      (refine wpList_nil (hKq14 _ _ ?_); try clear hKq14 Kq14)
      refine wpc_split S rfl (fun h => ?_) (fun h => ?_)
      · (skip; (try simp only [tq] at h))
        refine wp_skip ?_
        (refine hKq13 _ _ ?_; try (clear hKq13 Kq13))
        (refine wp_seq_k ?_; intro Kq15 hKq15)
        refine wp_block ?_
        (obtain ⟨b8, o8, hao, x, cs1, hx, hc1, ⟨w1, w2, w3, rfl, hT1, hT2, hT3⟩⟩ := LiM.pos hpos3 (k := k) (by omega); rw [hao] at S; have hdz : ruN (M.ru.drop k) = 1 + x.args.size + bodyN x.body + ruN (M.ru.drop (k + 1)) := (by rw [drop_at hx]; rfl); have hc3 : Cel F b8 (o8 + k * 6 + 3) w1 := hc1 3 _ rfl; have hc5 : Cel F b8 (o8 + k * 6 + 5) w3 := hc1 5 _ rfl; have hT1c := hT1; obtain ⟨af, cf, rfl, -, -⟩ := hT1c; have hT3c := hT3; obtain ⟨ag, cg, rfl, -, -⟩ := hT3c)
        (refine wpc_mixM [0, 1, 2, 3, 4, 5, 6, 7, 8, 9, 11, 12, 13, 14, 15, 16, 17, 18, 19, 21] [3, 7, 13, 17] [] (.one 0 (.one 1 (.one 2 (.one 3 (.one 4 (.one 5 (.one 6 (.one 7 (.one 8 (.one 9 (.one 12 (.one 13 (.one 14 (.one 15 (.one 16 (.one 17 (.one 18 (.one 19 (.one 10 (.one 11 (.one 20 (.one 21 (.one 22 .nil))))))))))))))))))))))) [b1] S mixed (by kernel_rfl) ?_; clear S; intro w S)
        (refine wpm_p S ?_; clear S a; intro a S)
        (refine wpm_a S ?_; clear S a; intro a S)
        (refine wpm_f S ?_; clear S a; intro a S)
        (refine wpm_o b1 S ?_; clear S a; intro a S)
        (refine wpm_p S ?_; clear S a; intro a S)
        (refine wpm_i S ?_; clear S a; intro a S)
        (refine wpm_f S ?_; clear S a; intro a S)
        (refine wpm_lateF S rfl rfl rfl (want_none _ rfl) rfl rfl (fun w' S => sv_loadF S rfl rfl hc3) ?_; clear S a; intro a S)
        (refine wpm_p S ?_; clear S a; intro a S)
        (refine wpm_s S ?_; clear S a; intro a S)
        (rw [show ((1000 : Int) - (n : Int)) = ((1000 - n : Nat) : Int) by omega] at S)
        (refine wpm_f S ?_; clear S a; intro a S)
        (refine wpm_o b1 S ?_; clear S a; intro a S)
        (refine wpm_p S ?_; clear S a; intro a S)
        (refine wpm_i S ?_; clear S a; intro a S)
        (refine wpm_f S ?_; clear S a; intro a S)
        (refine wpm_lateF S rfl rfl rfl (want_none _ rfl) rfl rfl (fun w' S => sv_loadF S rfl rfl hc5) ?_; clear S a; intro a S)
        (refine wpm_p S ?_; clear S a; intro a S)
        (refine wpm_s S ?_; clear S a; intro a S)
        (rw [show ((1000 : Int) - (n : Int)) = ((1000 - n : Nat) : Int) by omega] at S)
        refine wpm_eff rfl rfl (kwa S) ?_
        (refine wpl_c0 S (exprsNCt F x.args.size x.args _ (1000 - n) (Nat.le_refl _) (by omega) hT1) ?_; clear S a; intro v a w hv S; obtain ⟨p8, rfl, hp8⟩ := hv; unfold Cnt at hp8)
        refine wpList_nil ?_
        (refine wpm_a S ?_; clear S a; intro a S)
        refine wpm_eff rfl rfl (kwa S) ?_
        (refine wpl_c0 S (bodyNCt F x.body _ (1000 - n) (by omega) hT3) ?_; clear S a; intro v a w hv S; obtain ⟨p9, rfl, hp9⟩ := hv; unfold Cnt at hp9)
        refine wpList_nil ?_
        (refine wpm_a S ?_; clear S a; intro a S)
        refine wpm_eff rfl rfl (kwa S) ?_
        (refine wpl_p S ?_; clear S a; intro a S)
        refine wpList_nil ?_
        (refine wpm_nil (kwa S) (hKq15 _ _ ?_); try clear hKq15 Kq15)
        refine wp_region_lit ?_
        (refine wpl_p S ?_; clear S a; intro a S)
        (refine wpl_a S ?_; clear S a; intro a S)
        (refine wpl_p S ?_; clear S a; intro a S)
        refine wpList_nil ?_
        change ∃ m', _ ∧ _
        (rw [← hao] at S; refine ⟨M.ru.length - (k + 1), by omega, k + 1, n + 1 + p8 + p9, s + (1 + x.args.size + bodyN x.body), rfl, by omega, by omega, by omega, by omega, ?_⟩; refine S.keep ?_; repeat (first | exact trivial | refine ⟨rfl, ?_⟩))
      (skip; (try simp only [tq] at h))
      refine wp_exit ?_
      (refine hKq11 _ _ ?_; try (clear hKq11 Kq11))
      (refine wp_seq_k ?_; intro Kq15 hKq15)
      refine wp_sr fun Kq16 hKq16 => ?_
      (refine wpl_p S ?_; clear S a; intro a S)
      (refine wpList_nil (hKq16 _ _ ?_); try clear hKq16 Kq16)
      refine wp_block ?_
      refine wpc_loop (fun m a w' => ∃ (k n s : Nat), m = M.nv.length - k ∧ k ≤ M.nv.length ∧ s + nvN (M.nv.drop k) = mdN M ∧ (n < 1000 → n = s) ∧ n ≤ 281474976710656 ∧ St 142 [(1, ptr b1), (3, .int .i64 (n : Int)), (8, .int .i64 k)] w0 F [] F [[(b1, .cells ⟨[.string (bs M.nm), .slice i1 i2 i3, .slice ao1 M.ts.length cap1, .slice ao2 M.rs.length cap2, .slice ao3 M.ru.length cap3, .slice ao4 M.nv.length cap4]⟩ 37 (0, 0))]] a w') ?_ ?_
      · (have hz : n < 1000 → n = tsN M.ts + rsN M.rs + ruN M.ru := (by intro h9; have hz9 : ruN (M.ru.drop k) = 0 := (by rw [List.drop_eq_nil_of_le (by omega)]; rfl); omega); refine ⟨M.nv.length, 0, n, tsN M.ts + rsN M.rs + ruN M.ru, by omega, Nat.zero_le _, rfl, hz, hnb, ?_⟩; refine S.keep ?_; repeat (first | exact trivial | refine ⟨rfl, ?_⟩))
      (clear S; rintro m a w ⟨k, n, s, rfl, hkl, hs, hn, hnb, S⟩)
      (refine wp_seq_k ?_; intro Kq17 hKq17)
      refine wp_sr fun Kq18 hKq18 => ?_
      (refine wpl_p S ?_; clear S a; intro a S)
      (refine wpl_f S ?_; clear S a; intro a S)
      (refine wpl_l S ?_; clear S a; intro a S)
      (refine wpl_n S ?_; clear S a; intro a S)
      iterate 2 (refine wpl_p S ?_; clear S a; intro a S)
      refine wpl_guard S rfl rfl rfl rfl rfl ?_ ?_
      · (intro h S'; clear S; have S := S'; clear S'; (try simp only [tq] at h))
        (refine wpl_p S ?_; clear S a; intro a S)
        refine wpl_take S rfl rfl rfl ?_
        iterate 2 (refine wpl_p S ?_; clear S a; intro a S)
        (refine wpList_nil (hKq18 _ _ ?_); try clear hKq18 Kq18)
        refine wpc_split S rfl (fun h => ?_) (fun h => ?_)
        · (skip; (try simp only [tq] at h))
          refine wp_skip ?_
          (refine hKq17 _ _ ?_; try (clear hKq17 Kq17))
          (refine wp_seq_k ?_; intro Kq19 hKq19)
          refine wp_block ?_
          (obtain ⟨b8, o8, hao, x, cs1, hx, hc1, ⟨w3, rfl, hT3⟩⟩ := LiM.pos hpos4 (k := k) (by omega); rw [hao] at S; have hdz : nvN (M.nv.drop k) = 1 + bodyN x.body + nvN (M.nv.drop (k + 1)) := (by rw [drop_at hx]; rfl); have hc3 : Cel F b8 (o8 + k * 4 + 3) w3 := hc1 3 _ rfl; have hT3c := hT3; obtain ⟨ag, cg, rfl, -, -⟩ := hT3c)
          refine wp_region_lit ?_
          (refine wpl_p S ?_; clear S a; intro a S)
          (refine wpl_a S ?_; clear S a; intro a S)
          (refine wpl_f S ?_; clear S a; intro a S)
          (refine wpl_l S ?_; clear S a; intro a S)
          (refine wpl_p S ?_; clear S a; intro a S)
          (refine wpl_i S ?_; clear S a; intro a S)
          (refine wpl_f S ?_; clear S a; intro a S)
          (refine wpl_v S rfl rfl rfl (sv_loadF S rfl rfl hc3) ?_; clear S a; intro a S)
          (refine wpl_p S ?_; clear S a; intro a S)
          (refine wpl_s S ?_; clear S a; intro a S)
          (rw [show ((1000 : Int) - (n : Int)) = ((1000 - n : Nat) : Int) by omega] at S)
          (refine wpl_c0 S (bodyNCt F x.body _ (1000 - n) (by omega) hT3) ?_; clear S a; intro v a w hv S; obtain ⟨p9, rfl, hp9⟩ := hv; unfold Cnt at hp9)
          (refine wpl_a S ?_; clear S a; intro a S)
          (refine wpl_p S ?_; clear S a; intro a S)
          (refine wpList_nil (hKq19 _ _ ?_); try clear hKq19 Kq19)
          refine wp_region_lit ?_
          (refine wpl_p S ?_; clear S a; intro a S)
          (refine wpl_a S ?_; clear S a; intro a S)
          (refine wpl_p S ?_; clear S a; intro a S)
          refine wpList_nil ?_
          change ∃ m', _ ∧ _
          (rw [← hao] at S; refine ⟨M.nv.length - (k + 1), by omega, k + 1, n + 1 + p9, s + (1 + bodyN x.body), rfl, by omega, by omega, by omega, by omega, ?_⟩; refine S.keep ?_; repeat (first | exact trivial | refine ⟨rfl, ?_⟩))
        (skip; (try simp only [tq] at h))
        refine wp_exit ?_
        (refine hKq15 _ _ ?_; try (clear hKq15 Kq15))
        refine wp_sr fun Kq19 hKq19 => ?_
        iterate 3 (refine wpl_p S ?_; clear S a; intro a S)
        (refine wpList_nil (hKq19 _ _ ?_); try clear hKq19 Kq19)
        refine wp_ret (fin_ret S (results1 Tryz.results12 (RV.tmp S rfl)) ?_)
        (have hz : n < 1000 → n = mdN M := (by intro h9; have hz9 : nvN (M.nv.drop k) = 0 := (by rw [List.drop_eq_nil_of_le (by omega)]; rfl); omega); exact ⟨_, rfl, by intro h9; simp at h9; omega⟩)
      (intro h; clear S a; intro a S; (try simp only [tq] at h))
      (refine wpl_k S ?_; clear S a; intro a S)
      (refine wpl_p S ?_; clear S a; intro a S)
      (refine wpList_nil (hKq18 _ _ ?_); try clear hKq18 Kq18)
      refine wpc_false S rfl ?_
      refine wp_exit ?_
      (refine hKq15 _ _ ?_; try (clear hKq15 Kq15))
      refine wp_sr fun Kq19 hKq19 => ?_
      iterate 3 (refine wpl_p S ?_; clear S a; intro a S)
      (refine wpList_nil (hKq19 _ _ ?_); try clear hKq19 Kq19)
      refine wp_ret (fin_ret S (results1 Tryz.results12 (RV.tmp S rfl)) ?_)
      (have hz : n < 1000 → n = mdN M := (by intro h9; have hz9 : nvN (M.nv.drop k) = 0 := (by rw [List.drop_eq_nil_of_le (by omega)]; rfl); omega); exact ⟨_, rfl, by intro h9; simp at h9; omega⟩)
    (intro h; clear S a; intro a S; (try simp only [tq] at h))
    (refine wpl_k S ?_; clear S a; intro a S)
    (refine wpl_p S ?_; clear S a; intro a S)
    (refine wpList_nil (hKq14 _ _ ?_); try clear hKq14 Kq14)
    refine wpc_false S rfl ?_
    refine wp_exit ?_
    (refine hKq11 _ _ ?_; try (clear hKq11 Kq11))
    (refine wp_seq_k ?_; intro Kq15 hKq15)
    refine wp_sr fun Kq16 hKq16 => ?_
    (refine wpl_p S ?_; clear S a; intro a S)
    (refine wpList_nil (hKq16 _ _ ?_); try clear hKq16 Kq16)
    refine wp_block ?_
    refine wpc_loop (fun m a w' => ∃ (k n s : Nat), m = M.nv.length - k ∧ k ≤ M.nv.length ∧ s + nvN (M.nv.drop k) = mdN M ∧ (n < 1000 → n = s) ∧ n ≤ 281474976710656 ∧ St 142 [(1, ptr b1), (3, .int .i64 (n : Int)), (8, .int .i64 k)] w0 F [] F [[(b1, .cells ⟨[.string (bs M.nm), .slice i1 i2 i3, .slice ao1 M.ts.length cap1, .slice ao2 M.rs.length cap2, .slice ao3 M.ru.length cap3, .slice ao4 M.nv.length cap4]⟩ 37 (0, 0))]] a w') ?_ ?_
    · (have hz : n < 1000 → n = tsN M.ts + rsN M.rs + ruN M.ru := (by intro h9; have hz9 : ruN (M.ru.drop k) = 0 := (by rw [List.drop_eq_nil_of_le (by omega)]; rfl); omega); refine ⟨M.nv.length, 0, n, tsN M.ts + rsN M.rs + ruN M.ru, by omega, Nat.zero_le _, rfl, hz, hnb, ?_⟩; refine S.keep ?_; repeat (first | exact trivial | refine ⟨rfl, ?_⟩))
    (clear S; rintro m a w ⟨k, n, s, rfl, hkl, hs, hn, hnb, S⟩)
    (refine wp_seq_k ?_; intro Kq17 hKq17)
    refine wp_sr fun Kq18 hKq18 => ?_
    (refine wpl_p S ?_; clear S a; intro a S)
    (refine wpl_f S ?_; clear S a; intro a S)
    (refine wpl_l S ?_; clear S a; intro a S)
    (refine wpl_n S ?_; clear S a; intro a S)
    iterate 2 (refine wpl_p S ?_; clear S a; intro a S)
    refine wpl_guard S rfl rfl rfl rfl rfl ?_ ?_
    · (intro h S'; clear S; have S := S'; clear S'; (try simp only [tq] at h))
      (refine wpl_p S ?_; clear S a; intro a S)
      refine wpl_take S rfl rfl rfl ?_
      iterate 2 (refine wpl_p S ?_; clear S a; intro a S)
      (refine wpList_nil (hKq18 _ _ ?_); try clear hKq18 Kq18)
      refine wpc_split S rfl (fun h => ?_) (fun h => ?_)
      · (skip; (try simp only [tq] at h))
        refine wp_skip ?_
        (refine hKq17 _ _ ?_; try (clear hKq17 Kq17))
        (refine wp_seq_k ?_; intro Kq19 hKq19)
        refine wp_block ?_
        (obtain ⟨b8, o8, hao, x, cs1, hx, hc1, ⟨w3, rfl, hT3⟩⟩ := LiM.pos hpos4 (k := k) (by omega); rw [hao] at S; have hdz : nvN (M.nv.drop k) = 1 + bodyN x.body + nvN (M.nv.drop (k + 1)) := (by rw [drop_at hx]; rfl); have hc3 : Cel F b8 (o8 + k * 4 + 3) w3 := hc1 3 _ rfl; have hT3c := hT3; obtain ⟨ag, cg, rfl, -, -⟩ := hT3c)
        refine wp_region_lit ?_
        (refine wpl_p S ?_; clear S a; intro a S)
        (refine wpl_a S ?_; clear S a; intro a S)
        (refine wpl_f S ?_; clear S a; intro a S)
        (refine wpl_l S ?_; clear S a; intro a S)
        (refine wpl_p S ?_; clear S a; intro a S)
        (refine wpl_i S ?_; clear S a; intro a S)
        (refine wpl_f S ?_; clear S a; intro a S)
        (refine wpl_v S rfl rfl rfl (sv_loadF S rfl rfl hc3) ?_; clear S a; intro a S)
        (refine wpl_p S ?_; clear S a; intro a S)
        (refine wpl_s S ?_; clear S a; intro a S)
        (rw [show ((1000 : Int) - (n : Int)) = ((1000 - n : Nat) : Int) by omega] at S)
        (refine wpl_c0 S (bodyNCt F x.body _ (1000 - n) (by omega) hT3) ?_; clear S a; intro v a w hv S; obtain ⟨p9, rfl, hp9⟩ := hv; unfold Cnt at hp9)
        (refine wpl_a S ?_; clear S a; intro a S)
        (refine wpl_p S ?_; clear S a; intro a S)
        (refine wpList_nil (hKq19 _ _ ?_); try clear hKq19 Kq19)
        refine wp_region_lit ?_
        (refine wpl_p S ?_; clear S a; intro a S)
        (refine wpl_a S ?_; clear S a; intro a S)
        (refine wpl_p S ?_; clear S a; intro a S)
        refine wpList_nil ?_
        change ∃ m', _ ∧ _
        (rw [← hao] at S; refine ⟨M.nv.length - (k + 1), by omega, k + 1, n + 1 + p9, s + (1 + bodyN x.body), rfl, by omega, by omega, by omega, by omega, ?_⟩; refine S.keep ?_; repeat (first | exact trivial | refine ⟨rfl, ?_⟩))
      (skip; (try simp only [tq] at h))
      refine wp_exit ?_
      (refine hKq15 _ _ ?_; try (clear hKq15 Kq15))
      refine wp_sr fun Kq19 hKq19 => ?_
      iterate 3 (refine wpl_p S ?_; clear S a; intro a S)
      (refine wpList_nil (hKq19 _ _ ?_); try clear hKq19 Kq19)
      refine wp_ret (fin_ret S (results1 Tryz.results12 (RV.tmp S rfl)) ?_)
      (have hz : n < 1000 → n = mdN M := (by intro h9; have hz9 : nvN (M.nv.drop k) = 0 := (by rw [List.drop_eq_nil_of_le (by omega)]; rfl); omega); exact ⟨_, rfl, by intro h9; simp at h9; omega⟩)
    (intro h; clear S a; intro a S; (try simp only [tq] at h))
    (refine wpl_k S ?_; clear S a; intro a S)
    (refine wpl_p S ?_; clear S a; intro a S)
    (refine wpList_nil (hKq18 _ _ ?_); try clear hKq18 Kq18)
    refine wpc_false S rfl ?_
    refine wp_exit ?_
    (refine hKq15 _ _ ?_; try (clear hKq15 Kq15))
    refine wp_sr fun Kq19 hKq19 => ?_
    iterate 3 (refine wpl_p S ?_; clear S a; intro a S)
    (refine wpList_nil (hKq19 _ _ ?_); try clear hKq19 Kq19)
    refine wp_ret (fin_ret S (results1 Tryz.results12 (RV.tmp S rfl)) ?_)
    (have hz : n < 1000 → n = mdN M := (by intro h9; have hz9 : nvN (M.nv.drop k) = 0 := (by rw [List.drop_eq_nil_of_le (by omega)]; rfl); omega); exact ⟨_, rfl, by intro h9; simp at h9; omega⟩)
  (intro h; clear S a; intro a S; (try simp only [tq] at h))
  (refine wpl_k S ?_; clear S a; intro a S)
  (refine wpl_p S ?_; clear S a; intro a S)
  (refine wpList_nil (hKq6 _ _ ?_); try clear hKq6 Kq6)
  refine wpc_false S rfl ?_
  refine wp_exit ?_
  (refine hKq3 _ _ ?_; try (clear hKq3 Kq3))
  (refine wp_seq_k ?_; intro Kq7 hKq7)
  refine wp_sr fun Kq8 hKq8 => ?_
  (refine wpl_p S ?_; clear S a; intro a S)
  (refine wpList_nil (hKq8 _ _ ?_); try clear hKq8 Kq8)
  refine wp_block ?_
  refine wpc_loop (fun m a w' => ∃ (k n s : Nat), m = M.rs.length - k ∧ k ≤ M.rs.length ∧ s + rsN (M.rs.drop k) = tsN M.ts + rsN M.rs ∧ (n < 1000 → n = s) ∧ n ≤ 281474976710656 ∧ St 142 [(1, ptr b1), (3, .int .i64 (n : Int)), (6, .int .i64 k)] w0 F [] F [[(b1, .cells ⟨[.string (bs M.nm), .slice i1 i2 i3, .slice ao1 M.ts.length cap1, .slice ao2 M.rs.length cap2, .slice ao3 M.ru.length cap3, .slice ao4 M.nv.length cap4]⟩ 37 (0, 0))]] a w') ?_ ?_
  · (have hz : n < 1000 → n = tsN M.ts := (by intro h9; have hz9 : tsN (M.ts.drop k) = 0 := (by rw [List.drop_eq_nil_of_le (by omega)]; rfl); omega); refine ⟨M.rs.length, 0, n, tsN M.ts, by omega, Nat.zero_le _, rfl, hz, hnb, ?_⟩; refine S.keep ?_; repeat (first | exact trivial | refine ⟨rfl, ?_⟩))
  (clear S; rintro m a w ⟨k, n, s, rfl, hkl, hs, hn, hnb, S⟩)
  (refine wp_seq_k ?_; intro Kq9 hKq9)
  refine wp_sr fun Kq10 hKq10 => ?_
  (refine wpl_p S ?_; clear S a; intro a S)
  (refine wpl_f S ?_; clear S a; intro a S)
  (refine wpl_l S ?_; clear S a; intro a S)
  (refine wpl_n S ?_; clear S a; intro a S)
  iterate 2 (refine wpl_p S ?_; clear S a; intro a S)
  refine wpl_guard S rfl rfl rfl rfl rfl ?_ ?_
  · (intro h S'; clear S; have S := S'; clear S'; (try simp only [tq] at h))
    (refine wpl_p S ?_; clear S a; intro a S)
    refine wpl_take S rfl rfl rfl ?_
    iterate 2 (refine wpl_p S ?_; clear S a; intro a S)
    (refine wpList_nil (hKq10 _ _ ?_); try clear hKq10 Kq10)
    refine wpc_split S rfl (fun h => ?_) (fun h => ?_)
    · (skip; (try simp only [tq] at h))
      refine wp_skip ?_
      (refine hKq9 _ _ ?_; try (clear hKq9 Kq9))
      (refine wp_seq_k ?_; intro Kq11 hKq11)
      refine wp_block ?_
      (obtain ⟨b8, o8, hao, x, cs1, hx, hc1, ⟨w1, rfl, hT1⟩⟩ := LiM.pos hpos2 (k := k) (by omega); rw [hao] at S; have hdz : rsN (M.rs.drop k) = 1 + fdsN x.fs + rsN (M.rs.drop (k + 1)) := (by rw [drop_at hx]; rfl); have hc5 : Cel F b8 (o8 + k * 6 + 5) w1 := hc1 5 _ rfl; have hT1c := hT1; obtain ⟨af, cf, rfl, -, -⟩ := hT1c)
      refine wp_region_lit ?_
      (refine wpl_p S ?_; clear S a; intro a S)
      (refine wpl_a S ?_; clear S a; intro a S)
      (refine wpl_f S ?_; clear S a; intro a S)
      (refine wpl_l S ?_; clear S a; intro a S)
      (refine wpl_p S ?_; clear S a; intro a S)
      (refine wpl_i S ?_; clear S a; intro a S)
      (refine wpl_f S ?_; clear S a; intro a S)
      (refine wpl_v S rfl rfl rfl (sv_loadF S rfl rfl hc5) ?_; clear S a; intro a S)
      (refine wpl_p S ?_; clear S a; intro a S)
      (refine wpl_s S ?_; clear S a; intro a S)
      (rw [show ((1000 : Int) - (n : Int)) = ((1000 - n : Nat) : Int) by omega] at S)
      (first | (refine wpl_c0 S (fieldsNCt F y.fs _ (1000 - n2) (by omega) hT2) ?_; clear S a; intro v a w hv S; obtain ⟨p9, rfl, hp9⟩ := hv; unfold Cnt at hp9) | (refine wpl_c0 S (fieldsNCt F x.fs _ (1000 - n) (by omega) hT1) ?_; clear S a; intro v a w hv S; obtain ⟨p9, rfl, hp9⟩ := hv; unfold Cnt at hp9))
      (refine wpl_a S ?_; clear S a; intro a S)
      (refine wpl_p S ?_; clear S a; intro a S)
      (refine wpList_nil (hKq11 _ _ ?_); try clear hKq11 Kq11)
      refine wp_region_lit ?_
      (refine wpl_p S ?_; clear S a; intro a S)
      (refine wpl_a S ?_; clear S a; intro a S)
      (refine wpl_p S ?_; clear S a; intro a S)
      refine wpList_nil ?_
      change ∃ m', _ ∧ _
      (rw [← hao] at S; refine ⟨M.rs.length - (k + 1), by omega, k + 1, n + 1 + p9, s + (1 + fdsN x.fs), rfl, by omega, by omega, by omega, by omega, ?_⟩; refine S.keep ?_; repeat (first | exact trivial | refine ⟨rfl, ?_⟩))
    (skip; (try simp only [tq] at h))
    refine wp_exit ?_
    (refine hKq7 _ _ ?_; try (clear hKq7 Kq7))
    (refine wp_seq_k ?_; intro Kq11 hKq11)
    refine wp_sr fun Kq12 hKq12 => ?_
    (refine wpl_p S ?_; clear S a; intro a S)
    (refine wpList_nil (hKq12 _ _ ?_); try clear hKq12 Kq12)
    refine wp_block ?_
    refine wpc_loop (fun m a w' => ∃ (k n s : Nat), m = M.ru.length - k ∧ k ≤ M.ru.length ∧ s + ruN (M.ru.drop k) = tsN M.ts + rsN M.rs + ruN M.ru ∧ (n < 1000 → n = s) ∧ n ≤ 281474976710656 ∧ St 142 [(1, ptr b1), (3, .int .i64 (n : Int)), (7, .int .i64 k)] w0 F [] F [[(b1, .cells ⟨[.string (bs M.nm), .slice i1 i2 i3, .slice ao1 M.ts.length cap1, .slice ao2 M.rs.length cap2, .slice ao3 M.ru.length cap3, .slice ao4 M.nv.length cap4]⟩ 37 (0, 0))]] a w') ?_ ?_
    · (have hz : n < 1000 → n = tsN M.ts + rsN M.rs := (by intro h9; have hz9 : rsN (M.rs.drop k) = 0 := (by rw [List.drop_eq_nil_of_le (by omega)]; rfl); omega); refine ⟨M.ru.length, 0, n, tsN M.ts + rsN M.rs, by omega, Nat.zero_le _, rfl, hz, hnb, ?_⟩; refine S.keep ?_; repeat (first | exact trivial | refine ⟨rfl, ?_⟩))
    (clear S; rintro m a w ⟨k, n, s, rfl, hkl, hs, hn, hnb, S⟩)
    (refine wp_seq_k ?_; intro Kq13 hKq13)
    refine wp_sr fun Kq14 hKq14 => ?_
    (refine wpl_p S ?_; clear S a; intro a S)
    (refine wpl_f S ?_; clear S a; intro a S)
    (refine wpl_l S ?_; clear S a; intro a S)
    (refine wpl_n S ?_; clear S a; intro a S)
    iterate 2 (refine wpl_p S ?_; clear S a; intro a S)
    refine wpl_guard S rfl rfl rfl rfl rfl ?_ ?_
    · (intro h S'; clear S; have S := S'; clear S'; (try simp only [tq] at h))
      (refine wpl_p S ?_; clear S a; intro a S)
      refine wpl_take S rfl rfl rfl ?_
      iterate 2 (refine wpl_p S ?_; clear S a; intro a S)
      (refine wpList_nil (hKq14 _ _ ?_); try clear hKq14 Kq14)
      refine wpc_split S rfl (fun h => ?_) (fun h => ?_)
      · (skip; (try simp only [tq] at h))
        refine wp_skip ?_
        (refine hKq13 _ _ ?_; try (clear hKq13 Kq13))
        (refine wp_seq_k ?_; intro Kq15 hKq15)
        refine wp_block ?_
        (obtain ⟨b8, o8, hao, x, cs1, hx, hc1, ⟨w1, w2, w3, rfl, hT1, hT2, hT3⟩⟩ := LiM.pos hpos3 (k := k) (by omega); rw [hao] at S; have hdz : ruN (M.ru.drop k) = 1 + x.args.size + bodyN x.body + ruN (M.ru.drop (k + 1)) := (by rw [drop_at hx]; rfl); have hc3 : Cel F b8 (o8 + k * 6 + 3) w1 := hc1 3 _ rfl; have hc5 : Cel F b8 (o8 + k * 6 + 5) w3 := hc1 5 _ rfl; have hT1c := hT1; obtain ⟨af, cf, rfl, -, -⟩ := hT1c; have hT3c := hT3; obtain ⟨ag, cg, rfl, -, -⟩ := hT3c)
        (refine wpc_mixM [0, 1, 2, 3, 4, 5, 6, 7, 8, 9, 11, 12, 13, 14, 15, 16, 17, 18, 19, 21] [3, 7, 13, 17] [] (.one 0 (.one 1 (.one 2 (.one 3 (.one 4 (.one 5 (.one 6 (.one 7 (.one 8 (.one 9 (.one 12 (.one 13 (.one 14 (.one 15 (.one 16 (.one 17 (.one 18 (.one 19 (.one 10 (.one 11 (.one 20 (.one 21 (.one 22 .nil))))))))))))))))))))))) [b1] S mixed (by kernel_rfl) ?_; clear S; intro w S)
        (refine wpm_p S ?_; clear S a; intro a S)
        (refine wpm_a S ?_; clear S a; intro a S)
        (refine wpm_f S ?_; clear S a; intro a S)
        (refine wpm_o b1 S ?_; clear S a; intro a S)
        (refine wpm_p S ?_; clear S a; intro a S)
        (refine wpm_i S ?_; clear S a; intro a S)
        (refine wpm_f S ?_; clear S a; intro a S)
        (refine wpm_lateF S rfl rfl rfl (want_none _ rfl) rfl rfl (fun w' S => sv_loadF S rfl rfl hc3) ?_; clear S a; intro a S)
        (refine wpm_p S ?_; clear S a; intro a S)
        (refine wpm_s S ?_; clear S a; intro a S)
        (rw [show ((1000 : Int) - (n : Int)) = ((1000 - n : Nat) : Int) by omega] at S)
        (refine wpm_f S ?_; clear S a; intro a S)
        (refine wpm_o b1 S ?_; clear S a; intro a S)
        (refine wpm_p S ?_; clear S a; intro a S)
        (refine wpm_i S ?_; clear S a; intro a S)
        (refine wpm_f S ?_; clear S a; intro a S)
        (refine wpm_lateF S rfl rfl rfl (want_none _ rfl) rfl rfl (fun w' S => sv_loadF S rfl rfl hc5) ?_; clear S a; intro a S)
        (refine wpm_p S ?_; clear S a; intro a S)
        (refine wpm_s S ?_; clear S a; intro a S)
        (rw [show ((1000 : Int) - (n : Int)) = ((1000 - n : Nat) : Int) by omega] at S)
        refine wpm_eff rfl rfl (kwa S) ?_
        (refine wpl_c0 S (exprsNCt F x.args.size x.args _ (1000 - n) (Nat.le_refl _) (by omega) hT1) ?_; clear S a; intro v a w hv S; obtain ⟨p8, rfl, hp8⟩ := hv; unfold Cnt at hp8)
        refine wpList_nil ?_
        (refine wpm_a S ?_; clear S a; intro a S)
        refine wpm_eff rfl rfl (kwa S) ?_
        (refine wpl_c0 S (bodyNCt F x.body _ (1000 - n) (by omega) hT3) ?_; clear S a; intro v a w hv S; obtain ⟨p9, rfl, hp9⟩ := hv; unfold Cnt at hp9)
        refine wpList_nil ?_
        (refine wpm_a S ?_; clear S a; intro a S)
        refine wpm_eff rfl rfl (kwa S) ?_
        (refine wpl_p S ?_; clear S a; intro a S)
        refine wpList_nil ?_
        (refine wpm_nil (kwa S) (hKq15 _ _ ?_); try clear hKq15 Kq15)
        refine wp_region_lit ?_
        (refine wpl_p S ?_; clear S a; intro a S)
        (refine wpl_a S ?_; clear S a; intro a S)
        (refine wpl_p S ?_; clear S a; intro a S)
        refine wpList_nil ?_
        change ∃ m', _ ∧ _
        (rw [← hao] at S; refine ⟨M.ru.length - (k + 1), by omega, k + 1, n + 1 + p8 + p9, s + (1 + x.args.size + bodyN x.body), rfl, by omega, by omega, by omega, by omega, ?_⟩; refine S.keep ?_; repeat (first | exact trivial | refine ⟨rfl, ?_⟩))
      (skip; (try simp only [tq] at h))
      refine wp_exit ?_
      (refine hKq11 _ _ ?_; try (clear hKq11 Kq11))
      (refine wp_seq_k ?_; intro Kq15 hKq15)
      refine wp_sr fun Kq16 hKq16 => ?_
      (refine wpl_p S ?_; clear S a; intro a S)
      (refine wpList_nil (hKq16 _ _ ?_); try clear hKq16 Kq16)
      refine wp_block ?_
      refine wpc_loop (fun m a w' => ∃ (k n s : Nat), m = M.nv.length - k ∧ k ≤ M.nv.length ∧ s + nvN (M.nv.drop k) = mdN M ∧ (n < 1000 → n = s) ∧ n ≤ 281474976710656 ∧ St 142 [(1, ptr b1), (3, .int .i64 (n : Int)), (8, .int .i64 k)] w0 F [] F [[(b1, .cells ⟨[.string (bs M.nm), .slice i1 i2 i3, .slice ao1 M.ts.length cap1, .slice ao2 M.rs.length cap2, .slice ao3 M.ru.length cap3, .slice ao4 M.nv.length cap4]⟩ 37 (0, 0))]] a w') ?_ ?_
      · (have hz : n < 1000 → n = tsN M.ts + rsN M.rs + ruN M.ru := (by intro h9; have hz9 : ruN (M.ru.drop k) = 0 := (by rw [List.drop_eq_nil_of_le (by omega)]; rfl); omega); refine ⟨M.nv.length, 0, n, tsN M.ts + rsN M.rs + ruN M.ru, by omega, Nat.zero_le _, rfl, hz, hnb, ?_⟩; refine S.keep ?_; repeat (first | exact trivial | refine ⟨rfl, ?_⟩))
      (clear S; rintro m a w ⟨k, n, s, rfl, hkl, hs, hn, hnb, S⟩)
      (refine wp_seq_k ?_; intro Kq17 hKq17)
      refine wp_sr fun Kq18 hKq18 => ?_
      (refine wpl_p S ?_; clear S a; intro a S)
      (refine wpl_f S ?_; clear S a; intro a S)
      (refine wpl_l S ?_; clear S a; intro a S)
      (refine wpl_n S ?_; clear S a; intro a S)
      iterate 2 (refine wpl_p S ?_; clear S a; intro a S)
      refine wpl_guard S rfl rfl rfl rfl rfl ?_ ?_
      · (intro h S'; clear S; have S := S'; clear S'; (try simp only [tq] at h))
        (refine wpl_p S ?_; clear S a; intro a S)
        refine wpl_take S rfl rfl rfl ?_
        iterate 2 (refine wpl_p S ?_; clear S a; intro a S)
        (refine wpList_nil (hKq18 _ _ ?_); try clear hKq18 Kq18)
        refine wpc_split S rfl (fun h => ?_) (fun h => ?_)
        · (skip; (try simp only [tq] at h))
          refine wp_skip ?_
          (refine hKq17 _ _ ?_; try (clear hKq17 Kq17))
          (refine wp_seq_k ?_; intro Kq19 hKq19)
          refine wp_block ?_
          (obtain ⟨b8, o8, hao, x, cs1, hx, hc1, ⟨w3, rfl, hT3⟩⟩ := LiM.pos hpos4 (k := k) (by omega); rw [hao] at S; have hdz : nvN (M.nv.drop k) = 1 + bodyN x.body + nvN (M.nv.drop (k + 1)) := (by rw [drop_at hx]; rfl); have hc3 : Cel F b8 (o8 + k * 4 + 3) w3 := hc1 3 _ rfl; have hT3c := hT3; obtain ⟨ag, cg, rfl, -, -⟩ := hT3c)
          refine wp_region_lit ?_
          (refine wpl_p S ?_; clear S a; intro a S)
          (refine wpl_a S ?_; clear S a; intro a S)
          (refine wpl_f S ?_; clear S a; intro a S)
          (refine wpl_l S ?_; clear S a; intro a S)
          (refine wpl_p S ?_; clear S a; intro a S)
          (refine wpl_i S ?_; clear S a; intro a S)
          (refine wpl_f S ?_; clear S a; intro a S)
          (refine wpl_v S rfl rfl rfl (sv_loadF S rfl rfl hc3) ?_; clear S a; intro a S)
          (refine wpl_p S ?_; clear S a; intro a S)
          (refine wpl_s S ?_; clear S a; intro a S)
          (rw [show ((1000 : Int) - (n : Int)) = ((1000 - n : Nat) : Int) by omega] at S)
          (refine wpl_c0 S (bodyNCt F x.body _ (1000 - n) (by omega) hT3) ?_; clear S a; intro v a w hv S; obtain ⟨p9, rfl, hp9⟩ := hv; unfold Cnt at hp9)
          (refine wpl_a S ?_; clear S a; intro a S)
          (refine wpl_p S ?_; clear S a; intro a S)
          (refine wpList_nil (hKq19 _ _ ?_); try clear hKq19 Kq19)
          refine wp_region_lit ?_
          (refine wpl_p S ?_; clear S a; intro a S)
          (refine wpl_a S ?_; clear S a; intro a S)
          (refine wpl_p S ?_; clear S a; intro a S)
          refine wpList_nil ?_
          change ∃ m', _ ∧ _
          (rw [← hao] at S; refine ⟨M.nv.length - (k + 1), by omega, k + 1, n + 1 + p9, s + (1 + bodyN x.body), rfl, by omega, by omega, by omega, by omega, ?_⟩; refine S.keep ?_; repeat (first | exact trivial | refine ⟨rfl, ?_⟩))
        (skip; (try simp only [tq] at h))
        refine wp_exit ?_
        (refine hKq15 _ _ ?_; try (clear hKq15 Kq15))
        refine wp_sr fun Kq19 hKq19 => ?_
        iterate 3 (refine wpl_p S ?_; clear S a; intro a S)
        (refine wpList_nil (hKq19 _ _ ?_); try clear hKq19 Kq19)
        refine wp_ret (fin_ret S (results1 Tryz.results12 (RV.tmp S rfl)) ?_)
        (have hz : n < 1000 → n = mdN M := (by intro h9; have hz9 : nvN (M.nv.drop k) = 0 := (by rw [List.drop_eq_nil_of_le (by omega)]; rfl); omega); exact ⟨_, rfl, by intro h9; simp at h9; omega⟩)
      (intro h; clear S a; intro a S; (try simp only [tq] at h))
      (refine wpl_k S ?_; clear S a; intro a S)
      (refine wpl_p S ?_; clear S a; intro a S)
      (refine wpList_nil (hKq18 _ _ ?_); try clear hKq18 Kq18)
      refine wpc_false S rfl ?_
      refine wp_exit ?_
      (refine hKq15 _ _ ?_; try (clear hKq15 Kq15))
      refine wp_sr fun Kq19 hKq19 => ?_
      iterate 3 (refine wpl_p S ?_; clear S a; intro a S)
      (refine wpList_nil (hKq19 _ _ ?_); try clear hKq19 Kq19)
      refine wp_ret (fin_ret S (results1 Tryz.results12 (RV.tmp S rfl)) ?_)
      (have hz : n < 1000 → n = mdN M := (by intro h9; have hz9 : nvN (M.nv.drop k) = 0 := (by rw [List.drop_eq_nil_of_le (by omega)]; rfl); omega); exact ⟨_, rfl, by intro h9; simp at h9; omega⟩)
    (intro h; clear S a; intro a S; (try simp only [tq] at h))
    (refine wpl_k S ?_; clear S a; intro a S)
    (refine wpl_p S ?_; clear S a; intro a S)
    (refine wpList_nil (hKq14 _ _ ?_); try clear hKq14 Kq14)
    refine wpc_false S rfl ?_
    refine wp_exit ?_
    (refine hKq11 _ _ ?_; try (clear hKq11 Kq11))
    (refine wp_seq_k ?_; intro Kq15 hKq15)
    refine wp_sr fun Kq16 hKq16 => ?_
    (refine wpl_p S ?_; clear S a; intro a S)
    (refine wpList_nil (hKq16 _ _ ?_); try clear hKq16 Kq16)
    refine wp_block ?_
    refine wpc_loop (fun m a w' => ∃ (k n s : Nat), m = M.nv.length - k ∧ k ≤ M.nv.length ∧ s + nvN (M.nv.drop k) = mdN M ∧ (n < 1000 → n = s) ∧ n ≤ 281474976710656 ∧ St 142 [(1, ptr b1), (3, .int .i64 (n : Int)), (8, .int .i64 k)] w0 F [] F [[(b1, .cells ⟨[.string (bs M.nm), .slice i1 i2 i3, .slice ao1 M.ts.length cap1, .slice ao2 M.rs.length cap2, .slice ao3 M.ru.length cap3, .slice ao4 M.nv.length cap4]⟩ 37 (0, 0))]] a w') ?_ ?_
    · (have hz : n < 1000 → n = tsN M.ts + rsN M.rs + ruN M.ru := (by intro h9; have hz9 : ruN (M.ru.drop k) = 0 := (by rw [List.drop_eq_nil_of_le (by omega)]; rfl); omega); refine ⟨M.nv.length, 0, n, tsN M.ts + rsN M.rs + ruN M.ru, by omega, Nat.zero_le _, rfl, hz, hnb, ?_⟩; refine S.keep ?_; repeat (first | exact trivial | refine ⟨rfl, ?_⟩))
    (clear S; rintro m a w ⟨k, n, s, rfl, hkl, hs, hn, hnb, S⟩)
    (refine wp_seq_k ?_; intro Kq17 hKq17)
    refine wp_sr fun Kq18 hKq18 => ?_
    (refine wpl_p S ?_; clear S a; intro a S)
    (refine wpl_f S ?_; clear S a; intro a S)
    (refine wpl_l S ?_; clear S a; intro a S)
    (refine wpl_n S ?_; clear S a; intro a S)
    iterate 2 (refine wpl_p S ?_; clear S a; intro a S)
    refine wpl_guard S rfl rfl rfl rfl rfl ?_ ?_
    · (intro h S'; clear S; have S := S'; clear S'; (try simp only [tq] at h))
      (refine wpl_p S ?_; clear S a; intro a S)
      refine wpl_take S rfl rfl rfl ?_
      iterate 2 (refine wpl_p S ?_; clear S a; intro a S)
      (refine wpList_nil (hKq18 _ _ ?_); try clear hKq18 Kq18)
      refine wpc_split S rfl (fun h => ?_) (fun h => ?_)
      · (skip; (try simp only [tq] at h))
        refine wp_skip ?_
        (refine hKq17 _ _ ?_; try (clear hKq17 Kq17))
        (refine wp_seq_k ?_; intro Kq19 hKq19)
        refine wp_block ?_
        (obtain ⟨b8, o8, hao, x, cs1, hx, hc1, ⟨w3, rfl, hT3⟩⟩ := LiM.pos hpos4 (k := k) (by omega); rw [hao] at S; have hdz : nvN (M.nv.drop k) = 1 + bodyN x.body + nvN (M.nv.drop (k + 1)) := (by rw [drop_at hx]; rfl); have hc3 : Cel F b8 (o8 + k * 4 + 3) w3 := hc1 3 _ rfl; have hT3c := hT3; obtain ⟨ag, cg, rfl, -, -⟩ := hT3c)
        refine wp_region_lit ?_
        (refine wpl_p S ?_; clear S a; intro a S)
        (refine wpl_a S ?_; clear S a; intro a S)
        (refine wpl_f S ?_; clear S a; intro a S)
        (refine wpl_l S ?_; clear S a; intro a S)
        (refine wpl_p S ?_; clear S a; intro a S)
        (refine wpl_i S ?_; clear S a; intro a S)
        (refine wpl_f S ?_; clear S a; intro a S)
        (refine wpl_v S rfl rfl rfl (sv_loadF S rfl rfl hc3) ?_; clear S a; intro a S)
        (refine wpl_p S ?_; clear S a; intro a S)
        (refine wpl_s S ?_; clear S a; intro a S)
        (rw [show ((1000 : Int) - (n : Int)) = ((1000 - n : Nat) : Int) by omega] at S)
        (refine wpl_c0 S (bodyNCt F x.body _ (1000 - n) (by omega) hT3) ?_; clear S a; intro v a w hv S; obtain ⟨p9, rfl, hp9⟩ := hv; unfold Cnt at hp9)
        (refine wpl_a S ?_; clear S a; intro a S)
        (refine wpl_p S ?_; clear S a; intro a S)
        (refine wpList_nil (hKq19 _ _ ?_); try clear hKq19 Kq19)
        refine wp_region_lit ?_
        (refine wpl_p S ?_; clear S a; intro a S)
        (refine wpl_a S ?_; clear S a; intro a S)
        (refine wpl_p S ?_; clear S a; intro a S)
        refine wpList_nil ?_
        change ∃ m', _ ∧ _
        (rw [← hao] at S; refine ⟨M.nv.length - (k + 1), by omega, k + 1, n + 1 + p9, s + (1 + bodyN x.body), rfl, by omega, by omega, by omega, by omega, ?_⟩; refine S.keep ?_; repeat (first | exact trivial | refine ⟨rfl, ?_⟩))
      (skip; (try simp only [tq] at h))
      refine wp_exit ?_
      (refine hKq15 _ _ ?_; try (clear hKq15 Kq15))
      refine wp_sr fun Kq19 hKq19 => ?_
      iterate 3 (refine wpl_p S ?_; clear S a; intro a S)
      (refine wpList_nil (hKq19 _ _ ?_); try clear hKq19 Kq19)
      refine wp_ret (fin_ret S (results1 Tryz.results12 (RV.tmp S rfl)) ?_)
      (have hz : n < 1000 → n = mdN M := (by intro h9; have hz9 : nvN (M.nv.drop k) = 0 := (by rw [List.drop_eq_nil_of_le (by omega)]; rfl); omega); exact ⟨_, rfl, by intro h9; simp at h9; omega⟩)
    (intro h; clear S a; intro a S; (try simp only [tq] at h))
    (refine wpl_k S ?_; clear S a; intro a S)
    (refine wpl_p S ?_; clear S a; intro a S)
    (refine wpList_nil (hKq18 _ _ ?_); try clear hKq18 Kq18)
    refine wpc_false S rfl ?_
    refine wp_exit ?_
    (refine hKq15 _ _ ?_; try (clear hKq15 Kq15))
    refine wp_sr fun Kq19 hKq19 => ?_
    iterate 3 (refine wpl_p S ?_; clear S a; intro a S)
    (refine wpList_nil (hKq19 _ _ ?_); try clear hKq19 Kq19)
    refine wp_ret (fin_ret S (results1 Tryz.results12 (RV.tmp S rfl)) ?_)
    (have hz : n < 1000 → n = mdN M := (by intro h9; have hz9 : nvN (M.nv.drop k) = 0 := (by rw [List.drop_eq_nil_of_le (by omega)]; rfl); omega); exact ⟨_, rfl, by intro h9; simp at h9; omega⟩)
  (intro h; clear S a; intro a S; (try simp only [tq] at h))
  (refine wpl_k S ?_; clear S a; intro a S)
  (refine wpl_p S ?_; clear S a; intro a S)
  (refine wpList_nil (hKq10 _ _ ?_); try clear hKq10 Kq10)
  refine wpc_false S rfl ?_
  refine wp_exit ?_
  (refine hKq7 _ _ ?_; try (clear hKq7 Kq7))
  (refine wp_seq_k ?_; intro Kq11 hKq11)
  refine wp_sr fun Kq12 hKq12 => ?_
  (refine wpl_p S ?_; clear S a; intro a S)
  (refine wpList_nil (hKq12 _ _ ?_); try clear hKq12 Kq12)
  refine wp_block ?_
  refine wpc_loop (fun m a w' => ∃ (k n s : Nat), m = M.ru.length - k ∧ k ≤ M.ru.length ∧ s + ruN (M.ru.drop k) = tsN M.ts + rsN M.rs + ruN M.ru ∧ (n < 1000 → n = s) ∧ n ≤ 281474976710656 ∧ St 142 [(1, ptr b1), (3, .int .i64 (n : Int)), (7, .int .i64 k)] w0 F [] F [[(b1, .cells ⟨[.string (bs M.nm), .slice i1 i2 i3, .slice ao1 M.ts.length cap1, .slice ao2 M.rs.length cap2, .slice ao3 M.ru.length cap3, .slice ao4 M.nv.length cap4]⟩ 37 (0, 0))]] a w') ?_ ?_
  · (have hz : n < 1000 → n = tsN M.ts + rsN M.rs := (by intro h9; have hz9 : rsN (M.rs.drop k) = 0 := (by rw [List.drop_eq_nil_of_le (by omega)]; rfl); omega); refine ⟨M.ru.length, 0, n, tsN M.ts + rsN M.rs, by omega, Nat.zero_le _, rfl, hz, hnb, ?_⟩; refine S.keep ?_; repeat (first | exact trivial | refine ⟨rfl, ?_⟩))
  (clear S; rintro m a w ⟨k, n, s, rfl, hkl, hs, hn, hnb, S⟩)
  (refine wp_seq_k ?_; intro Kq13 hKq13)
  refine wp_sr fun Kq14 hKq14 => ?_
  (refine wpl_p S ?_; clear S a; intro a S)
  (refine wpl_f S ?_; clear S a; intro a S)
  (refine wpl_l S ?_; clear S a; intro a S)
  (refine wpl_n S ?_; clear S a; intro a S)
  iterate 2 (refine wpl_p S ?_; clear S a; intro a S)
  refine wpl_guard S rfl rfl rfl rfl rfl ?_ ?_
  · (intro h S'; clear S; have S := S'; clear S'; (try simp only [tq] at h))
    (refine wpl_p S ?_; clear S a; intro a S)
    refine wpl_take S rfl rfl rfl ?_
    iterate 2 (refine wpl_p S ?_; clear S a; intro a S)
    (refine wpList_nil (hKq14 _ _ ?_); try clear hKq14 Kq14)
    refine wpc_split S rfl (fun h => ?_) (fun h => ?_)
    · (skip; (try simp only [tq] at h))
      refine wp_skip ?_
      (refine hKq13 _ _ ?_; try (clear hKq13 Kq13))
      (refine wp_seq_k ?_; intro Kq15 hKq15)
      refine wp_block ?_
      (obtain ⟨b8, o8, hao, x, cs1, hx, hc1, ⟨w1, w2, w3, rfl, hT1, hT2, hT3⟩⟩ := LiM.pos hpos3 (k := k) (by omega); rw [hao] at S; have hdz : ruN (M.ru.drop k) = 1 + x.args.size + bodyN x.body + ruN (M.ru.drop (k + 1)) := (by rw [drop_at hx]; rfl); have hc3 : Cel F b8 (o8 + k * 6 + 3) w1 := hc1 3 _ rfl; have hc5 : Cel F b8 (o8 + k * 6 + 5) w3 := hc1 5 _ rfl; have hT1c := hT1; obtain ⟨af, cf, rfl, -, -⟩ := hT1c; have hT3c := hT3; obtain ⟨ag, cg, rfl, -, -⟩ := hT3c)
      (refine wpc_mixM [0, 1, 2, 3, 4, 5, 6, 7, 8, 9, 11, 12, 13, 14, 15, 16, 17, 18, 19, 21] [3, 7, 13, 17] [] (.one 0 (.one 1 (.one 2 (.one 3 (.one 4 (.one 5 (.one 6 (.one 7 (.one 8 (.one 9 (.one 12 (.one 13 (.one 14 (.one 15 (.one 16 (.one 17 (.one 18 (.one 19 (.one 10 (.one 11 (.one 20 (.one 21 (.one 22 .nil))))))))))))))))))))))) [b1] S mixed (by kernel_rfl) ?_; clear S; intro w S)
      (refine wpm_p S ?_; clear S a; intro a S)
      (refine wpm_a S ?_; clear S a; intro a S)
      (refine wpm_f S ?_; clear S a; intro a S)
      (refine wpm_o b1 S ?_; clear S a; intro a S)
      (refine wpm_p S ?_; clear S a; intro a S)
      (refine wpm_i S ?_; clear S a; intro a S)
      (refine wpm_f S ?_; clear S a; intro a S)
      (refine wpm_lateF S rfl rfl rfl (want_none _ rfl) rfl rfl (fun w' S => sv_loadF S rfl rfl hc3) ?_; clear S a; intro a S)
      (refine wpm_p S ?_; clear S a; intro a S)
      (refine wpm_s S ?_; clear S a; intro a S)
      (rw [show ((1000 : Int) - (n : Int)) = ((1000 - n : Nat) : Int) by omega] at S)
      (refine wpm_f S ?_; clear S a; intro a S)
      (refine wpm_o b1 S ?_; clear S a; intro a S)
      (refine wpm_p S ?_; clear S a; intro a S)
      (refine wpm_i S ?_; clear S a; intro a S)
      (refine wpm_f S ?_; clear S a; intro a S)
      (refine wpm_lateF S rfl rfl rfl (want_none _ rfl) rfl rfl (fun w' S => sv_loadF S rfl rfl hc5) ?_; clear S a; intro a S)
      (refine wpm_p S ?_; clear S a; intro a S)
      (refine wpm_s S ?_; clear S a; intro a S)
      (rw [show ((1000 : Int) - (n : Int)) = ((1000 - n : Nat) : Int) by omega] at S)
      refine wpm_eff rfl rfl (kwa S) ?_
      (refine wpl_c0 S (exprsNCt F x.args.size x.args _ (1000 - n) (Nat.le_refl _) (by omega) hT1) ?_; clear S a; intro v a w hv S; obtain ⟨p8, rfl, hp8⟩ := hv; unfold Cnt at hp8)
      refine wpList_nil ?_
      (refine wpm_a S ?_; clear S a; intro a S)
      refine wpm_eff rfl rfl (kwa S) ?_
      (refine wpl_c0 S (bodyNCt F x.body _ (1000 - n) (by omega) hT3) ?_; clear S a; intro v a w hv S; obtain ⟨p9, rfl, hp9⟩ := hv; unfold Cnt at hp9)
      refine wpList_nil ?_
      (refine wpm_a S ?_; clear S a; intro a S)
      refine wpm_eff rfl rfl (kwa S) ?_
      (refine wpl_p S ?_; clear S a; intro a S)
      refine wpList_nil ?_
      (refine wpm_nil (kwa S) (hKq15 _ _ ?_); try clear hKq15 Kq15)
      refine wp_region_lit ?_
      (refine wpl_p S ?_; clear S a; intro a S)
      (refine wpl_a S ?_; clear S a; intro a S)
      (refine wpl_p S ?_; clear S a; intro a S)
      refine wpList_nil ?_
      change ∃ m', _ ∧ _
      (rw [← hao] at S; refine ⟨M.ru.length - (k + 1), by omega, k + 1, n + 1 + p8 + p9, s + (1 + x.args.size + bodyN x.body), rfl, by omega, by omega, by omega, by omega, ?_⟩; refine S.keep ?_; repeat (first | exact trivial | refine ⟨rfl, ?_⟩))
    (skip; (try simp only [tq] at h))
    refine wp_exit ?_
    (refine hKq11 _ _ ?_; try (clear hKq11 Kq11))
    (refine wp_seq_k ?_; intro Kq15 hKq15)
    refine wp_sr fun Kq16 hKq16 => ?_
    (refine wpl_p S ?_; clear S a; intro a S)
    (refine wpList_nil (hKq16 _ _ ?_); try clear hKq16 Kq16)
    refine wp_block ?_
    refine wpc_loop (fun m a w' => ∃ (k n s : Nat), m = M.nv.length - k ∧ k ≤ M.nv.length ∧ s + nvN (M.nv.drop k) = mdN M ∧ (n < 1000 → n = s) ∧ n ≤ 281474976710656 ∧ St 142 [(1, ptr b1), (3, .int .i64 (n : Int)), (8, .int .i64 k)] w0 F [] F [[(b1, .cells ⟨[.string (bs M.nm), .slice i1 i2 i3, .slice ao1 M.ts.length cap1, .slice ao2 M.rs.length cap2, .slice ao3 M.ru.length cap3, .slice ao4 M.nv.length cap4]⟩ 37 (0, 0))]] a w') ?_ ?_
    · (have hz : n < 1000 → n = tsN M.ts + rsN M.rs + ruN M.ru := (by intro h9; have hz9 : ruN (M.ru.drop k) = 0 := (by rw [List.drop_eq_nil_of_le (by omega)]; rfl); omega); refine ⟨M.nv.length, 0, n, tsN M.ts + rsN M.rs + ruN M.ru, by omega, Nat.zero_le _, rfl, hz, hnb, ?_⟩; refine S.keep ?_; repeat (first | exact trivial | refine ⟨rfl, ?_⟩))
    (clear S; rintro m a w ⟨k, n, s, rfl, hkl, hs, hn, hnb, S⟩)
    (refine wp_seq_k ?_; intro Kq17 hKq17)
    refine wp_sr fun Kq18 hKq18 => ?_
    (refine wpl_p S ?_; clear S a; intro a S)
    (refine wpl_f S ?_; clear S a; intro a S)
    (refine wpl_l S ?_; clear S a; intro a S)
    (refine wpl_n S ?_; clear S a; intro a S)
    iterate 2 (refine wpl_p S ?_; clear S a; intro a S)
    refine wpl_guard S rfl rfl rfl rfl rfl ?_ ?_
    · (intro h S'; clear S; have S := S'; clear S'; (try simp only [tq] at h))
      (refine wpl_p S ?_; clear S a; intro a S)
      refine wpl_take S rfl rfl rfl ?_
      iterate 2 (refine wpl_p S ?_; clear S a; intro a S)
      (refine wpList_nil (hKq18 _ _ ?_); try clear hKq18 Kq18)
      refine wpc_split S rfl (fun h => ?_) (fun h => ?_)
      · (skip; (try simp only [tq] at h))
        refine wp_skip ?_
        (refine hKq17 _ _ ?_; try (clear hKq17 Kq17))
        (refine wp_seq_k ?_; intro Kq19 hKq19)
        refine wp_block ?_
        (obtain ⟨b8, o8, hao, x, cs1, hx, hc1, ⟨w3, rfl, hT3⟩⟩ := LiM.pos hpos4 (k := k) (by omega); rw [hao] at S; have hdz : nvN (M.nv.drop k) = 1 + bodyN x.body + nvN (M.nv.drop (k + 1)) := (by rw [drop_at hx]; rfl); have hc3 : Cel F b8 (o8 + k * 4 + 3) w3 := hc1 3 _ rfl; have hT3c := hT3; obtain ⟨ag, cg, rfl, -, -⟩ := hT3c)
        refine wp_region_lit ?_
        (refine wpl_p S ?_; clear S a; intro a S)
        (refine wpl_a S ?_; clear S a; intro a S)
        (refine wpl_f S ?_; clear S a; intro a S)
        (refine wpl_l S ?_; clear S a; intro a S)
        (refine wpl_p S ?_; clear S a; intro a S)
        (refine wpl_i S ?_; clear S a; intro a S)
        (refine wpl_f S ?_; clear S a; intro a S)
        (refine wpl_v S rfl rfl rfl (sv_loadF S rfl rfl hc3) ?_; clear S a; intro a S)
        (refine wpl_p S ?_; clear S a; intro a S)
        (refine wpl_s S ?_; clear S a; intro a S)
        (rw [show ((1000 : Int) - (n : Int)) = ((1000 - n : Nat) : Int) by omega] at S)
        (refine wpl_c0 S (bodyNCt F x.body _ (1000 - n) (by omega) hT3) ?_; clear S a; intro v a w hv S; obtain ⟨p9, rfl, hp9⟩ := hv; unfold Cnt at hp9)
        (refine wpl_a S ?_; clear S a; intro a S)
        (refine wpl_p S ?_; clear S a; intro a S)
        (refine wpList_nil (hKq19 _ _ ?_); try clear hKq19 Kq19)
        refine wp_region_lit ?_
        (refine wpl_p S ?_; clear S a; intro a S)
        (refine wpl_a S ?_; clear S a; intro a S)
        (refine wpl_p S ?_; clear S a; intro a S)
        refine wpList_nil ?_
        change ∃ m', _ ∧ _
        (rw [← hao] at S; refine ⟨M.nv.length - (k + 1), by omega, k + 1, n + 1 + p9, s + (1 + bodyN x.body), rfl, by omega, by omega, by omega, by omega, ?_⟩; refine S.keep ?_; repeat (first | exact trivial | refine ⟨rfl, ?_⟩))
      (skip; (try simp only [tq] at h))
      refine wp_exit ?_
      (refine hKq15 _ _ ?_; try (clear hKq15 Kq15))
      refine wp_sr fun Kq19 hKq19 => ?_
      iterate 3 (refine wpl_p S ?_; clear S a; intro a S)
      (refine wpList_nil (hKq19 _ _ ?_); try clear hKq19 Kq19)
      refine wp_ret (fin_ret S (results1 Tryz.results12 (RV.tmp S rfl)) ?_)
      (have hz : n < 1000 → n = mdN M := (by intro h9; have hz9 : nvN (M.nv.drop k) = 0 := (by rw [List.drop_eq_nil_of_le (by omega)]; rfl); omega); exact ⟨_, rfl, by intro h9; simp at h9; omega⟩)
    (intro h; clear S a; intro a S; (try simp only [tq] at h))
    (refine wpl_k S ?_; clear S a; intro a S)
    (refine wpl_p S ?_; clear S a; intro a S)
    (refine wpList_nil (hKq18 _ _ ?_); try clear hKq18 Kq18)
    refine wpc_false S rfl ?_
    refine wp_exit ?_
    (refine hKq15 _ _ ?_; try (clear hKq15 Kq15))
    refine wp_sr fun Kq19 hKq19 => ?_
    iterate 3 (refine wpl_p S ?_; clear S a; intro a S)
    (refine wpList_nil (hKq19 _ _ ?_); try clear hKq19 Kq19)
    refine wp_ret (fin_ret S (results1 Tryz.results12 (RV.tmp S rfl)) ?_)
    (have hz : n < 1000 → n = mdN M := (by intro h9; have hz9 : nvN (M.nv.drop k) = 0 := (by rw [List.drop_eq_nil_of_le (by omega)]; rfl); omega); exact ⟨_, rfl, by intro h9; simp at h9; omega⟩)
  (intro h; clear S a; intro a S; (try simp only [tq] at h))
  (refine wpl_k S ?_; clear S a; intro a S)
  (refine wpl_p S ?_; clear S a; intro a S)
  (refine wpList_nil (hKq14 _ _ ?_); try clear hKq14 Kq14)
  refine wpc_false S rfl ?_
  refine wp_exit ?_
  (refine hKq11 _ _ ?_; try (clear hKq11 Kq11))
  (refine wp_seq_k ?_; intro Kq15 hKq15)
  refine wp_sr fun Kq16 hKq16 => ?_
  (refine wpl_p S ?_; clear S a; intro a S)
  (refine wpList_nil (hKq16 _ _ ?_); try clear hKq16 Kq16)
  refine wp_block ?_
  refine wpc_loop (fun m a w' => ∃ (k n s : Nat), m = M.nv.length - k ∧ k ≤ M.nv.length ∧ s + nvN (M.nv.drop k) = mdN M ∧ (n < 1000 → n = s) ∧ n ≤ 281474976710656 ∧ St 142 [(1, ptr b1), (3, .int .i64 (n : Int)), (8, .int .i64 k)] w0 F [] F [[(b1, .cells ⟨[.string (bs M.nm), .slice i1 i2 i3, .slice ao1 M.ts.length cap1, .slice ao2 M.rs.length cap2, .slice ao3 M.ru.length cap3, .slice ao4 M.nv.length cap4]⟩ 37 (0, 0))]] a w') ?_ ?_
  · (have hz : n < 1000 → n = tsN M.ts + rsN M.rs + ruN M.ru := (by intro h9; have hz9 : ruN (M.ru.drop k) = 0 := (by rw [List.drop_eq_nil_of_le (by omega)]; rfl); omega); refine ⟨M.nv.length, 0, n, tsN M.ts + rsN M.rs + ruN M.ru, by omega, Nat.zero_le _, rfl, hz, hnb, ?_⟩; refine S.keep ?_; repeat (first | exact trivial | refine ⟨rfl, ?_⟩))
  (clear S; rintro m a w ⟨k, n, s, rfl, hkl, hs, hn, hnb, S⟩)
  (refine wp_seq_k ?_; intro Kq17 hKq17)
  refine wp_sr fun Kq18 hKq18 => ?_
  (refine wpl_p S ?_; clear S a; intro a S)
  (refine wpl_f S ?_; clear S a; intro a S)
  (refine wpl_l S ?_; clear S a; intro a S)
  (refine wpl_n S ?_; clear S a; intro a S)
  iterate 2 (refine wpl_p S ?_; clear S a; intro a S)
  refine wpl_guard S rfl rfl rfl rfl rfl ?_ ?_
  · (intro h S'; clear S; have S := S'; clear S'; (try simp only [tq] at h))
    (refine wpl_p S ?_; clear S a; intro a S)
    refine wpl_take S rfl rfl rfl ?_
    iterate 2 (refine wpl_p S ?_; clear S a; intro a S)
    (refine wpList_nil (hKq18 _ _ ?_); try clear hKq18 Kq18)
    refine wpc_split S rfl (fun h => ?_) (fun h => ?_)
    · (skip; (try simp only [tq] at h))
      refine wp_skip ?_
      (refine hKq17 _ _ ?_; try (clear hKq17 Kq17))
      (refine wp_seq_k ?_; intro Kq19 hKq19)
      refine wp_block ?_
      (obtain ⟨b8, o8, hao, x, cs1, hx, hc1, ⟨w3, rfl, hT3⟩⟩ := LiM.pos hpos4 (k := k) (by omega); rw [hao] at S; have hdz : nvN (M.nv.drop k) = 1 + bodyN x.body + nvN (M.nv.drop (k + 1)) := (by rw [drop_at hx]; rfl); have hc3 : Cel F b8 (o8 + k * 4 + 3) w3 := hc1 3 _ rfl; have hT3c := hT3; obtain ⟨ag, cg, rfl, -, -⟩ := hT3c)
      refine wp_region_lit ?_
      (refine wpl_p S ?_; clear S a; intro a S)
      (refine wpl_a S ?_; clear S a; intro a S)
      (refine wpl_f S ?_; clear S a; intro a S)
      (refine wpl_l S ?_; clear S a; intro a S)
      (refine wpl_p S ?_; clear S a; intro a S)
      (refine wpl_i S ?_; clear S a; intro a S)
      (refine wpl_f S ?_; clear S a; intro a S)
      (refine wpl_v S rfl rfl rfl (sv_loadF S rfl rfl hc3) ?_; clear S a; intro a S)
      (refine wpl_p S ?_; clear S a; intro a S)
      (refine wpl_s S ?_; clear S a; intro a S)
      (rw [show ((1000 : Int) - (n : Int)) = ((1000 - n : Nat) : Int) by omega] at S)
      (refine wpl_c0 S (bodyNCt F x.body _ (1000 - n) (by omega) hT3) ?_; clear S a; intro v a w hv S; obtain ⟨p9, rfl, hp9⟩ := hv; unfold Cnt at hp9)
      (refine wpl_a S ?_; clear S a; intro a S)
      (refine wpl_p S ?_; clear S a; intro a S)
      (refine wpList_nil (hKq19 _ _ ?_); try clear hKq19 Kq19)
      refine wp_region_lit ?_
      (refine wpl_p S ?_; clear S a; intro a S)
      (refine wpl_a S ?_; clear S a; intro a S)
      (refine wpl_p S ?_; clear S a; intro a S)
      refine wpList_nil ?_
      change ∃ m', _ ∧ _
      (rw [← hao] at S; refine ⟨M.nv.length - (k + 1), by omega, k + 1, n + 1 + p9, s + (1 + bodyN x.body), rfl, by omega, by omega, by omega, by omega, ?_⟩; refine S.keep ?_; repeat (first | exact trivial | refine ⟨rfl, ?_⟩))
    (skip; (try simp only [tq] at h))
    refine wp_exit ?_
    (refine hKq15 _ _ ?_; try (clear hKq15 Kq15))
    refine wp_sr fun Kq19 hKq19 => ?_
    iterate 3 (refine wpl_p S ?_; clear S a; intro a S)
    (refine wpList_nil (hKq19 _ _ ?_); try clear hKq19 Kq19)
    refine wp_ret (fin_ret S (results1 Tryz.results12 (RV.tmp S rfl)) ?_)
    (have hz : n < 1000 → n = mdN M := (by intro h9; have hz9 : nvN (M.nv.drop k) = 0 := (by rw [List.drop_eq_nil_of_le (by omega)]; rfl); omega); exact ⟨_, rfl, by intro h9; simp at h9; omega⟩)
  (intro h; clear S a; intro a S; (try simp only [tq] at h))
  (refine wpl_k S ?_; clear S a; intro a S)
  (refine wpl_p S ?_; clear S a; intro a S)
  (refine wpList_nil (hKq18 _ _ ?_); try clear hKq18 Kq18)
  refine wpc_false S rfl ?_
  refine wp_exit ?_
  (refine hKq15 _ _ ?_; try (clear hKq15 Kq15))
  refine wp_sr fun Kq19 hKq19 => ?_
  iterate 3 (refine wpl_p S ?_; clear S a; intro a S)
  (refine wpList_nil (hKq19 _ _ ?_); try clear hKq19 Kq19)
  refine wp_ret (fin_ret S (results1 Tryz.results12 (RV.tmp S rfl)) ?_)
  (have hz : n < 1000 → n = mdN M := (by intro h9; have hz9 : nvN (M.nv.drop k) = 0 := (by rw [List.drop_eq_nil_of_le (by omega)]; rfl); omega); exact ⟨_, rfl, by intro h9; simp at h9; omega⟩)
end Go.Proofs.YtoaodbclgeeaeaaGreatDoor
namespace Go.Proofs.YtoaodbclgeeaeaaGreatDoor
open Go Go.Wk Go.Un Go.De
set_option linter.unusedSimpArgs false
set_option linter.unusedVariables false

theorem mdR_mono {F F' : Heap} (hF : ∀ b o, F b = some o → F' b = some o) {M : MD} {cs : List Value} (h : MdR F M cs) : MdR F' M cs := by
  obtain ⟨i1, i2, i3, v1, v2, v3, v4, e, h1, h2, h3, h4⟩ := h
  exact ⟨i1, i2, i3, v1, v2, v3, v4, e, h1.mono hF, h2.mono hF, h3.mono hF, h4.mono hF⟩
theorem fdsN_le : ∀ {l : List FD}, l.length ≤ fdsN l ∧ ∀ x ∈ l, x.ta.size ≤ fdsN l
  | [] => ⟨Nat.le_refl _, fun x hx => by cases hx⟩
  | y :: r => by
    obtain ⟨h1, h2⟩ := fdsN_le (l := r)
    refine ⟨by simp only [fdsN, List.length_cons]; omega, fun x hx => ?_⟩
    rcases List.mem_cons.1 hx with rfl | hx
    · simp only [fdsN]; omega
    · have := h2 x hx; simp only [fdsN]; omega
theorem consN_le : ∀ {l : List CD}, l.length ≤ consN l ∧ ∀ x ∈ l, fdsN x.fs ≤ consN l
  | [] => ⟨Nat.le_refl _, fun x hx => by cases hx⟩
  | y :: r => by
    obtain ⟨h1, h2⟩ := consN_le (l := r)
    refine ⟨by simp only [consN, List.length_cons]; omega, fun x hx => ?_⟩
    rcases List.mem_cons.1 hx with rfl | hx
    · simp only [consN]; omega
    · have := h2 x hx; simp only [consN]; omega
theorem tsN_le : ∀ {l : List TD}, l.length ≤ tsN l ∧ ∀ x ∈ l, x.ps.length + consN x.cs ≤ tsN l
  | [] => ⟨Nat.le_refl _, fun x hx => by cases hx⟩
  | y :: r => by
    obtain ⟨h1, h2⟩ := tsN_le (l := r)
    refine ⟨by simp only [tsN, List.length_cons]; omega, fun x hx => ?_⟩
    rcases List.mem_cons.1 hx with rfl | hx
    · simp only [tsN]; omega
    · have := h2 x hx; simp only [tsN]; omega
theorem rsN_le : ∀ {l : List RD}, l.length ≤ rsN l ∧ ∀ x ∈ l, fdsN x.fs ≤ rsN l
  | [] => ⟨Nat.le_refl _, fun x hx => by cases hx⟩
  | y :: r => by
    obtain ⟨h1, h2⟩ := rsN_le (l := r)
    refine ⟨by simp only [rsN, List.length_cons]; omega, fun x hx => ?_⟩
    rcases List.mem_cons.1 hx with rfl | hx
    · simp only [rsN]; omega
    · have := h2 x hx; simp only [rsN]; omega
theorem consFrom_mem {x : TD} : ∀ {i : Nat} {l : List CD} {c : KC}, c ∈ consFrom x i l → ∃ d ∈ l, c.ps = x.ps ∧ c.fs = d.fs
  | _, [], c, h => by cases h
  | i, d :: r, c, h => by
    rcases List.mem_cons.1 h with rfl | h
    · exact ⟨d, List.mem_cons_self .., rfl, rfl⟩
    · obtain ⟨e, he, h2⟩ := consFrom_mem h
      exact ⟨e, List.mem_cons_of_mem _ he, h2⟩
theorem consOf_mem {ts : List TD} {c : KC} (h : c ∈ consOf ts) : ∃ x ∈ ts, ∃ d ∈ x.cs, c.ps = x.ps ∧ c.fs = d.fs := by
  obtain ⟨x, hx, h1⟩ := List.mem_flatMap.1 h
  exact ⟨x, hx, consFrom_mem h1⟩
theorem fsz_small {l : List FD} (h : fdsN l ≤ 1000000) : FSz l := fun x hx => by have := (fdsN_le (l := l)).2 x hx; omega
theorem tsz_small {l : List TD} (h : tsN l ≤ 1000000) : TSz l := fun x hx => by
  have h1 := (tsN_le (l := l)).2 x hx
  have h2 := consN_le (l := x.cs)
  refine ⟨by omega, by omega, fun c hc => ?_⟩
  have h3 := h2.2 c hc
  have h4 := (fdsN_le (l := c.fs)).1
  exact ⟨fsz_small (by omega), by omega⟩
theorem rsz_small {l : List RD} (h : rsN l ≤ 1000000) : RSz l := fun x hx => by
  have h3 := (rsN_le (l := l)).2 x hx
  have h4 := (fdsN_le (l := x.fs)).1
  exact ⟨fsz_small (by omega), by omega⟩
theorem rsz0_small {l : List RD} (h : rsN l ≤ 1000000) : RSz0 l := fun x hx => ⟨(rsz_small h x hx).2, (rsz_small h x hx).1.thin⟩
theorem ksz_small {l : List TD} (h : tsN l ≤ 1000000) : KSz (consOf l) := fun c hc => by
  obtain ⟨x, hx, d, hd, e1, e2⟩ := consOf_mem hc
  have h1 := tsz_small h x hx
  rw [e1, e2]
  exact ⟨h1.2.1, (h1.2.2 d hd).2, (h1.2.2 d hd).1.thin⟩
theorem kthin_small {l : List TD} (h : tsN l ≤ 1000000) : KThin (consOf l) := fun c hc => (ksz_small h c hc).2.2
theorem msz_small {M : MD} (h : mdN M ≤ 1000000) : MSz M := by
  unfold mdN at h
  exact ⟨tsz_small (by omega), rsz_small (by omega), by have := (tsN_le (l := M.ts)).1; omega, by have := (rsN_le (l := M.rs)).1; omega⟩
theorem wt_size : ∀ L : Vf, L.size ≤ wtL L
  | .nil => Nat.le_refl _
  | .cons h L r => by have := wt_size L; have := wt_size r; simp only [wtL, Rose.size]; omega
/-- What New tells, in one form. -/
theorem new_shape {F' : Heap} {M : MD} {u : Value} (h : (takeE M = 0 → ∃ tb m1 m2 m3, u = .tuple ⟨[.pointer (some ⟨tb, 0, none⟩), .agg ⟨[.int .i64 0, .int .i64 0]⟩, .int .i64 0]⟩ ∧ TabS F' tb m1 m2 m3 M.ts (consOf M.ts) M.rs) ∧ (takeE M ≠ 0 → ∃ l c : Int, u = .tuple ⟨[.pointer none, .agg ⟨[.int .i64 l, .int .i64 c]⟩, .int .i64 (takeE M)]⟩)) :
    ∃ (pp : Option Addr) (l c : Int), u = .tuple ⟨[.pointer pp, .agg ⟨[.int .i64 l, .int .i64 c]⟩, .int .i64 (takeE M)]⟩ ∧ (takeE M = 0 → ∃ tb m1 m2 m3, pp = some ⟨tb, 0, none⟩ ∧ TabS F' tb m1 m2 m3 M.ts (consOf M.ts) M.rs) ∧ (takeE M ≠ 0 → pp = none) := by
  by_cases hz : takeE M = 0
  · obtain ⟨tb, m1, m2, m3, e, hT⟩ := h.1 hz
    exact ⟨_, _, _, by rw [hz]; exact e, fun _ => ⟨tb, m1, m2, m3, rfl, hT⟩, fun h9 => absurd hz h9⟩
  · obtain ⟨l, c, e⟩ := h.2 hz
    exact ⟨none, l, c, e, fun h9 => absurd h9 hz, fun _ => rfl⟩
end Go.Proofs.YtoaodbclgeeaeaaGreatDoor
namespace Go.De
open Go Go.Wk Go.Un
set_option linter.unusedSimpArgs false
set_option linter.unusedVariables false

theorem isT_name {css : List KC} {h : VH} {L : Vf} {t u : Ty} (h1 : isT css h L t = true) (h2 : isT css h L u = true) : t.1 = u.1 := by
  unfold isT at h1 h2
  by_cases k1 : h.k = 1
  · rw [if_pos k1, decide_eq_true_eq] at h1 h2; rw [h1, h2]
  rw [if_neg k1] at h1 h2
  by_cases k2 : h.k = 2
  · rw [if_pos k2, decide_eq_true_eq] at h1 h2; rw [h1, h2]
  rw [if_neg k2] at h1 h2
  by_cases k3 : h.k = 3
  · rw [if_pos k3, decide_eq_true_eq] at h1 h2; rw [h1, h2]
  rw [if_neg k3] at h1 h2
  by_cases k4 : h.k = 4
  · rw [if_pos k4, decide_eq_true_eq] at h1 h2; rw [h1, h2]
  rw [if_neg k4] at h1 h2
  by_cases k5 : h.k = 5
  · rw [if_pos k5, Bool.and_eq_true, decide_eq_true_eq] at h1 h2; rw [h1.1, h2.1]
  rw [if_neg k5] at h1 h2
  cases hf : findC css h.s with
  | none => simp only [hf] at h1; cases h1
  | some c => simp only [hf, Bool.and_eq_true, decide_eq_true_eq] at h1 h2; rw [← h1.1, ← h2.1]
theorem isF_name {ts : List TD} {css : List KC} {h : VH} {L : Vf} {t u : Ty} (h1 : isF ts css h L t = true) (h2 : isF ts css h L u = true) : t.1 = u.1 := by
  unfold isF at h1 h2
  rw [Bool.and_eq_true, Bool.and_eq_true] at h1 h2
  exact isT_name h1.2.2 h2.2.2

def xT (nm : List UInt8) : TD := ⟨0, 0, false, nm, [], [⟨nm, []⟩]⟩
def xR (nm : List UInt8) : RD := ⟨0, 0, false, false, nm, []⟩
def xC (nm : List UInt8) : KC := ⟨nm, nm, [], 0, []⟩
theorem consOf_x (nm : List UInt8) (ts : List TD) : consOf (xT nm :: ts) = xC nm :: consOf ts := rfl
structure Strange (nm : List UInt8) : Prop where
  pl : plainS nm = false
  pa : parS nm = false
  tu : nm ≠ sTuple
section
variable {nm : List UInt8} {ts : List TD} {css : List KC} {rs : List RD}
theorem findT_x {s : List UInt8} (h : s ≠ nm) : findT (xT nm :: ts) s = findT ts s := by
  unfold findT
  rw [List.find?_cons, show decide (s = (xT nm).nm) = false from decide_eq_false h]
theorem findC_x {s : List UInt8} (h : s ≠ nm) : findC (xC nm :: css) s = findC css s := by
  unfold findC
  rw [List.find?_cons, show decide (s = (xC nm).nm) = false from decide_eq_false h]
theorem findR_x {s : List UInt8} (h : s ≠ nm) : findR (xR nm :: rs) s = findR rs s := by
  unfold findR
  rw [List.find?_cons, show decide (s = (xR nm).nm) = false from decide_eq_false h]
theorem menT_ne {y : Ty} (h : menT nm y = false) : y.1 ≠ nm := fun e => by
  unfold menT at h
  rw [decide_eq_true e, Bool.true_or] at h; cases h
theorem nameT_x {y : Ty} (h : menT nm y = false) : nameT (xT nm :: ts) y = nameT ts y := by
  unfold nameT declS
  rw [findT_x (menT_ne h)]
theorem countsT_x {y : Ty} (h : menT nm y = false) : countsT (xT nm :: ts) y = countsT ts y := by
  unfold countsT parN
  rw [findT_x (menT_ne h)]
theorem growT_x {y : Ty} (h : menT nm y = false) : growT (xT nm :: ts) y = growT ts y := by
  unfold growT declS
  rw [findT_x (menT_ne h)]
theorem wiL_congr {p q : Ty → Bool} (h : ∀ y, menT nm y = false → p y = q y) : ∀ l : Fo, menL nm l = false → wiL p l = wiL q l
  | .nil, _ => rfl
  | .cons n ar r, hl => by
    rw [menL_cons, Bool.or_eq_false_iff] at hl
    have h1 := h _ hl.1
    have h2 : menL nm ar = false := by
      have := hl.1
      unfold menT at this
      rw [Bool.or_eq_false_iff] at this
      exact this.2
    show ((p (n, ar) || wiL p ar) || wiL p r) = ((q (n, ar) || wiL q ar) || wiL q r)
    rw [h1, wiL_congr h ar h2, wiL_congr h r hl.2]
theorem wiT_congr {p q : Ty → Bool} (h : ∀ y, menT nm y = false → p y = q y) {a : Ty} (ha : menT nm a = false) : wiT p a = wiT q a := by
  unfold wiT
  rw [h a ha, wiL_congr h a.2 (by unfold menT at ha; rw [Bool.or_eq_false_iff] at ha; exact ha.2)]
theorem useT_x {t : Ty} (h : menT nm t = false) : useT (xT nm :: ts) t = useT ts t := by
  unfold useT
  rw [wiT_congr (p := nameT (xT nm :: ts)) (q := nameT ts) (fun y hy => nameT_x hy) h, wiT_congr (p := fun y => !countsT (xT nm :: ts) y) (q := fun y => !countsT ts y) (fun y hy => by rw [countsT_x hy]) h, wiT_congr (p := growT (xT nm :: ts)) (q := growT ts) (fun y hy => growT_x hy) h]
theorem wi_men {p : Ty → Bool} (hp : ∀ ar, p (nm, ar) = true) : ∀ l : Fo, wiL p l = false → menL nm l = false
  | .nil, _ => rfl
  | .cons n ar r, h => by
    have h' : ((p (n, ar) || wiL p ar) || wiL p r) = false := h
    rw [Bool.or_eq_false_iff, Bool.or_eq_false_iff] at h'
    have hn : n ≠ nm := fun e => by subst e; rw [hp] at h'; cases h'.1.1
    rw [menL_cons]
    unfold menT
    rw [wi_men hp ar h'.1.2, wi_men hp r h'.2, decide_eq_false hn]; rfl
theorem use_men (hs : Strange nm) (hd : declS ts nm = false) {t : Ty} (h : useT ts t = 0) : menT nm t = false := by
  have h1 : wiT (nameT ts) t = false := by
    cases hw : wiT (nameT ts) t with
    | false => rfl
    | true =>
      unfold useT at h
      rw [hw, if_pos rfl] at h
      split at h <;> exact absurd h (by decide)
  have := wi_men (nm := nm) (p := nameT ts) (fun ar => by unfold nameT; rw [hs.pl, hs.pa, decide_eq_false hs.tu, hd]; rfl) (.cons t.1 t.2 .nil) (by
    unfold wiT at h1
    show ((nameT ts t || wiL (nameT ts) t.2) || false) = false
    rw [h1]; rfl)
  rw [menL_cons, Bool.or_eq_false_iff] at this
  exact this.1
/-! the program is as well as it was -/
theorem fieldE_x (hs : Strange nm) (hd : declS ts nm = false) {p : List UInt8 → Bool} {x : FD} (h : fieldE ts p x = 0) : fieldE (xT nm :: ts) p x = 0 := by
  have hu : useT ts (x.tn, x.ta) = 0 := by
    unfold fieldE at h
    split at h
    · cases h
    · exact h
  have e : useT (xT nm :: ts) (x.tn, x.ta) = useT ts (x.tn, x.ta) := useT_x (use_men hs hd hu)
  unfold fieldE at h ⊢
  rw [e]; exact h
theorem fieldsE_x (hs : Strange nm) (hd : declS ts nm = false) {p : List UInt8 → Bool} : ∀ {l : List FD}, fieldsE ts p l = 0 → fieldsE (xT nm :: ts) p l = 0
  | [], _ => rfl
  | x :: r, h => by
    unfold fieldsE at h ⊢
    by_cases e : fieldE ts p x = 0
    · rw [if_neg (fun h9 => h9 e)] at h
      rw [if_neg (fun h9 => h9 (fieldE_x hs hd e))]
      exact fieldsE_x hs hd h
    · rw [if_pos e] at h; exact absurd h e
theorem consFE_x (hs : Strange nm) (hd : declS ts nm = false) {ps : List (List UInt8)} : ∀ {l : List CD}, consFE ts ps l = 0 → consFE (xT nm :: ts) ps l = 0
  | [], _ => rfl
  | x :: r, h => by
    unfold consFE at h ⊢
    by_cases e : fieldsE ts (fun s => decide (s ∈ ps)) x.fs = 0
    · rw [if_neg (fun h9 => h9 e)] at h
      rw [if_neg (fun h9 => h9 (fieldsE_x hs hd e))]
      exact consFE_x hs hd h
    · rw [if_pos e] at h; exact absurd h e
theorem typesFE_x (hs : Strange nm) (hd : declS ts nm = false) : ∀ {l : List TD}, typesFE ts l = 0 → typesFE (xT nm :: ts) l = 0
  | [], _ => rfl
  | x :: r, h => by
    unfold typesFE at h ⊢
    by_cases e : consFE ts x.ps x.cs = 0
    · rw [if_neg (fun h9 => h9 e)] at h
      rw [if_neg (fun h9 => h9 (consFE_x hs hd e))]
      exact typesFE_x hs hd h
    · rw [if_pos e] at h; exact absurd h e
theorem relatedE_x (hs : Strange nm) (hd : declS ts nm = false) : ∀ {l : List RD} {seen : List (List UInt8)}, (∀ x ∈ l, x.nm ≠ nm) → relatedE ts seen l = 0 → relatedE (xT nm :: ts) (nm :: seen) l = 0
  | [], _, _, _ => rfl
  | x :: r, seen, hn, h => by
    unfold relatedE at h ⊢
    by_cases e1 : x.nm ∈ seen ∨ twiceD x.fs = true
    · rw [if_pos e1] at h; cases h
    · rw [if_neg e1] at h
      rw [if_neg (fun h9 => e1 (h9.imp (fun hm => (List.mem_cons.1 hm).resolve_left (hn x (List.mem_cons_self ..))) id))]
      by_cases e : fieldsE ts (fun _ => true) x.fs = 0
      · rw [if_neg (fun h9 => h9 e)] at h
        rw [if_neg (fun h9 => h9 (fieldsE_x hs hd e))]
        exact relatedE_x hs hd (fun y hy => hn y (List.mem_cons_of_mem _ hy)) h
      · rw [if_pos e] at h; exact absurd h e
theorem mem_ne {s : List UInt8} {l : List (List UInt8)} (h : s ≠ nm) : decide (s ∈ nm :: l) = decide (s ∈ l) := by
  rw [Bool.eq_iff_iff, decide_eq_true_eq, decide_eq_true_eq, List.mem_cons]
  exact ⟨fun h9 => h9.resolve_left h, .inr⟩
theorem consBad_x : ∀ {l : List CD} {cn : List (List UInt8)}, (∀ c ∈ l, c.nm ≠ nm) → consBad (nm :: cn) l = consBad cn l
  | [], _, _ => rfl
  | c :: r, cn, h => by
    show ((decide (c.nm ∈ nm :: cn) || twiceD c.fs) || consBad (nm :: (cn ++ [c.nm])) r) = _
    rw [mem_ne (h c (List.mem_cons_self ..)), consBad_x fun y hy => h y (List.mem_cons_of_mem _ hy)]
    rfl
theorem dupE_x : ∀ {l : List TD} {tn cn : List (List UInt8)}, (∀ x ∈ l, x.nm ≠ nm) → (∀ x ∈ l, ∀ c ∈ x.cs, c.nm ≠ nm) → dupE (nm :: tn) (nm :: cn) l = dupE tn cn l
  | [], _, _, _, _ => rfl
  | x :: r, tn, cn, h1, h2 => by
    show ((badT (nm :: tn) x || consBad (nm :: cn) x.cs) || dupE (nm :: (tn ++ [x.nm])) (nm :: (cn ++ x.cs.map CD.nm)) r) = _
    have e : badT (nm :: tn) x = badT tn x := by unfold badT; rw [mem_ne (h1 x (List.mem_cons_self ..))]
    rw [e, consBad_x (h2 x (List.mem_cons_self ..)), dupE_x (fun y hy => h1 y (List.mem_cons_of_mem _ hy)) fun y hy => h2 y (List.mem_cons_of_mem _ hy)]
    rfl
theorem rch_x {k : List (List UInt8)} (hn : nm ∉ full0) (hx : ∀ x ∈ ts, x.nm ≠ nm) (h : Rch ts k) : ∃ k', Rch (xT nm :: ts) k' ∧ ∀ s, s ∈ k' ↔ s = nm ∨ s ∈ k := by
  induction h with
  | base => exact ⟨_, .step .base (List.mem_cons_self ..) hn rfl, fun s => by rw [List.mem_append, List.mem_singleton]; exact ⟨fun h => h.elim .inr .inl, fun h => h.elim .inr .inl⟩⟩
  | @step k x hk hxm hxk ho ih =>
    obtain ⟨k', h1, h2⟩ := ih
    refine ⟨_, .step h1 (List.mem_cons_of_mem _ hxm) (fun hm => ((h2 _).1 hm).elim (hx x hxm) hxk) (tyOK_mono (fun s hs => (h2 s).2 (.inr hs)) ho), fun s => ?_⟩
    rw [List.mem_append, List.mem_append, h2, or_assoc]
theorem fullE_all {l : List TD} {k : List (List UInt8)} (h : Rch l k) (ha : ∀ x ∈ l, x.nm ∈ k) : fullE l = 0 := by
  rw [fullE_of h (fun x hx hn => absurd (ha x hx) hn), if_pos (List.all_eq_true.2 fun x hx => decide_eq_true (ha x hx))]
theorem fullE_x (hn : nm ∉ full0) (hx : ∀ x ∈ ts, x.nm ≠ nm) (h : fullE ts = 0) : fullE (xT nm :: ts) = 0 := by
  have ha : ∀ x ∈ ts, x.nm ∈ fullK ts := by
    unfold fullE at h
    split at h
    · rename_i h9; exact fun x hx => of_decide_eq_true (List.all_eq_true.1 h9 x hx)
    · cases h
  obtain ⟨k', h1, h2⟩ := rch_x hn hx (fullK_rch ts)
  refine fullE_all h1 fun x hm => (h2 _).2 ?_
  rcases List.mem_cons.1 hm with rfl | hm
  · exact .inl rfl
  · exact .inr (ha x hm)
theorem findC_none {s : List UInt8} (h : findC css s = none) : ∀ c ∈ css, c.nm ≠ s := fun c hc e => List.find?_eq_none.1 h c hc (decide_eq_true e.symm)
theorem findR_none {s : List UInt8} (h : findR rs s = none) : ∀ c ∈ rs, c.nm ≠ s := fun c hc e => List.find?_eq_none.1 h c hc (decide_eq_true e.symm)
theorem findT_none {s : List UInt8} (h : declS ts s = false) : ∀ c ∈ ts, c.nm ≠ s := fun c hc e => by
  unfold declS at h
  rw [Option.isSome_eq_false_iff, Option.isNone_iff_eq_none] at h
  exact List.find?_eq_none.1 h c hc (decide_eq_true e.symm)
theorem consOf_none (h : findC (consOf ts) nm = none) : ∀ x ∈ ts, ∀ c ∈ x.cs, c.nm ≠ nm := fun x hx c hc e => by
  have h1 : c.nm ∈ (consOf ts).map KC.nm := by rw [consOf_nm]; exact List.mem_flatMap.2 ⟨x, hx, List.mem_map.2 ⟨c, hc, rfl⟩⟩
  obtain ⟨d, hd, h2⟩ := List.mem_map.1 h1
  exact findC_none h d hd (h2.trans e)
theorem typedE_x (hs : Strange nm) (hd : declS ts nm = false) (hc : findC (consOf ts) nm = none) (h : typedE ts = 0) : typedE (xT nm :: ts) = 0 := by
  unfold typedE at h ⊢
  have hn := findT_none hd
  have hf0 : nm ∉ full0 := fun hm => by
    have h1 := hs.pl
    unfold plainS at h1
    simp only [Bool.or_eq_false_iff, decide_eq_false_iff_not] at h1
    unfold full0 at hm
    simp only [List.mem_cons, List.not_mem_nil, or_false] at hm
    rcases hm with hm | hm | hm | hm
    · exact h1.1.1.1 hm
    · exact h1.1.1.2 hm
    · exact h1.1.2 hm
    · exact h1.2 hm
  by_cases e1 : dupE [] [] ts = true
  · rw [if_pos e1] at h; cases h
  rw [if_neg e1] at h
  have e2 : dupE [] [] (xT nm :: ts) = false := by
    show ((badT [] (xT nm) || consBad [] (xT nm).cs) || dupE (nm :: []) (nm :: []) ts) = false
    rw [dupE_x hn (consOf_none hc), Bool.not_eq_true] at *
    have h9 : badT [] (xT nm) = false := by
      unfold badT
      rw [show (xT nm).nm = nm from rfl, hs.pl, hs.pa, decide_eq_false hs.tu, decide_eq_false (List.not_mem_nil)]; rfl
    rw [h9, e1]; rfl
  rw [if_neg (by rw [e2]; exact Bool.false_ne_true)]
  by_cases e3 : typesFE ts ts = 0
  · rw [if_neg (fun h9 => h9 e3)] at h
    have e4 : typesFE (xT nm :: ts) (xT nm :: ts) = 0 := by
      unfold typesFE
      rw [show consFE (xT nm :: ts) (xT nm).ps (xT nm).cs = 0 from rfl, if_neg (fun h9 => h9 rfl)]
      exact typesFE_x hs hd e3
    rw [if_neg (fun h9 => h9 e4)]
    exact fullE_x hf0 hn h
  · rw [if_pos e3] at h; exact absurd h e3
theorem findC_sub (hc : findC css nm = none) {s : List UInt8} {c : KC} (h : findC css s = some c) : findC (xC nm :: css) s = some c := by
  rw [findC_x (fun e => by subst e; rw [hc] at h; cases h)]; exact h
theorem findR_sub (hc : findR rs nm = none) {s : List UInt8} {c : RD} (h : findR rs s = some c) : findR (xR nm :: rs) s = some c := by
  rw [findR_x (fun e => by subst e; rw [hc] at h; cases h)]; exact h
theorem exprE_x (hc : findC css nm = none) {x : EH} {n : Nat} (h : exprE css x n = 0) : exprE (xC nm :: css) x n = 0 := by
  by_cases h5 : x.k = 5
  · cases hf : findC css x.nm with
    | none => rw [exprE_none h5 hf] at h; cases h
    | some c => rw [exprE_some h5 hf] at h; rw [exprE_some h5 (findC_sub hc hf)]; exact h
  · exact exprE_no h5
theorem exprsE_x (hc : findC css nm = none) : ∀ {l : Ef}, exprsE css l = 0 → exprsE (xC nm :: css) l = 0
  | .nil, _ => rfl
  | .cons x L r, h => by
    rw [exprsE_cons] at h ⊢
    by_cases e1 : exprE css x L.len = 0
    · rw [if_neg (fun h9 => h9 e1)] at h
      rw [if_neg (fun h9 => h9 (exprE_x hc e1))]
      by_cases e2 : exprsE css L = 0
      · rw [if_neg (fun h9 => h9 e2)] at h
        rw [if_neg (fun h9 => h9 (exprsE_x hc e2))]
        exact exprsE_x hc h
      · rw [if_pos e2] at h; exact absurd h e2
    · rw [if_pos e1] at h; exact absurd h e1
theorem litE_x (hr : findR rs nm = none) {x : LT} (h : litE rs x = 0) : litE (xR nm :: rs) x = 0 := by
  by_cases h5 : x.k = 1 ∨ x.k = 2
  · cases hf : findR rs x.rel with
    | none => rw [litE_none h5 hf] at h; cases h
    | some c => rw [litE_some h5 hf] at h; rw [litE_some h5 (findR_sub hr hf)]; exact h
  · exact litE_no h5
theorem bodyE_x (hc : findC css nm = none) (hr : findR rs nm = none) : ∀ {l : List LT}, bodyE css rs l = 0 → bodyE (xC nm :: css) (xR nm :: rs) l = 0
  | [], _ => rfl
  | x :: r, h => by
    unfold bodyE at h ⊢
    by_cases e1 : litE rs x = 0
    · rw [if_neg (fun h9 => h9 e1)] at h
      rw [if_neg (fun h9 => h9 (litE_x hr e1))]
      by_cases e2 : exprsE css x.args = 0
      · rw [if_neg (fun h9 => h9 e2)] at h
        rw [if_neg (fun h9 => h9 (exprsE_x hc e2))]
        exact bodyE_x hc hr h
      · rw [if_pos e2] at h; exact absurd h e2
    · rw [if_pos e1] at h; exact absurd h e1
theorem ruleE_x (hc : findC css nm = none) (hr : findR rs nm = none) {x : RU} (h : ruleE css rs x = 0) : ruleE (xC nm :: css) (xR nm :: rs) x = 0 := by
  cases hf : findR rs x.rel with
  | none => rw [ruleE_none hf] at h; cases h
  | some r =>
    rw [ruleE_some hf] at h
    rw [ruleE_some (findR_sub hr hf)]
    by_cases e1 : r.inp = true
    · rw [if_pos e1] at h; cases h
    rw [if_neg e1] at h ⊢
    by_cases e2 : x.aggs.length ≠ x.args.len
    · rw [if_pos e2] at h; cases h
    rw [if_neg e2] at h ⊢
    by_cases e3 : x.args.len ≠ r.fs.length
    · rw [if_pos e3] at h; cases h
    rw [if_neg e3] at h ⊢
    by_cases e4 : exprsE css x.args = 0
    · rw [if_neg (fun h9 => h9 e4)] at h
      rw [if_neg (fun h9 => h9 (exprsE_x hc e4))]
      exact bodyE_x hc hr h
    · rw [if_pos e4] at h; exact absurd h e4
theorem rulesE_x (hc : findC css nm = none) (hr : findR rs nm = none) : ∀ {l : List RU}, rulesE css rs l = 0 → rulesE (xC nm :: css) (xR nm :: rs) l = 0
  | [], _ => rfl
  | x :: r, h => by
    unfold rulesE at h ⊢
    by_cases e1 : ruleE css rs x = 0
    · rw [if_neg (fun h9 => h9 e1)] at h
      rw [if_neg (fun h9 => h9 (ruleE_x hc hr e1))]
      exact rulesE_x hc hr h
    · rw [if_pos e1] at h; exact absurd h e1
theorem neversE_x (hc : findC css nm = none) (hr : findR rs nm = none) : ∀ {l : List NV}, neversE css rs l = 0 → neversE (xC nm :: css) (xR nm :: rs) l = 0
  | [], _ => rfl
  | x :: r, h => by
    unfold neversE at h ⊢
    by_cases e1 : bodyE css rs x.body = 0
    · rw [if_neg (fun h9 => h9 e1)] at h
      rw [if_neg (fun h9 => h9 (bodyE_x hc hr e1))]
      exact neversE_x hc hr h
    · rw [if_pos e1] at h; exact absurd h e1
/-- The program with the others. -/
def others (nm : List UInt8) (M : MD) : MD := { M with ts := xT nm :: M.ts, rs := xR nm :: M.rs }
theorem takeE_x {M : MD} (hs : Strange nm) (hd : declS M.ts nm = false) (hc : findC (consOf M.ts) nm = none) (hr : findR M.rs nm = none) (h : takeE M = 0) : takeE (others nm M) = 0 := by
  unfold takeE at h ⊢
  show (if typedE (xT nm :: M.ts) ≠ 0 then typedE (xT nm :: M.ts) else if relatedE (xT nm :: M.ts) [] (xR nm :: M.rs) ≠ 0 then relatedE (xT nm :: M.ts) [] (xR nm :: M.rs) else if rulesE (xC nm :: consOf M.ts) (xR nm :: M.rs) M.ru ≠ 0 then rulesE (xC nm :: consOf M.ts) (xR nm :: M.rs) M.ru else neversE (xC nm :: consOf M.ts) (xR nm :: M.rs) M.nv) = 0
  by_cases e1 : typedE M.ts = 0
  · rw [if_neg (fun h9 => h9 e1)] at h
    rw [if_neg (fun h9 => h9 (typedE_x hs hd hc e1))]
    by_cases e2 : relatedE M.ts [] M.rs = 0
    · rw [if_neg (fun h9 => h9 e2)] at h
      have e3 : relatedE (xT nm :: M.ts) [] (xR nm :: M.rs) = 0 := by
        unfold relatedE
        rw [if_neg (by rintro (h9 | h9); cases h9; cases h9), show fieldsE (xT nm :: M.ts) (fun _ => true) (xR nm).fs = 0 from rfl, if_neg (fun h9 => h9 rfl)]
        exact relatedE_x hs hd (findR_none hr) e2
      rw [if_neg (fun h9 => h9 e3)]
      by_cases e4 : rulesE (consOf M.ts) M.rs M.ru = 0
      · rw [if_neg (fun h9 => h9 e4)] at h
        rw [if_neg (fun h9 => h9 (rulesE_x hc hr e4))]
        exact neversE_x hc hr h
      · rw [if_pos e4] at h; exact absurd h e4
    · rw [if_pos e2] at h; exact absurd h e2
  · rw [if_pos e1] at h; exact absurd h e1
/-! what is of which type -/
theorem formH_k {h : VH} {n : Nat} (hf : formH h n = true) (h1 : ¬ h.k = 1) (h2 : ¬ h.k = 2) (h3 : ¬ h.k = 3) (h4 : ¬ h.k = 4) (h5 : ¬ h.k = 5) : h.k = 6 := by
  unfold formH at hf
  rw [if_neg h1, if_neg h2, if_neg h3, if_neg h4, if_neg h5] at hf
  split at hf
  · assumption
  · cases hf
theorem isT_x {h : VH} {L : Vf} (hf : formH h L.len = true) (hh : hldH nm h = false) (ih : ∀ l, isAll (xC nm :: css) L l = isAll css L l) (t : Ty) : isT (xC nm :: css) h L t = isT css h L t := by
  unfold isT
  by_cases k1 : h.k = 1
  · rw [if_pos k1, if_pos k1]
  rw [if_neg k1, if_neg k1]
  by_cases k2 : h.k = 2
  · rw [if_pos k2, if_pos k2]
  rw [if_neg k2, if_neg k2]
  by_cases k3 : h.k = 3
  · rw [if_pos k3, if_pos k3]
  rw [if_neg k3, if_neg k3]
  by_cases k4 : h.k = 4
  · rw [if_pos k4, if_pos k4]
  rw [if_neg k4, if_neg k4]
  by_cases k5 : h.k = 5
  · rw [if_pos k5, if_pos k5, ih]
  rw [if_neg k5, if_neg k5]
  have hne : h.s ≠ nm := fun e => by
    unfold hldH at hh
    rw [decide_eq_true (formH_k hf k1 k2 k3 k4 k5), decide_eq_true e] at hh; cases hh
  rw [findC_x hne]
  cases findC css h.s with
  | none => rfl
  | some c => simp only [ih]
theorem isAll_x : ∀ (L : Vf) (l : List Ty), formL L = true → hldL nm L = false → isAll (xC nm :: css) L l = isAll css L l
  | .nil, _, _, _ => rfl
  | .cons _ _ _, [], _, _ => rfl
  | .cons h L r, t :: ts, hf, hh => by
    rw [formL_cons, Bool.and_eq_true, Bool.and_eq_true] at hf
    rw [hldL_cons, Bool.or_eq_false_iff] at hh
    have h9 := hh.1
    unfold hldV at h9
    rw [Bool.or_eq_false_iff] at h9
    rw [isAll_cons, isAll_cons, isT_x hf.1.1 h9.1 (fun l => isAll_x L l hf.1.2 h9.2), isAll_x r ts hf.2 hh.2]
theorem isF_x {h : VH} {L : Vf} {t : Ty} (hm : menT nm t = false) (hh : hldV nm h L = false) : isF (xT nm :: ts) (xC nm :: css) h L t = isF ts css h L t := by
  have e : wellT (xT nm :: ts) t = wellT ts t := by unfold wellT; rw [useT_x hm]
  unfold isF
  rw [e]
  by_cases hc : checkV h L = 0
  · have hf : (formH h L.len && formL L) = true := by
      cases h9 : (formH h L.len && formL L) with
      | true => rfl
      | false =>
        unfold checkV at hc
        rw [h9, if_pos rfl] at hc
        split at hc <;> exact absurd hc (by decide)
    rw [Bool.and_eq_true] at hf
    unfold hldV at hh
    rw [Bool.or_eq_false_iff] at hh
    rw [isT_x hf.1 hh.1 fun l => isAll_x L l hf.2 hh.2]
  · rw [decide_eq_false hc, Bool.false_and, Bool.false_and]
end
end Go.De
namespace Go.Proofs.YtoaodbclgeeaeaaGreatDoor
open Go Go.Wk Go.Un Go.De
set_option linter.unusedSimpArgs false
set_option linter.unusedVariables false
attribute [local irreducible] Go.wpList Go.Code.wp Go.wpStill Go.Wk.wpPre Go.bodyPost Go.Calls Go.Wk.Ct Go.Wk.OwnS
attribute [local irreducible] Go.Wk.wpG Go.Wk.wpM

theorem apart_true {ts : List TD} {css : List KC} {h : VH} {L : Vf} {t u : Ty} (h1 : isF ts css h L t = true) (h2 : isF ts css h L u = true) : (t.1 == u.1) = true := beq_iff_eq.2 (isF_name h1 h2)
set_option maxRecDepth 20000 in
set_option maxHeartbeats 16000000 in
theorem declApartCt (F : Heap) (hE : ErrT F) (M : MD) (cm : List Value) (hM : MdR F M cm) (vh : VH) (L : Vf) (cv : List Value) (hV : VaC F cv vh L) (nx : List UInt8) (ax : Fo) (cx : List Value) (hx : TyC F cx nx ax) (ny : List UInt8) (ay : Fo) (cy : List Value) (hy : TyC F cy ny ay) :
    Ct Tryz.prog 4 [.agg ⟨cm⟩, .agg ⟨cv⟩, .agg ⟨cx⟩, .agg ⟨cy⟩] F [] (fun _ _ u => u = .bool true) := by
  have hM0 := hM
  obtain ⟨i1, i2, i3, v1, v2, v3, v4, rfl, hm1, hm2, hm3, hm4⟩ := hM
  obtain ⟨ao1, cap1, rfl, -, -⟩ := hm1
  obtain ⟨ao2, cap2, rfl, -, -⟩ := hm2
  obtain ⟨ao3, cap3, rfl, -, -⟩ := hm3
  obtain ⟨ao4, cap4, rfl, -, -⟩ := hm4
  have hV0 := hV
  obtain ⟨vv, rfl, hL, hsb⟩ := hV
  have hLc := hL
  obtain ⟨aL, cL, rfl, -, -⟩ := hLc
  have hx0 := hx
  obtain ⟨vx, rfl, hxs⟩ := hx
  have hxc := hxs
  obtain ⟨aX, cX, rfl, -, -⟩ := hxc
  have hy0 := hy
  obtain ⟨vy, rfl, hys⟩ := hy
  have hyc := hys
  obtain ⟨aY, cY, rfl, -, -⟩ := hyc
  refine Ct.enter Tryz.func4 rfl Tryz.ntmps4 rfl fun w0 a S => ?_
  refine wp_sr fun Kq1 hKq1 => ?_
  (refine wpl_bx S ?_; clear S a; intro b4 a w S)
  (refine wpl_bx S ?_; clear S a; intro b5 a w S)
  (refine wpl_bx S ?_; clear S a; intro b6 a w S)
  (refine wpl_bx S ?_; clear S a; intro b7 a w S)
  (refine wpl_p S ?_; clear S a; intro a S)
  (refine wpList_nil (hKq1 _ _ (wp_seq_k fun Kq2 hKq2 => ?_)); try clear hKq1 Kq1)
  refine wp_sr fun Kq3 hKq3 => ?_
  (refine wpl_l S ?_; clear S a; intro a S)
  (refine wpl_c0 S (largeCt F M _ hM0) ?_; clear S a; intro v a w hv S; obtain ⟨bl, rfl, hbl⟩ := hv)
  (refine wpl_p S ?_; clear S a; intro a S)
  refine wpl_guard S rfl rfl rfl rfl rfl ?_ ?_
  · (intro h S'; clear S; have S := S'; clear S'; (try simp only [tq] at h))
    (refine wpl_l S ?_; clear S a; intro a S)
    refine wpl_take S rfl rfl rfl ?_
    (refine wpl_c0 S (weightCt F L.size vh L _ 300 (Nat.le_refl _) (by decide) hsb hL) ?_; clear S a; intro v a w hv S; obtain ⟨p1, rfl, hp1, hp1b⟩ := hv)
    refine wpl_take S rfl rfl rfl ?_
    iterate 3 (refine wpl_p S ?_; clear S a; intro a S)
    refine wpl_guard S rfl rfl rfl rfl rfl ?_ ?_
    · (intro h S'; clear S; have S := S'; clear S'; (try simp only [tq] at h))
      (refine wpl_l S ?_; clear S a; intro a S)
      refine wpl_take S rfl rfl rfl ?_
      (refine wpl_l S ?_; clear S a; intro a S)
      refine wpl_take S rfl rfl rfl ?_
      (refine wpl_buildSlice S rfl rfl rfl rfl rfl rfl (by rfl) (by simp [Value.cells, splice, splice]) rfl (by rfl) (by rfl) ?_; clear S a; intro b22 a w hown S)
      refine wpl_take S rfl rfl rfl ?_
      (have S' := frz1 (p := (b22, .cells ⟨[.string (bs nx), .slice aX ax.len cX, .string (bs ny), .slice aY ay.len cY]⟩ 24 (0, 0))) S; clear S; obtain ⟨F1, hle1, h22, S⟩ := S'; refine wpl_c0 S (typesCt F1 (Fo.size (.cons nx ax (.cons ny ay .nil))) (.cons nx ax (.cons ny ay .nil)) _ 300 (Nat.le_refl _) (by decide) (slf_of (l := .cons nx ax (.cons ny ay .nil)) h22 (FoC.app (FoC.one (hxs.mono hle1)) (FoC.one (hys.mono hle1))) (by show 2 ≤ _; decide))) ?_; clear S a; intro v a w hv S; obtain ⟨p2, rfl, hp2⟩ := hv)
      refine wpl_take S rfl rfl rfl ?_
      iterate 3 (refine wpl_p S ?_; clear S a; intro a S)
      refine wpl_guard S rfl rfl rfl rfl rfl ?_ ?_
      · (intro h S'; clear S; have S := S'; clear S'; (try simp only [tq] at h))
        (refine wpl_c0 S (awakeCt F1 (hE.mono hle1)) ?_; clear S a; intro v a w hv S; subst hv)
        refine wpl_take S rfl rfl rfl ?_
        iterate 2 (refine wpl_p S ?_; clear S a; intro a S)
        (refine wpList_nil (hKq3 _ _ ?_); try clear hKq3 Kq3)
        refine wpc_false S rfl ?_
        refine wp_skip ?_
        (refine hKq2 _ _ ?_; try (clear hKq2 Kq2))
        (refine wp_seq_k ?_; intro Kq4 hKq4)
        (have hbl2 : mdN M < 1000 := hbl (by assumption); have hp1c : p1 < 300 := (by omega); have hp1d := hp1 hp1c; have hwz := wt_size L; unfold wtV at hp1d; have hp2c := hp2; unfold Cnt at hp2c; (simp only [Fo.size] at hp2c); have hMz := hbl2; unfold mdN at hMz)
        refine wp_region_lit ?_
        (refine wpl_l S ?_; clear S a; intro a S)
        (refine wpl_cF S (newCt F1 (hE.mono hle1) M _ (mdR_mono hle1 hM0) (msz_small (by omega))) ?_; clear S a; intro u9 F3 a w hv hF3 S; obtain ⟨pp, l9, c9, rfl, hpz, -⟩ := new_shape hv)
        iterate 4 (refine wpl_p S ?_; clear S a; intro a S)
        (refine wpl_al S ?_; clear S a; intro b10 a w S)
        (refine wpl_p S ?_; clear S a; intro a S)
        (refine wpl_storeO S rfl rfl rfl rfl rfl (by rfl) (by simp [Value.cells, Value.oneCell', splice]) (by rfl) ?_; clear S; intro w S)
        (refine wpl_p S ?_; clear S a; intro a S)
        (refine wpList_nil (hKq4 _ _ (wp_seq_k fun Kq5 hKq5 => ?_)); try clear hKq4 Kq4)
        refine wp_sr fun Kq6 hKq6 => ?_
        iterate 2 (refine wpl_p S ?_; clear S a; intro a S)
        (refine wpList_nil (hKq6 _ _ ?_); try clear hKq6 Kq6)
        refine wpc_split S rfl (fun h => ?_) (fun h => ?_)
        · (skip; (try simp only [tq] at h))
          refine wp_sr fun Kq7 hKq7 => ?_
          (refine wpl_p S ?_; clear S a; intro a S)
          (refine wpList_nil (hKq7 _ _ ?_); try clear hKq7 Kq7)
          refine wp_ret (fin_ret S (results1 Tryz.results4 (RV.tmp S rfl)) ?_)
          (first | rfl | (congr 1; exact apart_true (t := (nx, ax)) (u := (ny, ay)) (by assumption) (by assumption)) | trace_state)
        (skip; (try simp only [tq] at h))
        refine wp_skip ?_
        (refine hKq5 _ _ ?_; try (clear hKq5 Kq5))
        (refine wp_seq_k ?_; intro Kq7 hKq7)
        (obtain ⟨tb, m1, m2, m3, rfl, hT⟩ := hpz (by assumption))
        refine wp_region_lit ?_
        (refine wpl_p S ?_; clear S a; intro a S)
        iterate 2 (refine wpl_l S ?_; clear S a; intro a S)
        (refine wpl_c0 S (isCt F3 tb m1 m2 m3 _ _ _ hT (kthin_small (by omega)) vh L (by omega) _ ((hV0.mono hle1).mono hF3) (nx, ax) _ (by show ax.size ≤ _; omega) ((hx0.mono hle1).mono hF3)) ?_; clear S a; intro v a w hv S; subst hv)
        iterate 2 (refine wpl_p S ?_; clear S a; intro a S)
        refine wpl_guard S rfl rfl rfl rfl rfl ?_ ?_
        · (intro h S'; clear S; have S := S'; clear S'; (try simp only [tq] at h))
          (refine wpl_p S ?_; clear S a; intro a S)
          refine wpl_take S rfl rfl rfl ?_
          (refine wpl_l S ?_; clear S a; intro a S)
          refine wpl_take S rfl rfl rfl ?_
          (refine wpl_l S ?_; clear S a; intro a S)
          refine wpl_take S rfl rfl rfl ?_
          (refine wpl_c0 S (isCt F3 tb m1 m2 m3 _ _ _ hT (kthin_small (by omega)) vh L (by omega) _ ((hV0.mono hle1).mono hF3) (ny, ay) _ (by show ay.size ≤ _; omega) ((hy0.mono hle1).mono hF3)) ?_; clear S a; intro v a w hv S; subst hv)
          refine wpl_take S rfl rfl rfl ?_
          iterate 3 (refine wpl_p S ?_; clear S a; intro a S)
          refine wpl_guard S rfl rfl rfl rfl rfl ?_ ?_
          · (intro h S'; clear S; have S := S'; clear S'; (try simp only [tq] at h))
            (refine wpl_f S ?_; clear S a; intro a S)
            refine wpl_take S rfl rfl rfl ?_
            (refine wpl_l S ?_; clear S a; intro a S)
            refine wpl_take S rfl rfl rfl ?_
            (refine wpl_f S ?_; clear S a; intro a S)
            refine wpl_take S rfl rfl rfl ?_
            (refine wpl_l S ?_; clear S a; intro a S)
            refine wpl_take S rfl rfl rfl ?_
            iterate 3 (refine wpl_p S ?_; clear S a; intro a S)
            (refine wpList_nil (hKq7 _ _ ?_); try clear hKq7 Kq7)
            refine wp_ret (fin_ret S (results1 Tryz.results4 (RV.tmp S rfl)) ?_)
            (first | rfl | (congr 1; exact apart_true (t := (nx, ax)) (u := (ny, ay)) (by assumption) (by assumption)) | trace_state)
          (intro h; clear S a; intro a S; (try simp only [tq] at h))
          iterate 4 (refine wpl_k S ?_; clear S a; intro a S)
          iterate 2 (refine wpl_p S ?_; clear S a; intro a S)
          (refine wpList_nil (hKq7 _ _ ?_); try clear hKq7 Kq7)
          refine wp_ret (fin_ret S (results1 Tryz.results4 (RV.tmp S rfl)) ?_)
          (first | rfl | (congr 1; exact apart_true (t := (nx, ax)) (u := (ny, ay)) (by assumption) (by assumption)) | trace_state)
        (intro h; clear S a; intro a S; (try simp only [tq] at h))
        iterate 4 (refine wpl_k S ?_; clear S a; intro a S)
        iterate 2 (refine wpl_p S ?_; clear S a; intro a S)
        iterate 5 (refine wpl_k S ?_; clear S a; intro a S)
        iterate 2 (refine wpl_p S ?_; clear S a; intro a S)
        (refine wpList_nil (hKq7 _ _ ?_); try clear hKq7 Kq7)
        refine wp_ret (fin_ret S (results1 Tryz.results4 (RV.tmp S rfl)) ?_)
        (first | rfl | (congr 1; exact apart_true (t := (nx, ax)) (u := (ny, ay)) (by assumption) (by assumption)) | trace_state)
      (intro h; clear S a; intro a S; (try simp only [tq] at h))
      (refine wpl_k S ?_; clear S a; intro a S)
      (refine wpl_p S ?_; clear S a; intro a S)
      (refine wpList_nil (hKq3 _ _ ?_); try clear hKq3 Kq3)
      refine wpc_true S rfl ?_
      refine wp_sr fun Kq4 hKq4 => ?_
      (first | (refine wpl_c0 S (awakeCt _ hE) ?_; clear S a; intro v a w hv S; subst hv) | (refine wpl_c0 S (awakeCt _ (hE.mono hle1)) ?_; clear S a; intro v a w hv S; subst hv))
      (refine wpl_p S ?_; clear S a; intro a S)
      (refine wpList_nil (hKq4 _ _ ?_); try clear hKq4 Kq4)
      refine wp_ret (fin_ret S (results1 Tryz.results4 (RV.tmp S rfl)) ?_)
      (first | rfl | (congr 1; exact apart_true (t := (nx, ax)) (u := (ny, ay)) (by assumption) (by assumption)) | trace_state)
    (intro h; clear S a; intro a S; (try simp only [tq] at h))
    iterate 4 (refine wpl_k S ?_; clear S a; intro a S)
    iterate 2 (refine wpl_p S ?_; clear S a; intro a S)
    iterate 2 (refine wpl_k S ?_; clear S a; intro a S)
    (refine wpl_p S ?_; clear S a; intro a S)
    (refine wpList_nil (hKq3 _ _ ?_); try clear hKq3 Kq3)
    refine wpc_true S rfl ?_
    refine wp_sr fun Kq4 hKq4 => ?_
    (first | (refine wpl_c0 S (awakeCt _ hE) ?_; clear S a; intro v a w hv S; subst hv) | (refine wpl_c0 S (awakeCt _ (hE.mono hle1)) ?_; clear S a; intro v a w hv S; subst hv))
    (refine wpl_p S ?_; clear S a; intro a S)
    (refine wpList_nil (hKq4 _ _ ?_); try clear hKq4 Kq4)
    refine wp_ret (fin_ret S (results1 Tryz.results4 (RV.tmp S rfl)) ?_)
    (first | rfl | (congr 1; exact apart_true (t := (nx, ax)) (u := (ny, ay)) (by assumption) (by assumption)) | trace_state)
  (intro h; clear S a; intro a S; (try simp only [tq] at h))
  iterate 2 (refine wpl_k S ?_; clear S a; intro a S)
  iterate 2 (refine wpl_p S ?_; clear S a; intro a S)
  iterate 5 (refine wpl_k S ?_; clear S a; intro a S)
  iterate 2 (refine wpl_p S ?_; clear S a; intro a S)
  iterate 2 (refine wpl_k S ?_; clear S a; intro a S)
  (refine wpl_p S ?_; clear S a; intro a S)
  (refine wpList_nil (hKq3 _ _ ?_); try clear hKq3 Kq3)
  refine wpc_true S rfl ?_
  refine wp_sr fun Kq4 hKq4 => ?_
  (first | (refine wpl_c0 S (awakeCt _ hE) ?_; clear S a; intro v a w hv S; subst hv) | (refine wpl_c0 S (awakeCt _ (hE.mono hle1)) ?_; clear S a; intro v a w hv S; subst hv))
  (refine wpl_p S ?_; clear S a; intro a S)
  (refine wpList_nil (hKq4 _ _ ?_); try clear hKq4 Kq4)
  refine wp_ret (fin_ret S (results1 Tryz.results4 (RV.tmp S rfl)) ?_)
  (first | rfl | (congr 1; exact apart_true (t := (nx, ax)) (u := (ny, ay)) (by assumption) (by assumption)) | trace_state)
end Go.Proofs.YtoaodbclgeeaeaaGreatDoor
