/- Walks. -/
import Derived.Test.YthnafdbebniapaaGreatDoorQ12
import Derived.Test.YthnafdbebniapaaGreatDoorQ09
import Derived.Test.YthnafdbebniapaaGreatDoorQ08
import Derived.Test.YthnafdbebniapaaGreatDoorKCoverFewer01
import Derived.Test.YthnafdbebniapaaGreatDoorQ05
import Derived.Test.YthnafdbebniapaaGreatDoorQ04
import Derived.Test.YthnafdbebniapaaGreatDoorQ03
import Derived.Test.YthnafdbebniapaaGreatDoorQ02
import Derived.Test.YthnafdbebniapaaGreatDoorQ01
import Derived.Test.YthnafdbebniapaaGreatDoorQ10
import Derived.Test.YthnafdbebniapaaGreatDoorKCoverFewerTy
import Derived.Test.YthnafdbebniapaaGreatDoorQ18
import Derived.Test.YthnafdbebniapaaGreatDoorQ32
import Derived.Test.YthnafdbebniapaaGreatDoorQ17
import Derived.Test.YthnafdbebniapaaGreatDoorQ11
import Derived.Test.YthnafdbebniapaaGreatDoorQ36
import Derived.Test.YthnafdbebniapaaGreatDoorQ35
import Derived.Test.YthnafdbebniapaaGreatDoorQ34
import Derived.Test.YthnafdbebniapaaGreatDoorQ13
import Derived.Test.YthnafdbebniapaaGreatDoorQ20
import Derived.Test.YthnafdbebniapaaGreatDoorKCoverFewer02
import Derived.Test.YthnafdbebniapaaGreatDoorQ31
import Derived.Test.YthnafdbebniapaaGreatDoorQ30
import Derived.Test.YthnafdbebniapaaGreatDoorQ29
import Derived.Test.YthnafdbebniapaaGreatDoorQ28
import Derived.Test.YthnafdbebniapaaGreatDoorQ27
import Derived.Test.YthnafdbebniapaaGreatDoorQ19
import Derived.Test.YthnafdbebniapaaGreatDoorQShelf
import Derived.Test.YthnafdbebniapaaGreatDoorQ22
import Derived.Test.YthnafdbebniapaaGreatDoorQ16
import Derived.Test.YthnafdbebniapaaGreatDoorQ15
import Derived.Test.YthnafdbebniapaaGreatDoorQ14
import Derived.Test.YthnafdbebniapaaGreatDoorQ26
import Derived.Test.YthnafdbebniapaaGreatDoorQ21
import Derived.Test.YthnafdbebniapaaGreatDoorQ25
import Derived.Test.YthnafdbebniapaaGreatDoorQ24
import Derived.Test.YthnafdbebniapaaGreatDoorQ23
import Derived.Test.YthnafdbebniapaaGreatDoorQ38
import Derived.Test.YthnafdbebniapaaGreatDoorQ37
import Derived.OpenShut
import Derived.Below
import Derived.Carry
import Derived.SizedLaws
import Derived.Deep.Slices
import Derived.Deep.Strs
import Derived.Test.YthnafdbebniapaaGreatDoorQ39
import Derived.ChangeSame
import Derived.Test.YthnafdbebniapaaGreatDoorQ40
import Derived.Test.YthnafdbebniapaaGreatDoorQ33
import Derived.Test.YthnafdbebniapaaGreatDoorRows
import Derived.Test.YthnafdbebniapaaGreatDoorCards
import Derived.Test.YthnafdbebniapaaGreatDoorTie
import Derived.WalkKit
import Derived.ProofKit
import Derived.LaidMore
import Derived.LaidHandle
import Derived.Lay
import Derived.ShutString
import Derived.Stop.Joined
import Derived.ChangeOld
import Derived.Handed
import Derived.Shelf.Vars
import Derived.SevenTiedAt
set_option maxHeartbeats 16000000
namespace Go.Proofs.YthnafdbebniapaaGreatDoor
open Go Go.Wk Go.Un Go.De
set_option linter.unusedSimpArgs false
set_option linter.unusedVariables false
attribute [local irreducible] Go.wpList Go.Code.wp Go.wpStill Go.Wk.wpPre Go.bodyPost Go.Calls Go.Wk.Ct Go.Wk.OwnS
attribute [local irreducible] Go.Wk.wpG Go.Wk.wpM
def Cnt (p S most : Nat) : Prop := p ≤ most ∧ p ≤ S ∧ (p = S ∨ p = most)
theorem zzCe0 {p : Prop} (h : p := by (rw [← hao] at S; refine ⟨l.len - (k + 1), by omega, k + 1, p + 1 + p9, s + 1 + x.2.size, rfl, by omega, by omega, by unfold Cnt; omega, ?_⟩; refine S.keep ?_; exact zk)) : p := h
theorem zzCe1 {p : Prop} (h : p := by (first | (have hz : (l.drop k).size = 0 := (by rw [Fo.drop_len (by omega)]; rfl); exact ⟨p, rfl, by unfold Cnt; omega⟩) | (exact ⟨p, rfl, by unfold Cnt; omega⟩))) : p := h
theorem typesCt (F : Heap) : ∀ (n : Nat) (l : Fo) (v : Value) (most : Nat), l.size ≤ n → most ≤ 1000000 → SlF F v l → Ct Tryz.prog 18 [v, .int .i64 (most : Int)] F [] (fun _ _ u => ∃ p : Nat, u = .int .i64 (p : Int) ∧ Cnt p l.size most) := by
  intro n
  induction n using Nat.strongRecOn with
  | _ n ih =>
  intro l v most hn hmost h
  obtain ⟨ao, cap, rfl, hcap, hpos⟩ := h
  refine Ct.enter Tryz.func18 rfl Tryz.ntmps18 rfl fun w0 a S => ?_
  (revert S a; refine go01 14 ?_; intro Z hZ a S)
  refine wpc_loop (fun m a w' => ∃ (k p s : Nat), m = l.len - k ∧ k ≤ l.len ∧ s + (l.drop k).size = l.size ∧ Cnt p s most ∧ St 32 [(0, .slice ao l.len cap), (1, .int .i64 (most : Int)), (5, .int .i64 (p : Int)), (6, .int .i64 k)] w0 F [] F [] a w') ?_ ?_
  · (refine ⟨l.len, 0, 0, 0, by omega, Nat.zero_le _, by rw [Nat.zero_add]; rfl, ⟨Nat.zero_le _, Nat.le_refl _, .inl rfl⟩, ?_⟩; refine S.keep ?_; exact zk)
  (clear S; rintro m a w ⟨k, p, s, rfl, hkl, hs, hp, S⟩; unfold Cnt at hp)
  (revert S a; refine go02 7 ?_; intro Z hZ Z hZ a S)
  refine wpl_guard S rfl rfl rfl rfl rfl ?_ ?_
  · (clear S; intro h S; (try simp only [tq] at h))
    (revert S a; revert hZ Z; refine go10 8 ?_; intro a S)
    refine wpc_sp S rfl ?_ ?_ <;> intro h
    · (revert S a; revert hZ Z; refine go11 10 ?_; intro Z hZ a S)
      (obtain ⟨b8, o8, hao, x, v1, hx, hc1, hT1⟩ := FoM.pos hpos (k := k) (by omega); rw [hao] at S; have hxs := Fo.size_get hx; have hdz : (l.drop k).size = x.2.size + (l.drop (k + 1)).size + 1 := (by rw [Fo.drop_get hx]; simp only [Fo.size]); have hc2 : Cel F b8 (o8 + k * 2 + 1) v1 := hc1 1 _ rfl)
      (revert S a; refine go00 6 ?_; intro a S)
      (refine wpl_v S rfl rfl rfl (sv_loadF S rfl rfl hc2) ?_; clear S a; intro a S)
      (revert S a; refine go00 3 ?_; intro a S)
      (rw [show ((most : Int) - ((p : Int) + 1)) = ((most - (p + 1) : Nat) : Int) by omega] at S)
      (refine wpl_call0 S rfl rfl rfl rfl rfl rfl (ih x.2.size (by omega) x.2 _ (most - (p + 1)) (Nat.le_refl _) (by omega) hT1) rfl ?_; clear S a; intro v a w hv S; obtain ⟨p9, rfl, hp9⟩ := hv; unfold Cnt at hp9)
      (revert S a; revert hZ Z; refine go10 9 ?_; intro a S)
      change ∃ m', _ ∧ _
      exact zzCe0
    (refine wp_exit ?_; conv => whnf)
    clear hZ Z
    (revert S a; revert hZ Z; refine go10 6 ?_; intro a S)
    refine wp_ret (fr1 S Tryz.results18 ?_)
    exact zzCe1
  (intro h; clear S a; intro a S; (try simp only [tq] at h))
  (revert S a; revert hZ Z; refine go10 5 ?_; intro a S)
  refine wpc_false S rfl ?_
  (refine wp_exit ?_; conv => whnf)
  clear hZ Z
  (revert S a; revert hZ Z; refine go10 6 ?_; intro a S)
  refine wp_ret (fr1 S Tryz.results18 ?_)
  exact zzCe1
theorem zzCe2 {p : Prop} (h : p := by (first | (have hz : (l.drop k).size = 0 := (by rw [Rose.drop_len (by omega)]; rfl); exact ⟨p, rfl, by unfold Cnt; omega⟩) | (exact ⟨p, rfl, by unfold Cnt; omega⟩))) : p := h
theorem exprsNCt (F : Heap) : ∀ (n : Nat) (l : Ef) (v : Value) (most : Nat), l.size ≤ n → most ≤ 1000000 → TrS F 9 EhR v l → Ct Tryz.prog 9 [v, .int .i64 (most : Int)] F [] (fun _ _ u => ∃ p : Nat, u = .int .i64 (p : Int) ∧ Cnt p l.size most) := by
  intro n
  induction n using Nat.strongRecOn with
  | _ n ih =>
  intro l v most hn hmost h
  obtain ⟨ao, cap, rfl, hcap, hpos⟩ := h
  refine Ct.enter Tryz.func9 rfl Tryz.ntmps9 rfl fun w0 a S => ?_
  (revert S a; refine go01 14 ?_; intro Z hZ a S)
  refine wpc_loop (fun m a w' => ∃ (k p s : Nat), m = l.len - k ∧ k ≤ l.len ∧ s + (l.drop k).size = l.size ∧ Cnt p s most ∧ St 32 [(0, .slice ao l.len cap), (1, .int .i64 (most : Int)), (5, .int .i64 (p : Int)), (6, .int .i64 k)] w0 F [] F [] a w') ?_ ?_
  · (refine ⟨l.len, 0, 0, 0, by omega, Nat.zero_le _, by rw [Nat.zero_add]; rfl, ⟨Nat.zero_le _, Nat.le_refl _, .inl rfl⟩, ?_⟩; refine S.keep ?_; exact zk)
  (clear S; rintro m a w ⟨k, p, s, rfl, hkl, hs, hp, S⟩; unfold Cnt at hp)
  (revert S a; refine go02 7 ?_; intro Z hZ Z hZ a S)
  refine wpl_guard S rfl rfl rfl rfl rfl ?_ ?_
  · (clear S; intro h S; (try simp only [tq] at h))
    (revert S a; revert hZ Z; refine go10 8 ?_; intro a S)
    refine wpc_sp S rfl ?_ ?_ <;> intro h
    · (revert S a; revert hZ Z; refine go11 10 ?_; intro Z hZ a S)
      (obtain ⟨b8, o8, hao, x, cs1, v1, hx, hc1, ⟨w9, rfl, -⟩, hT1⟩ := TrM.pos hpos (k := k) (by omega); rw [hao] at S; have hxs := Rose.size_get hx; have hdz : (l.drop k).size = x.2.size + (l.drop (k + 1)).size + 1 := (by rw [Rose.drop_get hx]; simp only [Rose.size]); have hc2 : Cel F b8 (o8 + k * 9 + 8) v1 := hc1 8 _ rfl)
      (revert S a; refine go00 6 ?_; intro a S)
      (refine wpl_v S rfl rfl rfl (sv_loadF S rfl rfl hc2) ?_; clear S a; intro a S)
      (revert S a; refine go00 3 ?_; intro a S)
      (rw [show ((most : Int) - ((p : Int) + 1)) = ((most - (p + 1) : Nat) : Int) by omega] at S)
      (refine wpl_call0 S rfl rfl rfl rfl rfl rfl (ih x.2.size (by omega) x.2 _ (most - (p + 1)) (Nat.le_refl _) (by omega) hT1) rfl ?_; clear S a; intro v a w hv S; obtain ⟨p9, rfl, hp9⟩ := hv; unfold Cnt at hp9)
      (revert S a; revert hZ Z; refine go10 9 ?_; intro a S)
      change ∃ m', _ ∧ _
      exact zzCe0
    (refine wp_exit ?_; conv => whnf)
    clear hZ Z
    (revert S a; revert hZ Z; refine go10 6 ?_; intro a S)
    refine wp_ret (fr1 S Tryz.results9 ?_)
    exact zzCe2
  (intro h; clear S a; intro a S; (try simp only [tq] at h))
  (revert S a; revert hZ Z; refine go10 5 ?_; intro a S)
  refine wpc_false S rfl ?_
  (refine wp_exit ?_; conv => whnf)
  clear hZ Z
  (revert S a; revert hZ Z; refine go10 6 ?_; intro a S)
  refine wp_ret (fr1 S Tryz.results9 ?_)
  exact zzCe2
end Go.Proofs.YthnafdbebniapaaGreatDoor
namespace Go.Proofs.YthnafdbebniapaaGreatDoor
open Go Go.Wk Go.Un Go.De
set_option linter.unusedSimpArgs false
set_option linter.unusedVariables false
theorem len0 {α : Type} {l : Rose α} (h : l.len = 0) : l = .nil := by cases l with | nil => rfl | cons a L r => cases h
end Go.Proofs.YthnafdbebniapaaGreatDoor
namespace Go.Proofs.YthnafdbebniapaaGreatDoor
open Go Go.Wk Go.Un Go.De Go.Cv
set_option linter.unusedSimpArgs false
set_option linter.unusedVariables false
attribute [local irreducible] Go.wpList Go.Code.wp Go.wpStill Go.Wk.wpPre Go.bodyPost Go.Calls Go.Wk.Ct Go.Wk.OwnS
set_option linter.unnecessarySimpa false
attribute [local irreducible] Go.Wk.wpG Go.Wk.wpM
theorem fsz_at {l : List FD} {j : Nat} {f : FD} (hf : l[j]? = some f) : fsz (l.take (j + 1)) = fsz (l.take j) + (1 + f.ta.size) := by
  unfold fsz; rw [List.take_add_one, hf, List.map_append, List.sum_append]; simp
theorem zzLtA0 {p : Prop} (h : p := by (first | exact ⟨false, rfl, fun h => (by cases h)⟩ | exact ⟨true, rfl, fun _ => ⟨by omega, fun x hx => hsm x (by rw [List.take_of_length_le (by omega)]; exact hx)⟩⟩ | trace_state)) : p := h
theorem zzLtA1 {p : Prop} (h : p := by (refine ⟨x.cs.length - (k + 1), by omega, k + 1, rfl, by omega, ?_, ?_⟩; rotate_left 1; (refine S.keep ?_; exact zk); (intro y hy; rw [List.take_add_one, hc] at hy; rcases List.mem_append.1 hy with hy | hy; exact hcm y hy; (have e9 : y = c := (by simpa using hy); subst e9; have e8 := hn (by omega); have hj9 : y.fs.length ≤ j := (by omega); rw [List.take_of_length_le hj9] at e8; omega)))) : p := h
theorem smallCt (F : Heap) (ts : List TD) (v : Value) (hL : LiM F 6 TdR v ts) : Ct Tryz.prog 17 [v] F [] (fun _ _ u => ∃ b, u = .bool b ∧ (b = true → SmT ts)) := by
 obtain ⟨ao, cap, rfl, hcap, -⟩ := id hL
 refine Ct.enter Tryz.func17 rfl Tryz.ntmps17 rfl fun w0 a S => ?_
 (revert S a; refine go01 11 ?_; intro Z hZ a S)
 refine wpc_sp S rfl ?_ ?_ <;> intro h
 ·(revert S a; refine go00 4 ?_; intro a S)
  refine wp_ret (fr1 S Tryz.results17 ?_)
  exact zzLtA0
 (revert S a; revert hZ Z; refine go11 8 ?_; intro Z hZ a S)
 refine wpc_loop (fun m a w' => ∃ (i : Nat), m = ts.length - i ∧ i ≤ ts.length ∧ (∀ x ∈ ts.take i, x.cs.length ≤ 5 ∧ x.ps.length ≤ 3 ∧ ∀ c ∈ x.cs, fsz c.fs < 7) ∧ St 79 [(0, .slice ao ts.length cap), (3, .int .i64 i)] w0 F [] F [] a w') ?_ ?_
 ·(refine ⟨ts.length, 0, by omega, Nat.zero_le _, fun x hx => by simp at hx, ?_⟩; refine S.keep ?_; exact zk)
 (clear S; rintro m a w ⟨i, rfl, hil, hsm, S⟩)
 (revert S a; refine go01 8 ?_; intro Z hZ a S)
 refine wpc_sp S rfl ?_ ?_ <;> intro h
 ·(revert S a; revert hZ Z; refine go12 5 ?_; intro Z hZ Z hZ a S)
  (refine wp_seq_k ?_; intro Z hZ)
  (obtain ⟨x, hx⟩ := at_ex (l := ts) (k := i) (by omega); obtain ⟨b8, o8, ap8, cp8, ac8, cc8, hao, hcx, -, hcs⟩ := td_at hL hx; have hcx5 : Cel F b8 (o8 + i * 6 + 5) _ := hcx 5 _ rfl; have hcx4 : Cel F b8 (o8 + i * 6 + 4) _ := hcx 4 _ rfl; obtain ⟨_, _, _, hcb, -⟩ := id hcs; rw [hao] at S)
  (revert S a; refine go00 5 ?_; intro a S)
  (refine wpl_v S rfl rfl rfl (sv_loadF S rfl rfl hcx5) ?_; clear S a; intro a S)
  (revert S a; refine go00 3 ?_; intro a S)
  refine wpl_guard S rfl rfl rfl rfl rfl ?_ ?_
  ·(clear S; intro h S; (try simp only [tq] at h))
   (revert S a; refine go00 8 ?_; intro a S)
   (refine wpl_v S rfl rfl rfl (sv_loadF S rfl rfl hcx4) ?_; clear S a; intro a S)
   (revert S a; revert hZ Z; refine go10 7 ?_; intro a S)
   refine wpc_sp S rfl ?_ ?_ <;> intro h
   ·(revert S a; refine go00 4 ?_; intro a S)
    refine wp_ret (fr1 S Tryz.results17 ?_)
    exact zzLtA0
   (revert S a; revert hZ Z; refine go10 7 ?_; intro a S)
   refine wpc_loop (fun m a w' => ∃ (k : Nat), m = x.cs.length - k ∧ k ≤ x.cs.length ∧ (∀ c ∈ x.cs.take k, fsz c.fs < 7) ∧ St 79 [(0, .slice (some ⟨b8, o8, none⟩) ts.length cap), (3, .int .i64 i), (4, .int .i64 k)] w0 F [] F [] a w') ?_ ?_
   ·(refine ⟨x.cs.length, 0, by omega, Nat.zero_le _, fun x hx => by simp at hx, ?_⟩; refine S.keep ?_; exact zk)
   (clear S; rintro m a w ⟨k, rfl, hkl, hcm, S⟩)
   (revert S a; refine go02 7 ?_; intro Z hZ Z hZ a S)
   (refine wpl_v S rfl rfl rfl (sv_loadF S rfl rfl hcx5) ?_; clear S a; intro a S)
   (revert S a; revert hZ Z; refine go10 4 ?_; intro a S)
   refine wpc_sp S rfl ?_ ?_ <;> intro h
   ·(revert S a; revert hZ Z; refine go11 4 ?_; intro Z hZ a S)
    (refine wp_seq_k ?_; intro Z hZ)
    (obtain ⟨c, hc⟩ := at_ex (l := x.cs) (k := k) (by omega); obtain ⟨b9, o9, af9, cf9, hac, hcc, hfs⟩ := cd_at hcs hc; rw [hac] at hcx5; have hcc1 : Cel F b9 (o9 + k * 2 + 1) _ := hcc 1 _ rfl; obtain ⟨_, _, _, hfb, -⟩ := id hfs)
    (revert S a; revert hZ Z; refine go11 10 ?_; intro Z hZ a S)
    refine wpc_loop (fun m a w' => ∃ (j p : Nat), m = c.fs.length - j ∧ j ≤ c.fs.length ∧ p ≤ 20 ∧ (p < 7 → fsz (c.fs.take j) ≤ p) ∧ St 79 [(0, .slice (some ⟨b8, o8, none⟩) ts.length cap), (3, .int .i64 i), (4, .int .i64 k), (5, .int .i64 p), (6, .int .i64 j)] w0 F [] F [] a w') ?_ ?_
    ·(refine ⟨c.fs.length, 0, 0, by omega, Nat.zero_le _, Nat.zero_le _, fun _ => Nat.le_refl _, ?_⟩; refine S.keep ?_; exact zk)
    (clear S; rintro m a w ⟨j, p, rfl, hjl, hp20, hn, S⟩)
    (revert S a; refine go02 7 ?_; intro Z hZ Z hZ a S)
    (refine wpl_v S rfl rfl rfl (sv_loadF S rfl rfl hcx5) ?_; clear S a; intro a S)
    (revert S a; refine go00 3 ?_; intro a S)
    (refine wpl_v S rfl rfl rfl (sv_loadF S rfl rfl hcc1) ?_; clear S a; intro a S)
    (revert S a; refine go00 3 ?_; intro a S)
    refine wpl_guard S rfl rfl rfl rfl rfl ?_ ?_
    ·(clear S; intro h S; (try simp only [tq] at h))
     (revert S a; revert hZ Z; refine go10 6 ?_; intro a S)
     refine wpc_sp S rfl ?_ ?_ <;> intro h
     ·(revert S a; revert hZ Z; refine go11 4 ?_; intro Z hZ a S)
      (obtain ⟨f, hf⟩ := at_ex (l := c.fs) (k := j) (by omega); obtain ⟨b7, o7, aa7, ca7, haf, hcf, hfa⟩ := fd_at hfs hf; rw [haf] at hcc1; have hcf1 := fd_ty hcf)
      (revert S a; refine go00 6 ?_; intro a S)
      (refine wpl_v S rfl rfl rfl (sv_loadF S rfl rfl hcx5) ?_; clear S a; intro a S)
      (revert S a; refine go00 3 ?_; intro a S)
      (refine wpl_v S rfl rfl rfl (sv_loadF S rfl rfl hcc1) ?_; clear S a; intro a S)
      (revert S a; refine go00 3 ?_; intro a S)
      (refine wpl_v S rfl rfl rfl (sv_loadAF S rfl rfl hcf1 rfl) ?_; clear S a; intro a S)
      (refine wpl_buildSlice S rfl rfl rfl rfl rfl rfl (by rfl) (by simp [Value.cells, splice, splice]) rfl (by rfl) (by rfl) ?_; clear S a; intro b74 a w hown S)
      (have S' := frz1 S; clear S; obtain ⟨F6, hle6, hb74, S⟩ := S'; refine wpl_call0 S rfl rfl rfl rfl rfl rfl (typesCt F6 _ (.cons f.tn f.ta .nil) _ 7 (Nat.le_refl _) (by decide) (slf_one1 hb74 (hfa.mono hle6))) rfl ?_; clear S a; intro v75 a w hv S; obtain ⟨p9, rfl, hp9⟩ := hv; unfold Cnt at hp9; replace S := St.shrink S hle6 (fun _ _ h => h))
      (revert S a; revert hZ Z; refine go10 9 ?_; intro a S)
      change ∃ m', _ ∧ _
      (rw [← haf] at S; refine ⟨c.fs.length - (j + 1), by omega, j + 1, p + p9, rfl, by omega, by omega, ?_, ?_⟩; rotate_left 1; (refine S.keep ?_; exact zk); (intro h9; rw [fsz_at hf]; have e8 := hn (by omega); have e7 : (Fo.cons f.tn f.ta .nil).size = f.ta.size + 0 + 1 := rfl; omega))
     (refine wp_exit ?_; conv => whnf)
     clear hZ Z
     (revert S a; revert hZ Z; refine go10 6 ?_; intro a S)
     refine wpc_sp S rfl ?_ ?_ <;> intro h
     ·(revert S a; refine go00 4 ?_; intro a S)
      refine wp_ret (fr1 S Tryz.results17 ?_)
      exact zzLtA0
     (revert S a; revert hZ Z; refine go10 7 ?_; intro a S)
     change ∃ m', _ ∧ _
     exact zzLtA1
    (intro h; clear S a; intro a S; (try simp only [tq] at h))
    (revert S a; revert hZ Z; refine go10 4 ?_; intro a S)
    refine wpc_false S rfl ?_
    (refine wp_exit ?_; conv => whnf)
    clear hZ Z
    (revert S a; revert hZ Z; refine go10 6 ?_; intro a S)
    refine wpc_sp S rfl ?_ ?_ <;> intro h
    ·(revert S a; refine go00 4 ?_; intro a S)
     refine wp_ret (fr1 S Tryz.results17 ?_)
     exact zzLtA0
    (revert S a; revert hZ Z; refine go10 7 ?_; intro a S)
    change ∃ m', _ ∧ _
    exact zzLtA1
   (refine wp_exit ?_; conv => whnf)
   clear hZ Z
   (revert S a; revert hZ Z; refine go10 6 ?_; intro a S)
   change ∃ m', _ ∧ _
   (rw [← hao] at S; refine ⟨ts.length - (i + 1), by omega, i + 1, rfl, by omega, ?_, ?_⟩; rotate_left 1; (refine S.keep ?_; exact zk); (intro y hy; rw [List.take_add_one, hx] at hy; rcases List.mem_append.1 hy with hy | hy; exact hsm y hy; (have e9 : y = x := (by simpa using hy); subst e9; refine ⟨by omega, by omega, fun c hc => hcm c ?_⟩; rw [List.take_of_length_le (by omega)]; exact hc)))
  (intro h; clear S a; intro a S; (try simp only [tq] at h))
  (revert S a; revert hZ Z; refine go10 9 ?_; intro a S)
  refine wpc_true S rfl ?_
  (revert S a; refine go00 4 ?_; intro a S)
  refine wp_ret (fr1 S Tryz.results17 ?_)
  exact zzLtA0
 (refine wp_exit ?_; conv => whnf)
 clear hZ Z
 (revert S a; revert hZ Z; refine go10 5 ?_; intro a S)
 refine wp_ret (fr1 S Tryz.results17 ?_)
 exact zzLtA0
theorem totR_at {l : List Ef} {j : Nat} {f : Ef} (hf : l[j]? = some f) : totR (l.take (j + 1)) = totR (l.take j) + (1 + f.size) := by
  unfold totR; rw [List.take_add_one, hf, List.map_append, List.sum_append]; simp
theorem zzLtA2 {p : Prop} (h : p := by (refine ⟨_, rfl, fun hb => ?_⟩; first | (have hb2 : (n : Int) < 200 := (by simpa using hb); clear hb; have e9 := hn (by omega); exact ⟨hbs (by assumption), by omega, by omega, by rw [List.take_of_length_le (by omega)] at e9; omega⟩) | (cases hb; done) | trace_state)) : p := h
theorem lfitsCt (F : Heap) (ts : List TD) (v v1 v2 : Value) (xs : Fo) (rows : List Ef) (hL : LiM F 6 TdR v ts) (h1 : SlF F v1 xs) (h2 : LiM F 1 RwR v2 rows) : Ct Tryz.prog 31 [v, v1, v2] F [] (fun _ _ u => ∃ b, u = .bool b ∧ (b = true → FtB ts xs rows)) := by
 have hs := smallCt F ts v hL
 obtain ⟨ao, cap, rfl, hcap, -⟩ := id hL
 obtain ⟨a1, c1, rfl, h1c, -⟩ := id h1
 obtain ⟨a2, c2, rfl, h2c, h2p⟩ := id h2
 refine Ct.enter Tryz.func31 rfl Tryz.ntmps31 rfl fun w0 a S => ?_
 (revert S a; refine go01 6 ?_; intro Z hZ a S)
 (refine wpl_call0 S rfl rfl rfl rfl rfl rfl (typesCt F _ xs _ 30 (Nat.le_refl _) (by decide) h1) rfl ?_; clear S a; intro v10 a w hv S; obtain ⟨p0, rfl, hp0⟩ := hv; unfold Cnt at hp0)
 (revert S a; revert hZ Z; refine go11 9 ?_; intro Z hZ a S)
 refine wpc_loop (fun m a w' => ∃ (i n : Nat), m = rows.length - i ∧ i ≤ rows.length ∧ n ≤ 500 ∧ (n < 200 → totR (rows.take i) ≤ n) ∧ St 45 [(0, .slice ao ts.length cap), (1, .slice a1 xs.len c1), (2, .slice a2 rows.length c2), (7, .int .i64 n), (8, .int .i64 i)] w0 F [] F [] a w') ?_ ?_
 ·(refine ⟨rows.length, 0, p0, by omega, Nat.zero_le _, by omega, fun _ => Nat.zero_le _, ?_⟩; refine S.keep ?_; exact zk)
 (clear S; rintro m a w ⟨i, n, rfl, hil, hn5, hn, S⟩)
 (revert S a; refine go02 7 ?_; intro Z hZ Z hZ a S)
 refine wpl_guard S rfl rfl rfl rfl rfl ?_ ?_
 ·(clear S; intro h S; (try simp only [tq] at h))
  (revert S a; revert hZ Z; refine go10 6 ?_; intro a S)
  refine wpc_sp S rfl ?_ ?_ <;> intro h
  ·(revert S a; revert hZ Z; refine go11 4 ?_; intro Z hZ a S)
   (obtain ⟨b8, o8, hao, r, cs1, hx, hcr, ⟨u1, rfl, hu1⟩⟩ := LiM.pos h2p (k := i) (by omega); rw [hao] at S; replace hcr : Cel F b8 (o8 + i * 1) _ := hcr 0 _ rfl; obtain ⟨ar, cr, rfl⟩ := trs_slc hu1)
   (revert S a; refine go00 6 ?_; intro a S)
   (refine wpl_v S rfl rfl rfl (sv_loadF S rfl rfl hcr) ?_; clear S a; intro a S)
   (refine wpl_call0 S rfl rfl rfl rfl rfl rfl (exprsNCt F _ r _ 200 (Nat.le_refl _) (by decide) hu1) (by simp) ?_; clear S a; intro v27 a w hv S; obtain ⟨p9, rfl, hp9⟩ := hv; unfold Cnt at hp9)
   (revert S a; revert hZ Z; refine go10 9 ?_; intro a S)
   change ∃ m', _ ∧ _
   (rw [← hao] at S; refine ⟨rows.length - (i + 1), by omega, i + 1, n + 1 + p9, rfl, by omega, by omega, ?_, ?_⟩; rotate_left 1; (refine S.keep ?_; exact zk); (intro h9; rw [totR_at hx]; have := hn (by omega); omega))
  (refine wp_exit ?_; conv => whnf)
  clear hZ Z
  (revert S a; revert hZ Z; refine go11 3 ?_; intro Z hZ a S)
  (refine wpl_call0 S rfl rfl rfl rfl rfl rfl hs rfl ?_; clear S a; intro v30 a w hv S; obtain ⟨bs0, rfl, hbs⟩ := hv)
  (revert S a; refine go00 1 ?_; intro a S)
  refine wpl_guard S rfl rfl rfl rfl rfl ?_ ?_
  ·(clear S; intro h S; (try simp only [tq] at h))
   (revert S a; refine go00 2 ?_; intro a S)
   (refine wpl_call0 S rfl rfl rfl rfl rfl rfl (typesCt F _ xs _ 30 (Nat.le_refl _) (by decide) h1) rfl ?_; clear S a; intro v33 a w hv S; obtain ⟨p3, rfl, hp3⟩ := hv; unfold Cnt at hp3)
   (revert S a; refine go00 4 ?_; intro a S)
   refine wpl_guard S rfl rfl rfl rfl rfl ?_ ?_
   ·(clear S; intro h S; (try simp only [tq] at h))
    (revert S a; refine go00 7 ?_; intro a S)
    refine wpl_guard S rfl rfl rfl rfl rfl ?_ ?_
    ·(clear S; intro h S; (try simp only [tq] at h))
     (revert S a; revert hZ Z; refine go10 7 ?_; intro a S)
     refine wp_ret (fr1 S Tryz.results31 ?_)
     exact zzLtA2
    (intro h; clear S a; intro a S; (try simp only [tq] at h))
    (revert S a; revert hZ Z; refine go10 5 ?_; intro a S)
    refine wp_ret (fr1 S Tryz.results31 ?_)
    exact zzLtA2
   (intro h; clear S a; intro a S; (try simp only [tq] at h))
   (revert S a; revert hZ Z; refine go10 10 ?_; intro a S)
   refine wp_ret (fr1 S Tryz.results31 ?_)
   exact zzLtA2
  (intro h; clear S a; intro a S; (try simp only [tq] at h))
  (revert S a; revert hZ Z; refine go10 15 ?_; intro a S)
  refine wp_ret (fr1 S Tryz.results31 ?_)
  exact zzLtA2
 (intro h; clear S a; intro a S; (try simp only [tq] at h))
 (revert S a; revert hZ Z; refine go10 4 ?_; intro a S)
 refine wpc_false S rfl ?_
 (refine wp_exit ?_; conv => whnf)
 clear hZ Z
 (revert S a; revert hZ Z; refine go11 3 ?_; intro Z hZ a S)
 (refine wpl_call0 S rfl rfl rfl rfl rfl rfl hs rfl ?_; clear S a; intro v30 a w hv S; obtain ⟨bs0, rfl, hbs⟩ := hv)
 (revert S a; refine go00 1 ?_; intro a S)
 refine wpl_guard S rfl rfl rfl rfl rfl ?_ ?_
 ·(clear S; intro h S; (try simp only [tq] at h))
  (revert S a; refine go00 2 ?_; intro a S)
  (refine wpl_call0 S rfl rfl rfl rfl rfl rfl (typesCt F _ xs _ 30 (Nat.le_refl _) (by decide) h1) rfl ?_; clear S a; intro v33 a w hv S; obtain ⟨p3, rfl, hp3⟩ := hv; unfold Cnt at hp3)
  (revert S a; refine go00 4 ?_; intro a S)
  refine wpl_guard S rfl rfl rfl rfl rfl ?_ ?_
  ·(clear S; intro h S; (try simp only [tq] at h))
   (revert S a; refine go00 7 ?_; intro a S)
   refine wpl_guard S rfl rfl rfl rfl rfl ?_ ?_
   ·(clear S; intro h S; (try simp only [tq] at h))
    (revert S a; revert hZ Z; refine go10 7 ?_; intro a S)
    refine wp_ret (fr1 S Tryz.results31 ?_)
    exact zzLtA2
   (intro h; clear S a; intro a S; (try simp only [tq] at h))
   (revert S a; revert hZ Z; refine go10 5 ?_; intro a S)
   refine wp_ret (fr1 S Tryz.results31 ?_)
   exact zzLtA2
  (intro h; clear S a; intro a S; (try simp only [tq] at h))
  (revert S a; revert hZ Z; refine go10 10 ?_; intro a S)
  refine wp_ret (fr1 S Tryz.results31 ?_)
  exact zzLtA2
 (intro h; clear S a; intro a S; (try simp only [tq] at h))
 (revert S a; revert hZ Z; refine go10 15 ?_; intro a S)
 refine wp_ret (fr1 S Tryz.results31 ?_)
 exact zzLtA2
end Go.Proofs.YthnafdbebniapaaGreatDoor
namespace Go.Proofs.YthnafdbebniapaaGreatDoor
open Go Go.Wk Go.Un Go.De Go.Cv
set_option linter.unusedSimpArgs false
set_option linter.unusedVariables false
attribute [local irreducible] Go.wpList Go.Code.wp Go.wpStill Go.Wk.wpPre Go.bodyPost Go.Calls Go.Wk.Ct Go.Wk.OwnS
theorem totR_take (rows : List Ef) (k : Nat) : totR (rows.take k) ≤ totR rows := by
  have h : totR (rows.take k) + totR (rows.drop k) = totR rows := by
    unfold totR
    rw [← List.sum_append, ← List.map_append, List.take_append_drop]
  omega
theorem uru_usl {ts : List TD} {xs : Fo} {rows : List Ef} (hS : SmT ts) (hT : TOk ts) (hx : xs.size < 30) (hr : totR rows ≤ 200) (hB : RowsB rows) (h : chkE ts (tysOf xs) rows = 0) : ∀ k r, rows[k]? = some r → URu ts (tysOf xs) (rows.take k) r := by
  obtain ⟨h1, h2⟩ := ck_well h
  have h3 := ck_rows h2
  have hl := fo_len_30 hx
  have hQ : ∀ r ∈ rows, QOk ts (tysOf xs) r := fun r hr2 => row_QOk (h3 r hr2) (hB r hr2).1 (hB r hr2).2 (by have := totR_mem r hr2; omega)
  intro k r hk
  exact uru_of hS hT (fun x hx2 => ⟨h1 x hx2, by have := fo_size_mem x hx2; omega⟩) hl (fun r hr2 => hQ r (List.mem_of_mem_take hr2)) (hQ r (List.mem_of_getElem? hk)) (Nat.le_trans (totR_take rows k) hr)
end Go.Proofs.YthnafdbebniapaaGreatDoor
namespace Go.Wk
open Go Go.ChangeShapes Go.WideShapes
set_option linter.unusedSimpArgs false
set_option linter.unusedVariables false
theorem at_heapOf (w : World) : At w (heapOf w) [] := ⟨fun _ _ h => h, fun p h => by simp at h, by simp [keys]⟩
theorem below_of {W W' : World} {F' : Heap} {G' : List Grp} (h : Tr W (heapOf W) [] W' F' G') : Go.RowKit.Below W.heap.size W W' :=
  ⟨h.os, h.tape, h.output, h.size, fun k hk => h.old k hk (by simp)⟩
end Go.Wk
namespace Go.De
open Go Go.Wk Go.Un Go.ChangeShapes Go.WideShapes
set_option linter.unusedSimpArgs false
set_option linter.unusedVariables false
section
variable {H : Type} {enc : TypeId × Value → H} {P : Program} {w : World} {spare : Nat → Bool} {held : Bool} {m : Nat} {t : TypeId}
theorem opn_bool (ht : P.underlying t = some .bool) : Opn enc P w spare held m t (fun cs => ∃ b, cs = [.bool b]) := fun f cs d p _ h _ => by
  obtain ⟨b, h1, _⟩ := DataW.trod_bool ht h
  exact ⟨b, h1⟩
end
end Go.De
namespace Go.Proofs.YthnafdbebniapaaGreatDoor
open Go Go.Wk Go.Un Go.De Go.Cv Go.ChangeShapes Go.WideShapes Go.ChangeAt Go.RowKit
set_option linter.unusedSimpArgs false
set_option linter.unusedVariables false
open Go.ChangeMaps (open_string shut_string)
section
variable {H : Type} {enc : TypeId × Value → H} {w : World} {spare : Nat → Bool} {held : Bool}
theorem o_bool (m : Nat) : Opn enc Tryz.prog w spare held m 4 (fun cs => ∃ b, cs = [.bool b]) := opn_bool Tryz.underlying4
theorem o_strs (m : Nat) : Opn enc Tryz.prog w spare held m 66 (fun cs => ∃ v l, cs = [v] ∧ LiM (heapOf w) 1 StR v l) :=
  opn_slice Tryz.underlying66 (by kernel_rfl) (by decide) (by kernel_rfl) ((o_str m).imp fun cs ⟨s, h, _⟩ => by subst h; exact ⟨rfl, s, rfl⟩)
theorem o_tys (m : Nat) : Opn enc Tryz.prog w spare held m 47 (fun cs => ∃ v l, cs = [v] ∧ SlF (heapOf w) v l) :=
  (opn_slice Tryz.underlying47 (by kernel_rfl) (by decide) (by kernel_rfl) (o_ty m)).imp fun cs ⟨v, l, h, h2⟩ => ⟨v, _, h, lim_slf h2⟩
theorem o_fd (m : Nat) : Opn enc Tryz.prog w spare held m 94 (fun cs => cs.length = 3 ∧ ∃ x, FdR (heapOf w) x cs) :=
  ((opn_struct (m := m) Tryz.underlying94 (by kernel_rfl) (.cons (o_str m) (.cons (o_ty m) .nil))).lt (Nat.le_succ m)).imp fun cs ⟨a, b, e, ⟨s, h1, _⟩, a2, b2, e2, ⟨_, ⟨nm, ar⟩, v, h2, h3⟩, e3⟩ => by
    subst e; subst h1; subst e2; subst h2; subst e3
    exact ⟨rfl, ⟨s, nm, ar⟩, v, rfl, h3⟩
theorem o_fds (m : Nat) : Opn enc Tryz.prog w spare held m 90 (fun cs => ∃ v l, cs = [v] ∧ LiM (heapOf w) 3 FdR v l) := opn_slice Tryz.underlying90 (by kernel_rfl) (by decide) (by kernel_rfl) (o_fd m)
theorem o_cd (m : Nat) : Opn enc Tryz.prog w spare held m 92 (fun cs => cs.length = 2 ∧ ∃ x, CdR (heapOf w) x cs) :=
  ((opn_struct (m := m) Tryz.underlying92 (by kernel_rfl) (.cons (o_str m) (.cons (o_fds m) .nil))).lt (Nat.le_succ m)).imp fun cs ⟨a, b, e, ⟨s, h1, _⟩, a2, b2, e2, ⟨v, l, h2, h3⟩, e3⟩ => by
    subst e; subst h1; subst e2; subst h2; subst e3
    exact ⟨rfl, ⟨s, l⟩, v, rfl, h3⟩
theorem o_cds (m : Nat) : Opn enc Tryz.prog w spare held m 67 (fun cs => ∃ v l, cs = [v] ∧ LiM (heapOf w) 2 CdR v l) := opn_slice Tryz.underlying67 (by kernel_rfl) (by decide) (by kernel_rfl) (o_cd m)
theorem o_td (m : Nat) : Opn enc Tryz.prog w spare held m 69 (fun cs => cs.length = 6 ∧ ∃ x, TdR (heapOf w) x cs) :=
  ((opn_struct (m := m) Tryz.underlying69 (by kernel_rfl) (.cons (o_pos m) (.cons (o_bool m) (.cons (o_str m) (.cons (o_strs m) (.cons (o_cds m) .nil)))))).lt (Nat.le_succ m)).imp fun cs ⟨a, b, e, ⟨l, c, h1⟩, a2, b2, e2, ⟨pb, h2⟩, a3, b3, e3, ⟨s, h3, _⟩, a4, b4, e4, ⟨v, ps, h4, h4'⟩, a5, b5, e5, ⟨u, cl, h5, h5'⟩, e6⟩ => by
    subst e; subst h1; subst e2; subst h2; subst e3; subst h3; subst e4; subst h4; subst e5; subst h5; subst e6
    exact ⟨rfl, ⟨l, c, pb, s, ps, cl⟩, v, u, rfl, h4', h5'⟩
theorem o_tds (m : Nat) : Opn enc Tryz.prog w spare held m 46 (fun cs => ∃ v l, cs = [v] ∧ LiM (heapOf w) 6 TdR v l) := opn_slice Tryz.underlying46 (by kernel_rfl) (by decide) (by kernel_rfl) (o_td m)
theorem o_row (m : Nat) : Opn enc Tryz.prog w spare held m 27 (fun cs => cs.length = 1 ∧ ∃ r, RwR (heapOf w) r cs ∧ (BndL r ∧ RgL r)) :=
  (opn_slice (R := fun F x cs => RoR 9 EhR F x cs ∧ Qe x) Tryz.underlying27 (by kernel_rfl) (by decide) (by kernel_rfl) (o_expr m)).imp fun cs ⟨v, l, h, h2⟩ => by
    subst h
    obtain ⟨g1, g2⟩ := lim_and h2
    exact ⟨rfl, roseOf l, ⟨v, rfl, trs_lim g1⟩, qe_rose g2⟩
theorem o_rows (m : Nat) : Opn enc Tryz.prog w spare held m 79 (fun cs => ∃ v l, cs = [v] ∧ LiM (heapOf w) 1 RwR v l ∧ RowsB l) :=
  (opn_slice (R := fun F r cs => RwR F r cs ∧ (BndL r ∧ RgL r)) Tryz.underlying79 (by kernel_rfl) (by decide) (by kernel_rfl) (o_row m)).imp fun cs ⟨v, l, h, h2⟩ => ⟨v, l, h, (lim_and h2).1, (lim_and h2).2⟩
end
end Go.Proofs.YthnafdbebniapaaGreatDoor
namespace Go.Proofs.YthnafdbebniapaaGreatDoor
open Go Go.Wk Go.Un Go.De Go.Cv
set_option linter.unusedSimpArgs false
set_option linter.unusedVariables false
attribute [local irreducible] Go.wpList Go.Code.wp Go.wpStill Go.Wk.wpPre Go.bodyPost Go.Calls Go.Wk.Ct Go.Wk.OwnS
abbrev fewC (ts : List TD) (xs : List Ty) (rows : List Ef) : List Ef := fewF showV (allF ts (consOf ts)) (kidF (consOf ts)) (arK ts) xs [] rows
theorem chkR_app {ts : List TD} {xs : List Ty} {q : Ef} : ∀ {a : List Ef}, chkR ts xs (a ++ [q]) = if chkR ts xs a = 0 then chkR ts xs [q] else chkR ts xs a
  | [] => by
    show chkR ts xs [q] = if (0 : Int) = 0 then chkR ts xs [q] else 0
    rw [if_pos rfl]
  | r :: a => by
    have ih := chkR_app (ts := ts) (xs := xs) (q := q) (a := a)
    show (if rowF ts xs r = false then (70 : Int) else if (vrL r []).length ≠ cntL r then 74 else chkR ts xs (a ++ [q])) = if (if rowF ts xs r = false then (70 : Int) else if (vrL r []).length ≠ cntL r then 74 else chkR ts xs a) = 0 then _ else (if rowF ts xs r = false then (70 : Int) else if (vrL r []).length ≠ cntL r then 74 else chkR ts xs a)
    by_cases h1 : rowF ts xs r = false
    · rw [if_pos h1, if_pos h1, if_neg (by decide)]
    · rw [if_neg h1, if_neg h1]
      by_cases h2 : (vrL r []).length ≠ cntL r
      · rw [if_pos h2, if_pos h2, if_neg (by decide)]
      · rw [if_neg h2, if_neg h2, ih]
theorem usl_mem {ts : List TD} {xs : List Ty} : ∀ (rs pre : List Ef) (i m : Nat), m ∈ uslF showV (allF ts (consOf ts)) (kidF (consOf ts)) (arK ts) xs i pre rs → i ≤ m ∧ m < i + rs.length
  | [], _, _, m, h => by cases h
  | r :: rs, pre, i, m, h => by
    have ih := usl_mem (ts := ts) (xs := xs) rs (pre ++ [r]) (i + 1) m
    unfold uslF at h
    rw [List.length_cons]
    split at h
    · have := ih h; omega
    · rcases List.mem_cons.1 h with rfl | h
      · omega
      · have := ih h; omega
theorem usl_cons {ts : List TD} {xs : List Ty} (i : Nat) (pre : List Ef) (r : Ef) (rs : List Ef) : uslF showV (allF ts (consOf ts)) (kidF (consOf ts)) (arK ts) xs i pre (r :: rs) = if usU showV (allF ts (consOf ts)) (kidF (consOf ts)) (arK ts) xs pre r = true then uslF showV (allF ts (consOf ts)) (kidF (consOf ts)) (arK ts) xs (i + 1) (pre ++ [r]) rs else i :: uslF showV (allF ts (consOf ts)) (kidF (consOf ts)) (arK ts) xs (i + 1) (pre ++ [r]) rs := rfl
theorem usl_app {ts : List TD} {xs : List Ty} : ∀ (a b pre : List Ef) (i : Nat), uslF showV (allF ts (consOf ts)) (kidF (consOf ts)) (arK ts) xs i pre (a ++ b) = uslF showV (allF ts (consOf ts)) (kidF (consOf ts)) (arK ts) xs i pre a ++ uslF showV (allF ts (consOf ts)) (kidF (consOf ts)) (arK ts) xs (i + a.length) (pre ++ a) b
  | [], b, pre, i => by rw [List.append_nil]; rfl
  | r :: a, b, pre, i => by
    have ih := usl_app (ts := ts) (xs := xs) a b (pre ++ [r]) (i + 1)
    rw [show pre ++ [r] ++ a = pre ++ r :: a by rw [List.append_assoc]; rfl, show i + 1 + a.length = i + (r :: a).length by rw [List.length_cons]; omega] at ih
    rw [List.cons_append, usl_cons, usl_cons]
    split
    · exact ih
    · rw [ih]; rfl
theorem usl_step {ts : List TD} {xs : List Ty} {rows : List Ef} {k : Nat} {r : Ef} (hx : rows[k]? = some r) :
    (usuC ts xs (rows.take k) r = true → ∀ m, (uslC ts xs rows)[(uslC ts xs (rows.take k)).length]? = some m → m ≠ k) ∧ (usuC ts xs (rows.take k) r = false → (uslC ts xs rows)[(uslC ts xs (rows.take k)).length]? = some k) := by
  obtain ⟨h1, h2⟩ := List.getElem?_eq_some_iff.1 hx
  have e : uslC ts xs rows = uslC ts xs (rows.take k) ++ uslF showV (allF ts (consOf ts)) (kidF (consOf ts)) (arK ts) xs k (rows.take k) (r :: rows.drop (k + 1)) := by
    have := usl_app (ts := ts) (xs := xs) (rows.take k) (rows.drop k) [] 0
    rw [List.take_append_drop, List.nil_append, Nat.zero_add, List.length_take, Nat.min_eq_left (by omega), List.drop_eq_getElem_cons h1, h2] at this
    exact this
  rw [e, List.getElem?_append_right (Nat.le_refl _), Nat.sub_self]
  constructor
  · intro hu m hm
    unfold uslF at hm
    rw [if_pos (show usU showV _ _ _ _ _ _ = true from hu)] at hm
    have := usl_mem _ _ _ _ (List.mem_of_getElem? hm)
    omega
  · intro hu
    unfold uslF
    rw [if_neg (by rw [show usU showV _ _ _ _ _ _ = false from hu]; decide)]
    rfl
theorem few_app {ts : List TD} {xs : List Ty} {q : Ef} : ∀ (a pre : List Ef), fewF showV (allF ts (consOf ts)) (kidF (consOf ts)) (arK ts) xs pre (a ++ [q]) = fewF showV (allF ts (consOf ts)) (kidF (consOf ts)) (arK ts) xs pre a ++ (if usU showV (allF ts (consOf ts)) (kidF (consOf ts)) (arK ts) xs (pre ++ a) q = true then [q] else [])
  | [], pre => by
    rw [List.append_nil]
    show fewF showV _ _ _ xs pre [q] = _
    unfold fewF
    split <;> rfl
  | r :: a, pre => by
    have ih := few_app (ts := ts) (xs := xs) (q := q) a (pre ++ [r])
    rw [show pre ++ [r] ++ a = pre ++ r :: a by rw [List.append_assoc]; rfl] at ih
    rw [List.cons_append]
    unfold fewF
    split
    · rw [ih]; rfl
    · exact ih
theorem few_at {ts : List TD} {xs : List Ty} {rows : List Ef} {k : Nat} {r : Ef} (hx : rows[k]? = some r) : fewC ts xs (rows.take (k + 1)) = fewC ts xs (rows.take k) ++ (if usuC ts xs (rows.take k) r = true then [r] else []) := by
  unfold fewC usuC
  rw [List.take_add_one, hx, Option.toList_some, few_app, List.nil_append]
theorem few_len {ts : List TD} {xs : List Ty} : ∀ (a pre : List Ef), (fewF showV (allF ts (consOf ts)) (kidF (consOf ts)) (arK ts) xs pre a).length ≤ a.length ∧ totR (fewF showV (allF ts (consOf ts)) (kidF (consOf ts)) (arK ts) xs pre a) ≤ totR a
  | [], _ => ⟨Nat.le_refl _, Nat.le_refl _⟩
  | r :: a, pre => by
    have ih := few_len (ts := ts) (xs := xs) a (pre ++ [r])
    have e : ∀ (x : Ef) l, totR (x :: l) = (1 + x.size) + totR l := fun x l => by unfold totR; simp
    unfold fewF
    split
    · rw [List.length_cons, List.length_cons, e, e]; omega
    · rw [List.length_cons, e]; omega
theorem chkR_iff {ts : List TD} {xs : List Ty} : ∀ {rows : List Ef}, chkR ts xs rows = 0 ↔ ∀ r ∈ rows, rowF ts xs r = true ∧ (vrL r []).length = cntL r
  | [] => ⟨fun _ r hr => (by cases hr), fun _ => rfl⟩
  | r :: rs => by
    have ih := chkR_iff (ts := ts) (xs := xs) (rows := rs)
    unfold chkR
    constructor
    · intro h
      split at h
      · cases h
      · rename_i h1
        split at h
        · cases h
        · rename_i h2
          intro x hx
          rcases List.mem_cons.1 hx with rfl | hx
          · exact ⟨by simpa using h1, by simpa using h2⟩
          · exact ih.1 h x hx
    · intro h
      obtain ⟨h1, h2⟩ := h r (List.mem_cons_self ..)
      rw [h1, if_neg (by decide), if_neg (by rw [h2]; simp)]
      exact ih.2 fun x hx => h x (List.mem_cons_of_mem _ hx)
theorem chk_few {ts : List TD} {xs : List Ty} {rows : List Ef} (h : chkE ts xs rows = 0) : chkE ts xs (fewC ts xs rows) = 0 := by
  obtain ⟨h1, h2⟩ := ck_well h
  unfold chkE
  rw [if_neg]
  · exact chkR_iff.2 fun r hr => chkR_iff.1 h2 r (fewF_sub rows [] r hr)
  · intro h3
    obtain ⟨x, hx, h4⟩ := List.any_eq_true.1 h3
    rw [h1 x hx] at h4; cases h4
theorem rowsB_few {ts : List TD} {xs : List Ty} {rows : List Ef} (h : RowsB rows) : RowsB (fewC ts xs rows) := fun r hr => h r (fewF_sub rows [] r hr)
theorem few_end {ts : List TD} {xs : List Ty} {rows : List Ef} (hT : TOk ts) (h : chkE ts xs rows = 0) : uslC ts xs (fewC ts xs rows) = [] ∧ covC ts xs rows = covC ts xs (fewC ts xs rows) := by
  obtain ⟨h1, h2⟩ := ck_well h
  have h3 := ck_rows h2
  exact few_C hT litS_show (fun x hx => well_Wn (h1 x hx)) (fun r hr => good_lit (row_fit (h3 r hr)).2) fun r hr => (row_fit (h3 r hr)).1
end Go.Proofs.YthnafdbebniapaaGreatDoor
namespace Go.Proofs.YthnafdbebniapaaGreatDoor
open Go Go.Wk Go.Un Go.De Go.Cv
set_option linter.unusedSimpArgs false
set_option linter.unusedVariables false
attribute [local irreducible] Go.wpList Go.Code.wp Go.wpStill Go.Wk.wpPre Go.bodyPost Go.Calls Go.Wk.Ct Go.Wk.OwnS
attribute [local irreducible] Go.Wk.wpG Go.Wk.wpM
theorem us_S {n : Sz} {d : Nat} {u : Value} {L : List (Nat × Value)} {w0 : World} {F0 : Heap} {K0 : List Nat} {F : Heap} {G' : List Grp} {a : Act} {w : World} {e : Int} {l : List Nat} (S : St n ((d, u) :: L) w0 F0 K0 F (G' ++ []) a w) (h : UsQ e l G' u) :
    ∃ F' ao cap l2, (∀ b o, F b = some o → F' b = some o) ∧ u = .tuple ⟨[.slice ao (List.length l2) cap, .int .i64 e]⟩ ∧ (e = 0 → l2 = l) ∧ (0 < l2.length → ∃ b o, ao = some ⟨b, o, none⟩ ∧ Cels F' b o (ints l2)) ∧ l2.length ≤ 9223372036854775807 ∧ St n ((d, u) :: L) w0 F0 K0 F' [] a w := by
  rcases h with ⟨h1, h2⟩ | ⟨h1, v, g, h2, rfl, ho⟩
  · exact ⟨F, none, 0, [], fun b o h => h, h2, fun h => absurd h h1, fun h => absurd h (by decide), by decide, dropA S⟩
  · have hle := add_le (G1 := []) (G2 := []) S
    obtain ⟨ao, cap, rfl, hc⟩ := ho.heapCels F
    obtain ⟨a2, c2, e2, h3, h4, -⟩ := ho.at
    refine ⟨F.add g, ao, cap, l, hle, by rw [h1]; exact h2, fun _ => rfl, hc, ?_, St.freeze (G1 := []) (G2 := []) S⟩
    simp only [maxLen] at h4
    omega
end Go.Proofs.YthnafdbebniapaaGreatDoor
