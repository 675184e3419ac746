/- Walks. -/
import Derived.Test.YthnafdbebniapaaGreatDoorKCoverFits01
import Derived.Test.YthnafdbebniapaaGreatDoorQ35
import Derived.Test.YthnafdbebniapaaGreatDoorQ33
import Derived.Test.YthnafdbebniapaaGreatDoorQ32
import Derived.Test.YthnafdbebniapaaGreatDoorQ13
import Derived.Test.YthnafdbebniapaaGreatDoorQ12
import Derived.Test.YthnafdbebniapaaGreatDoorQ11
import Derived.Test.YthnafdbebniapaaGreatDoorQ10
import Derived.Test.YthnafdbebniapaaGreatDoorQ09
import Derived.Test.YthnafdbebniapaaGreatDoorQ08
import Derived.Test.YthnafdbebniapaaGreatDoorQ06
import Derived.Test.YthnafdbebniapaaGreatDoorQ05
import Derived.Test.YthnafdbebniapaaGreatDoorQ04
import Derived.Test.YthnafdbebniapaaGreatDoorQ03
import Derived.Test.YthnafdbebniapaaGreatDoorQ02
import Derived.Test.YthnafdbebniapaaGreatDoorQ01
import Derived.Test.YthnafdbebniapaaGreatDoorKCoverFitsTy
import Derived.Test.YthnafdbebniapaaGreatDoorQ20
import Derived.Test.YthnafdbebniapaaGreatDoorQ17
import Derived.Test.YthnafdbebniapaaGreatDoorQ30
import Derived.Test.YthnafdbebniapaaGreatDoorQ29
import Derived.Test.YthnafdbebniapaaGreatDoorQ28
import Derived.Test.YthnafdbebniapaaGreatDoorQ27
import Derived.Test.YthnafdbebniapaaGreatDoorQ26
import Derived.Test.YthnafdbebniapaaGreatDoorQ19
import Derived.Test.YthnafdbebniapaaGreatDoorQ18
import Derived.Test.YthnafdbebniapaaGreatDoorQShelf
import Derived.Test.YthnafdbebniapaaGreatDoorQ21
import Derived.Test.YthnafdbebniapaaGreatDoorQ16
import Derived.Test.YthnafdbebniapaaGreatDoorQ15
import Derived.Test.YthnafdbebniapaaGreatDoorQ14
import Derived.Test.YthnafdbebniapaaGreatDoorQ25
import Derived.Test.YthnafdbebniapaaGreatDoorQ24
import Derived.Test.YthnafdbebniapaaGreatDoorQ23
import Derived.Test.YthnafdbebniapaaGreatDoorQ22
import Derived.Test.YthnafdbebniapaaGreatDoorKCoverFits05
import Derived.Test.YthnafdbebniapaaGreatDoorQ38
import Derived.Test.YthnafdbebniapaaGreatDoorQ37
import Derived.Test.YthnafdbebniapaaGreatDoorQ36
import Derived.Test.YthnafdbebniapaaGreatDoorQ34
import Derived.Test.YthnafdbebniapaaGreatDoorQ31
import Derived.Test.YthnafdbebniapaaGreatDoorKCoverFits03
import Derived.OpenShut
import Derived.Below
import Derived.Carry
import Derived.SizedLaws
import Derived.Deep.Slices
import Derived.Deep.Strs
import Derived.ChangeSame
import Derived.Test.YthnafdbebniapaaGreatDoorQ39
import Derived.Test.YthnafdbebniapaaGreatDoorRows
import Derived.Test.YthnafdbebniapaaGreatDoorCards
import Derived.Test.YthnafdbebniapaaGreatDoorTie
import Derived.WalkKit
import Derived.ProofKit
import Derived.LaidMore
import Derived.LaidHandle
import Derived.Lay
import Derived.ShutString
import Derived.Stop.Joined
import Derived.ChangeOld
import Derived.Handed
import Derived.Shelf.Vars
import Derived.SevenTiedAt
set_option maxHeartbeats 32000000
set_option maxRecDepth 20000
namespace Go.Proofs.YthnafdbebniapaaGreatDoor
open Go Go.Wk Go.Un Go.De Go.Cv
set_option linter.unusedSimpArgs false
set_option linter.unusedVariables false
set_option linter.unnecessarySimpa false
attribute [local irreducible] Go.wpList Go.Code.wp Go.wpStill Go.Wk.wpPre Go.bodyPost Go.Calls Go.Wk.Ct Go.Wk.OwnS Go.Wk.wpG Go.Wk.wpM
theorem fsz_at {l : List FD} {j : Nat} {f : FD} (hf : l[j]? = some f) : fsz (l.take (j + 1)) = fsz (l.take j) + (1 + f.ta.size) := by
 unfold fsz; rw [List.take_add_one, hf, List.map_append, List.sum_append]; simp
theorem zzLtA0 {p : Prop} (h : p := by (first | exact ⟨false, rfl, fun h => (by cases h)⟩ | exact ⟨true, rfl, fun _ => ⟨by omega, fun x hx => hsm x (by rw [List.take_of_length_le (by omega)]; exact hx)⟩⟩ | trace_state)) : p := h
theorem zzLtA1 {p : Prop} (h : p := by (refine ⟨x.cs.length - (k + 1), by omega, k + 1, rfl, by omega, ?_, ?_⟩; rotate_left 1; (refine S.keep ?_; exact zk); (intro y hy; rw [List.take_add_one, hc] at hy; rcases List.mem_append.1 hy with hy | hy; exact hcm y hy; (have e9 : y = c := (by simpa using hy); subst e9; have e8 := hn (by omega); have hj9 : y.fs.length ≤ j := (by omega); rw [List.take_of_length_le hj9] at e8; omega)))) : p := h
theorem smallCt (F : Heap) (ts : List TD) (v : Value) (hL : LiM F 6 TdR v ts) : Ct Tryz.prog 17 [v] F [] (fun _ _ u => ∃ b, u = .bool b ∧ (b = true → SmT ts)) := by
 obtain ⟨ao, cap, rfl, hcap, -⟩ := id hL
 refine Ct.enter Tryz.func17 rfl Tryz.ntmps17 rfl fun w0 a S => ?_
 (revert S a; refine go 11 ?_; intro Z hZ a S)
 refine wpc_sp S rfl ?_ ?_ <;> intro h
 ·(revert S a; refine go 4 ?_; intro a S)
  refine wp_ret (fr1 S Tryz.results17 ?_)
  exact zzLtA0
 (revert S a; revert hZ Z; refine go 8 ?_; intro Z hZ a S)
 refine wpc_loop (fun m a w' => ∃ (i : Nat), m = ts.length - i ∧ i ≤ ts.length ∧ (∀ x ∈ ts.take i, x.cs.length ≤ 5 ∧ x.ps.length ≤ 3 ∧ ∀ c ∈ x.cs, fsz c.fs < 7) ∧ St 79 [(0, .slice ao ts.length cap), (3, .int .i64 i)] w0 F [] F [] a w') ?_ ?_
 ·(refine ⟨ts.length, 0, by omega, Nat.zero_le _, fun x hx => by simp at hx, ?_⟩; refine S.keep ?_; exact zk)
 (clear S; rintro m a w ⟨i, rfl, hil, hsm, S⟩)
 (revert S a; refine go 8 ?_; intro Z hZ a S)
 refine wpc_sp S rfl ?_ ?_ <;> intro h
 ·(revert S a; revert hZ Z; refine go 5 ?_; intro Z hZ Z hZ a S)
  (refine wp_seq_k ?_; intro Z hZ)
  (obtain ⟨x, hx⟩ := at_ex (l := ts) (k := i) (by omega); obtain ⟨b8, o8, ap8, cp8, ac8, cc8, hao, hcx, -, hcs⟩ := td_at hL hx; have hcx5 : Cel F b8 (o8 + i * 6 + 5) _ := hcx 5 _ rfl; have hcx4 : Cel F b8 (o8 + i * 6 + 4) _ := hcx 4 _ rfl; obtain ⟨_, _, _, hcb, -⟩ := id hcs; rw [hao] at S)
  (revert S a; refine go 5 ?_; intro a S)
  (refine wv S (sv_loadF S rfl rfl hcx5) ?_; clear S a; intro a S)
  (revert S a; refine go 3 ?_; intro a S)
  refine wgd S ?_ ?_
  ·(clear S; intro h S)
   (revert S a; refine go 8 ?_; intro a S)
   (refine wv S (sv_loadF S rfl rfl hcx4) ?_; clear S a; intro a S)
   (revert S a; revert hZ Z; refine go 7 ?_; intro a S)
   refine wpc_sp S rfl ?_ ?_ <;> intro h
   ·(revert S a; refine go 4 ?_; intro a S)
    refine wp_ret (fr1 S Tryz.results17 ?_)
    exact zzLtA0
   (revert S a; revert hZ Z; refine go 7 ?_; intro a S)
   refine wpc_loop (fun m a w' => ∃ (k : Nat), m = x.cs.length - k ∧ k ≤ x.cs.length ∧ (∀ c ∈ x.cs.take k, fsz c.fs < 7) ∧ St 79 [(0, .slice (some ⟨b8, o8, none⟩) ts.length cap), (3, .int .i64 i), (4, .int .i64 k)] w0 F [] F [] a w') ?_ ?_
   ·(refine ⟨x.cs.length, 0, by omega, Nat.zero_le _, fun x hx => by simp at hx, ?_⟩; refine S.keep ?_; exact zk)
   (clear S; rintro m a w ⟨k, rfl, hkl, hcm, S⟩)
   (revert S a; refine go 7 ?_; intro Z hZ Z hZ a S)
   (refine wv S (sv_loadF S rfl rfl hcx5) ?_; clear S a; intro a S)
   (revert S a; revert hZ Z; refine go 4 ?_; intro a S)
   refine wpc_sp S rfl ?_ ?_ <;> intro h
   ·(revert S a; revert hZ Z; refine go 4 ?_; intro Z hZ a S)
    (refine wp_seq_k ?_; intro Z hZ)
    (obtain ⟨c, hc⟩ := at_ex (l := x.cs) (k := k) (by omega); obtain ⟨b9, o9, af9, cf9, hac, hcc, hfs⟩ := cd_at hcs hc; rw [hac] at hcx5; have hcc1 : Cel F b9 (o9 + k * 2 + 1) _ := hcc 1 _ rfl; obtain ⟨_, _, _, hfb, -⟩ := id hfs)
    (revert S a; revert hZ Z; refine go 10 ?_; intro Z hZ a S)
    refine wpc_loop (fun m a w' => ∃ (j p : Nat), m = c.fs.length - j ∧ j ≤ c.fs.length ∧ p ≤ 20 ∧ (p < 7 → fsz (c.fs.take j) ≤ p) ∧ St 79 [(0, .slice (some ⟨b8, o8, none⟩) ts.length cap), (3, .int .i64 i), (4, .int .i64 k), (5, .int .i64 p), (6, .int .i64 j)] w0 F [] F [] a w') ?_ ?_
    ·(refine ⟨c.fs.length, 0, 0, by omega, Nat.zero_le _, Nat.zero_le _, fun _ => Nat.le_refl _, ?_⟩; refine S.keep ?_; exact zk)
    (clear S; rintro m a w ⟨j, p, rfl, hjl, hp20, hn, S⟩)
    (revert S a; refine go 7 ?_; intro Z hZ Z hZ a S)
    (refine wv S (sv_loadF S rfl rfl hcx5) ?_; clear S a; intro a S)
    (revert S a; refine go 3 ?_; intro a S)
    (refine wv S (sv_loadF S rfl rfl hcc1) ?_; clear S a; intro a S)
    (revert S a; refine go 3 ?_; intro a S)
    refine wgd S ?_ ?_
    ·(clear S; intro h S)
     (revert S a; revert hZ Z; refine go 6 ?_; intro a S)
     refine wpc_sp S rfl ?_ ?_ <;> intro h
     ·(revert S a; revert hZ Z; refine go 4 ?_; intro Z hZ a S)
      (obtain ⟨f, hf⟩ := at_ex (l := c.fs) (k := j) (by omega); obtain ⟨b7, o7, aa7, ca7, haf, hcf, hfa⟩ := fd_at hfs hf; rw [haf] at hcc1; have hcf1 := fd_ty hcf)
      (revert S a; refine go 6 ?_; intro a S)
      (refine wv S (sv_loadF S rfl rfl hcx5) ?_; clear S a; intro a S)
      (revert S a; refine go 3 ?_; intro a S)
      (refine wv S (sv_loadF S rfl rfl hcc1) ?_; clear S a; intro a S)
      (revert S a; refine go 3 ?_; intro a S)
      (refine wv S (sv_loadAF S rfl rfl hcf1 rfl) ?_; clear S a; intro a S)
      (refine wpl_buildSlice S rfl rfl rfl rfl rfl rfl (by rfl) (by simp [Value.cells, splice, splice]) rfl (by rfl) (by rfl) ?_; clear S a; intro b74 a w hown S)
      (have S' := frz1 S; clear S; obtain ⟨F6, hle6, hb74, S⟩ := S'; refine wc0 S (typesCt F6 _ (.cons f.tn f.ta .nil) _ 7 (Nat.le_refl _) (by decide) (slf_one1 hb74 (hfa.mono hle6))) ?_; clear S a; intro v75 a w hv S; obtain ⟨p9, rfl, hp9⟩ := hv; unfold Cnt at hp9; replace S := St.shrink S hle6 (fun _ _ h => h))
      (revert S a; revert hZ Z; refine go 9 ?_; intro a S)
      change ∃ m', _ ∧ _
      (rw [← haf] at S; refine ⟨c.fs.length - (j + 1), by omega, j + 1, p + p9, rfl, by omega, by omega, ?_, ?_⟩; rotate_left 1; (refine S.keep ?_; exact zk); (intro h9; rw [fsz_at hf]; have e8 := hn (by omega); have e7 : (Fo.cons f.tn f.ta .nil).size = f.ta.size + 0 + 1 := rfl; omega))
     (refine wp_exit ?_; conv => whnf)
     clear hZ Z
     (revert S a; revert hZ Z; refine go 6 ?_; intro a S)
     refine wpc_sp S rfl ?_ ?_ <;> intro h
     ·(revert S a; refine go 4 ?_; intro a S)
      refine wp_ret (fr1 S Tryz.results17 ?_)
      exact zzLtA0
     (revert S a; revert hZ Z; refine go 7 ?_; intro a S)
     change ∃ m', _ ∧ _
     exact zzLtA1
    (clear S a; intro h a S)
    (revert S a; revert hZ Z; refine go 4 ?_; intro a S)
    refine wpc_false S rfl ?_
    (refine wp_exit ?_; conv => whnf)
    clear hZ Z
    (revert S a; revert hZ Z; refine go 6 ?_; intro a S)
    refine wpc_sp S rfl ?_ ?_ <;> intro h
    ·(revert S a; refine go 4 ?_; intro a S)
     refine wp_ret (fr1 S Tryz.results17 ?_)
     exact zzLtA0
    (revert S a; revert hZ Z; refine go 7 ?_; intro a S)
    change ∃ m', _ ∧ _
    exact zzLtA1
   (refine wp_exit ?_; conv => whnf)
   clear hZ Z
   (revert S a; revert hZ Z; refine go 6 ?_; intro a S)
   change ∃ m', _ ∧ _
   (rw [← hao] at S; refine ⟨ts.length - (i + 1), by omega, i + 1, rfl, by omega, ?_, ?_⟩; rotate_left 1; (refine S.keep ?_; exact zk); (intro y hy; rw [List.take_add_one, hx] at hy; rcases List.mem_append.1 hy with hy | hy; exact hsm y hy; (have e9 : y = x := (by simpa using hy); subst e9; refine ⟨by omega, by omega, fun c hc => hcm c ?_⟩; rw [List.take_of_length_le (by omega)]; exact hc)))
  (clear S a; intro h a S)
  (revert S a; revert hZ Z; refine go 9 ?_; intro a S)
  refine wpc_true S rfl ?_
  (revert S a; refine go 4 ?_; intro a S)
  refine wp_ret (fr1 S Tryz.results17 ?_)
  exact zzLtA0
 (refine wp_exit ?_; conv => whnf)
 clear hZ Z
 (revert S a; revert hZ Z; refine go 5 ?_; intro a S)
 refine wp_ret (fr1 S Tryz.results17 ?_)
 exact zzLtA0
theorem thin_sz : ∀ l : Fo, l.size ≤ 1000000 → Thin l
 | .nil, _ => trivial
 | .cons nm ar r, h => by
  have h1 : ar.size + r.size + 1 ≤ 1000000 := h
  have h2 := Fo.len_size ar
  exact ⟨by omega, thin_sz ar (by omega), thin_sz r (by omega)⟩
theorem fitsLCt (F : Heap) (hM : MaxF F) (hT : TabF F) (hE : ErrT F) (ts : List TD) (eh : EH) (xl : Ef) (cs : List Value) (nm : List UInt8) (ar : Fo) (cs2 : List Value) {v : Value} (hL : LiM F 6 TdR v ts) (hX : PxC F cs eh xl) (hb : BndH eh) (hbl : BndL xl) (hty : TyC F cs2 nm ar) :
  Ct Tryz.prog 4 [v, .agg ⟨cs⟩, .agg ⟨cs2⟩] F [] (fun _ _ u => u = .bool true) := by
 obtain ⟨a0, c0, rfl, -, -⟩ := id hL
 obtain ⟨aw, nw, cw, ao, cap, rfl, hT2, hT3⟩ := id hX
 obtain ⟨va, rfl, hva⟩ := id hty
 obtain ⟨aa, ca, rfl, -, -⟩ := id hva
 refine Ct.enter Tryz.func4 rfl Tryz.ntmps4 rfl fun w0 a S => ?_
 refine wp_sr fun Z hZ => ?_
 (refine wbx S ?_; clear S a; intro b4 a w S)
 (refine wbx S ?_; clear S a; intro b5 a w S)
 (revert S a; revert hZ Z; refine go 6 ?_; intro Z hZ Z hZ a S)
 (refine wc0 S (smallCt F ts _ hL) ?_; clear S a; intro v11 a w hv S; obtain ⟨bsm, rfl, hsm⟩ := hv)
 (revert S a; refine go 2 ?_; intro a S)
 refine wgd S ?_ ?_
 ·(clear S; intro h S)
  (revert S a; refine go 2 ?_; intro a S)
  (refine wpl_buildSlice S rfl rfl rfl rfl rfl rfl (by rfl) (by simp [Value.cells, splice]) rfl (by rfl) (by rfl) ?_; clear S a; intro b15 a w hown15 S; have S' := frz1 S; clear S; obtain ⟨F15, hF15, hb15, S⟩ := S')
  refine wpl_take S rfl rfl rfl ?_
  (refine wc0 S (exprsNCt F15 (xl.size + 1) (.cons eh xl .nil) _ 300 (by simp only [Rose.size]; omega) (by decide) (tr_px1 hb15 (hX.mono hF15) rfl)) ?_; clear S a; intro v16 a w hv S; obtain ⟨pe, rfl, hpe⟩ := hv; (simp only [Rose.size, Nat.zero_add, Nat.add_zero] at hpe); unfold Cnt at hpe)
  (revert S a; refine go 4 ?_; intro a S)
  refine wgd S ?_ ?_
  ·(clear S; intro h S)
   (revert S a; refine go 2 ?_; intro a S)
   (refine wpl_buildSlice S rfl rfl rfl rfl rfl rfl (by rfl) (by simp [Value.cells, splice]) rfl (by rfl) (by rfl) ?_; clear S a; intro b21 a w hown21 S; have S' := frz1 S; clear S; obtain ⟨F21, hF21a, hb21, S⟩ := S'; have hF21 : ∀ b o, F b = some o → F21 b = some o := (fun b o h => hF21a _ _ (hF15 _ _ h)))
   refine wpl_take S rfl rfl rfl ?_
   (refine wc0 S (typesCt F21 (ar.size + 1) (.cons nm ar .nil) _ 300 (by simp only [Fo.size]; omega) (by decide) (slf_one1 hb21 (hva.mono hF21))) ?_; clear S a; intro v22 a w hv S; obtain ⟨pt, rfl, hpt⟩ := hv; (simp only [Fo.size, Nat.zero_add, Nat.add_zero] at hpt); unfold Cnt at hpt)
   (revert S a; revert hZ Z; refine go 5 ?_; intro a S)
   refine wpc_sp S rfl ?_ ?_ <;> intro h
   ·refine wp_sr fun Z hZ => ?_
    (refine wc0 S (awakeCt _ (by first | exact hM | exact hM.mono hF15 | exact hM.mono hF21) (by first | exact hT | exact hT.mono hF15 | exact hT.mono hF21) (by first | exact hE | exact hE.mono hF15 | exact hE.mono hF21)) ?_; clear S a; intro v25 a w hv S; subst hv)
    (revert S a; revert hZ Z; refine go 3 ?_; intro a S)
    refine wp_ret (fr1 S Tryz.results4 ?_)
    rfl
   (revert S a; revert hZ Z; refine go 4 ?_; intro Z hZ a S)
   (refine wcF S (tableCt F21 (hE.mono hF21) ts _ (hL.mono hF21) (hsm (by assumption))) ?_; clear S a; intro v28 F1 a w hv hF1a S; obtain ⟨p1, p2, rfl, hok⟩ := hv; have hF1 : ∀ b o, F b = some o → F1 b = some o := (fun b o h => hF1a _ _ (hF21 _ _ h)))
   (revert S a; revert hZ Z; refine go 15 ?_; intro Z hZ a S)
   refine wpc_sp S rfl ?_ ?_ <;> intro h
   ·refine wp_sr fun Z hZ => ?_
    (refine wc0 S (awakeCt F1 (hM.mono hF1) (hT.mono hF1) (hE.mono hF1)) ?_; clear S a; intro v34 a w hv S; subst hv)
    (revert S a; revert hZ Z; refine go 3 ?_; intro a S)
    refine wp_ret (fr1 S Tryz.results4 ?_)
    rfl
   (revert S a; revert hZ Z; refine go 2 ?_; intro a S)
   (refine wp_seq_k ?_; intro Z hZ)
   (obtain ⟨tb, tp, rfl, rfl, hC, hR, -⟩ := hok (by assumption); have hkc := (hsm (by assumption)).kc; have hszx : xl.size < 300 := (by omega); have hszt : ar.size < 300 := (by omega); have hth : ThinT (nm, ar) := ⟨by have := Fo.len_size ar; show ar.len * 40 ≤ _; omega, thin_sz ar (by omega)⟩; have hdp : depthL (nm, ar).2 + 2000 * xl.size ≤ 100000000 := (by have := depthL_le ar; show depthL ar + _ ≤ _; omega); have hf1 := FitsCt F1 (hM.mono hF1) tb ts hC eh xl _ (nm, ar) _ (hX.mono hF1) hb hbl (hty.mono hF1) hth hdp; have hf2 := fits12MCt F1 tp ts hkc.1 hkc.2.2 hR eh xl _ (nm, ar) _ (hX.mono hF1) hb hbl (hty.mono hF1) hth hdp; have hf0 := Fits0Ct F1 eh xl _ (nm, ar) _ (hX.mono hF1) (hty.mono hF1))
   (refine wpc_mixM [0, 1, 2, 4, 5, 6, 8, 9, 10, 11, 13, 14, 15, 17] [1, 2, 5, 6, 10, 11] [] (.one 0 (.one 1 (.one 2 (.one 4 (.one 5 (.one 6 (.one 3 (.one 7 (.one 8 (.one 9 (.one 10 (.one 11 (.one 12 (.one 13 (.one 14 (.one 15 (.one 16 (.one 17 (.one 18 .nil))))))))))))))))))) [b4, b5] S mixed (by kernel_rfl) ?_; clear S; intro w S)
   (revert S a; refine go 7 ?_; intro a S)
   (refine wc0 S hf1 ?_; clear S a; intro v38 a w hv S; subst hv)
   (revert S a; refine go 2 ?_; intro a S)
   (refine wc0 S hf2 ?_; clear S a; intro v42 a w hv S; subst hv)
   refine wpList_nil ?_
   (refine wpm_v S rfl rfl rfl (want_none _ rfl) rfl rfl (fun w' S => sv_lit (c := true) (sv_eqB S rfl rfl rfl) (by exact beq_self_eq_true _)) ?_; clear S a; intro a S)
   (revert S a; refine go 5 ?_; intro a S)
   (refine wc0 S hf0 ?_; clear S a; intro v47 a w hv S; subst hv)
   refine wpList_nil ?_
   (refine wpm_v S rfl rfl rfl (want_yes S rfl rfl rfl) rfl rfl (fun w' S => sv_lit (c := true) (sv_pure S rfl) (by rfl)) ?_; clear S a; intro a S)
   (revert S a; refine go 4 ?_; intro a S)
   (refine wc0 S (awakeCt F1 (hM.mono hF1) (hT.mono hF1) (hE.mono hF1)) ?_; clear S a; intro v51 a w hv S; subst hv)
   (revert S a; revert hZ Z; refine go 7 ?_; intro a S)
   refine wp_ret (fr1 S Tryz.results4 ?_)
   rfl
  (clear S a; intro h a S)
  (revert S a; revert hZ Z; refine go 6 ?_; intro a S)
  refine wpc_true S rfl ?_
  refine wp_sr fun Z hZ => ?_
  (refine wc0 S (awakeCt _ (by first | exact hM | exact hM.mono hF15 | exact hM.mono hF21) (by first | exact hT | exact hT.mono hF15 | exact hT.mono hF21) (by first | exact hE | exact hE.mono hF15 | exact hE.mono hF21)) ?_; clear S a; intro v25 a w hv S; subst hv)
  (revert S a; revert hZ Z; refine go 3 ?_; intro a S)
  refine wp_ret (fr1 S Tryz.results4 ?_)
  rfl
 (clear S a; intro h a S)
 (revert S a; revert hZ Z; refine go 12 ?_; intro a S)
 refine wpc_true S rfl ?_
 refine wp_sr fun Z hZ => ?_
 (refine wc0 S (awakeCt _ (by first | exact hM | exact hM.mono hF15 | exact hM.mono hF21) (by first | exact hT | exact hT.mono hF15 | exact hT.mono hF21) (by first | exact hE | exact hE.mono hF15 | exact hE.mono hF21)) ?_; clear S a; intro v25 a w hv S; subst hv)
 (revert S a; revert hZ Z; refine go 3 ?_; intro a S)
 refine wp_ret (fr1 S Tryz.results4 ?_)
 rfl
end Go.Proofs.YthnafdbebniapaaGreatDoor
namespace Go.Wk
open Go Go.ChangeShapes Go.WideShapes
set_option linter.unusedSimpArgs false
set_option linter.unusedVariables false
theorem at_heapOf (w : World) : At w (heapOf w) [] := ⟨fun _ _ h => h, fun p h => by simp at h, by simp [keys]⟩
theorem below_of {W W' : World} {F' : Heap} {G' : List Grp} (h : Tr W (heapOf W) [] W' F' G') : Go.RowKit.Below W.heap.size W W' :=
 ⟨h.os, h.tape, h.output, h.size, fun k hk => h.old k hk (by simp)⟩
end Go.Wk
namespace Go.De
open Go Go.Wk Go.Un Go.ChangeShapes Go.WideShapes
set_option linter.unusedSimpArgs false
set_option linter.unusedVariables false
section
variable {H : Type} {enc : TypeId × Value → H} {P : Program} {w : World} {spare : Nat → Bool} {held : Bool} {m : Nat} {t : TypeId}
theorem opn_bool (ht : P.underlying t = some .bool) : Opn enc P w spare held m t (fun cs => ∃ b, cs = [.bool b]) := fun f cs d p _ h _ => by
 obtain ⟨b, h1, _⟩ := DataW.trod_bool ht h
 exact ⟨b, h1⟩
end
end Go.De
namespace Go.Proofs.YthnafdbebniapaaGreatDoor
open Go Go.Wk Go.Un Go.De Go.Cv Go.ChangeShapes Go.WideShapes Go.ChangeAt Go.RowKit
set_option linter.unusedSimpArgs false
set_option linter.unusedVariables false
open Go.ChangeMaps (open_string shut_string)
section
variable {H : Type} {enc : TypeId × Value → H} {w : World} {spare : Nat → Bool} {held : Bool}
theorem o_bool (m : Nat) : Opn enc Tryz.prog w spare held m 4 (fun cs => ∃ b, cs = [.bool b]) := opn_bool Tryz.underlying4
theorem o_strs (m : Nat) : Opn enc Tryz.prog w spare held m 66 (fun cs => ∃ v l, cs = [v] ∧ LiM (heapOf w) 1 StR v l) :=
 opn_slice Tryz.underlying66 (by kernel_rfl) (by decide) (by kernel_rfl) ((o_str m).imp fun cs ⟨s, h, _⟩ => by subst h; exact ⟨rfl, s, rfl⟩)
theorem o_fd (m : Nat) : Opn enc Tryz.prog w spare held m 94 (fun cs => cs.length = 3 ∧ ∃ x, FdR (heapOf w) x cs) :=
  ((opn_struct (m := m) Tryz.underlying94 (by kernel_rfl) (.cons (o_str m) (.cons (o_ty m) .nil))).lt (Nat.le_succ m)).imp fun cs ⟨a, b, e, ⟨s, h1, _⟩, a2, b2, e2, ⟨_, ⟨nm, ar⟩, v, h2, h3⟩, e3⟩ => by
    subst e; subst h1; subst e2; subst h2; subst e3
    exact ⟨rfl, ⟨s, nm, ar⟩, v, rfl, h3⟩
theorem o_fds (m : Nat) : Opn enc Tryz.prog w spare held m 90 (fun cs => ∃ v l, cs = [v] ∧ LiM (heapOf w) 3 FdR v l) := opn_slice Tryz.underlying90 (by kernel_rfl) (by decide) (by kernel_rfl) (o_fd m)
theorem o_cd (m : Nat) : Opn enc Tryz.prog w spare held m 92 (fun cs => cs.length = 2 ∧ ∃ x, CdR (heapOf w) x cs) :=
  ((opn_struct (m := m) Tryz.underlying92 (by kernel_rfl) (.cons (o_str m) (.cons (o_fds m) .nil))).lt (Nat.le_succ m)).imp fun cs ⟨a, b, e, ⟨s, h1, _⟩, a2, b2, e2, ⟨v, l, h2, h3⟩, e3⟩ => by
    subst e; subst h1; subst e2; subst h2; subst e3
    exact ⟨rfl, ⟨s, l⟩, v, rfl, h3⟩
theorem o_cds (m : Nat) : Opn enc Tryz.prog w spare held m 67 (fun cs => ∃ v l, cs = [v] ∧ LiM (heapOf w) 2 CdR v l) := opn_slice Tryz.underlying67 (by kernel_rfl) (by decide) (by kernel_rfl) (o_cd m)
theorem o_td (m : Nat) : Opn enc Tryz.prog w spare held m 69 (fun cs => cs.length = 6 ∧ ∃ x, TdR (heapOf w) x cs) :=
  ((opn_struct (m := m) Tryz.underlying69 (by kernel_rfl) (.cons (o_pos m) (.cons (o_bool m) (.cons (o_str m) (.cons (o_strs m) (.cons (o_cds m) .nil)))))).lt (Nat.le_succ m)).imp fun cs ⟨a, b, e, ⟨l, c, h1⟩, a2, b2, e2, ⟨pb, h2⟩, a3, b3, e3, ⟨s, h3, _⟩, a4, b4, e4, ⟨v, ps, h4, h4'⟩, a5, b5, e5, ⟨u, cl, h5, h5'⟩, e6⟩ => by
    subst e; subst h1; subst e2; subst h2; subst e3; subst h3; subst e4; subst h4; subst e5; subst h5; subst e6
    exact ⟨rfl, ⟨l, c, pb, s, ps, cl⟩, v, u, rfl, h4', h5'⟩
theorem o_tds (m : Nat) : Opn enc Tryz.prog w spare held m 46 (fun cs => ∃ v l, cs = [v] ∧ LiM (heapOf w) 6 TdR v l) := opn_slice Tryz.underlying46 (by kernel_rfl) (by decide) (by kernel_rfl) (o_td m)
end
theorem ror_px {F : Heap} {x : EH × Ef} {cs : List Value} (h : RoR 9 EhR F x cs) : PxC F cs x.1 x.2 := by
 obtain ⟨c1, u, rfl, -, h1, h2⟩ := h
 exact pxc_of h1 h2
theorem fitsFr (F : Heap) (hM : MaxF F) (hT : TabF F) (hE : ErrT F) (ts : List TD) (eh : EH) (xl : Ef) (cs : List Value) (nm : List UInt8) (ar : Fo) (cs2 : List Value) {v : Value} (hL : LiM F 6 TdR v ts) (hX : RoR 9 EhR F (eh, xl) cs) (hq : Qe (eh, xl)) (hty : TyR F (nm, ar) cs2) :
  Ct Tryz.prog 4 [v, .agg ⟨cs⟩, .agg ⟨cs2⟩] F [] (fun _ _ u => u = .bool true) :=
 fitsLCt F hM hT hE ts eh xl cs nm ar cs2 hL (ror_px hX) hq.1 hq.2.1 hty
end Go.Proofs.YthnafdbebniapaaGreatDoor
