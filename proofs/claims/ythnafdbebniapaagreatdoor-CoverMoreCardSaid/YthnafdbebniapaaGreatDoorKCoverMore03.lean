/- Walks. -/
import Derived.Test.YthnafdbebniapaaGreatDoorQ39
import Derived.Test.YthnafdbebniapaaGreatDoorKCoverMore02
import Derived.Test.YthnafdbebniapaaGreatDoorQ34
import Derived.Test.YthnafdbebniapaaGreatDoorQ33
import Derived.Test.YthnafdbebniapaaGreatDoorQ26
import Derived.Test.YthnafdbebniapaaGreatDoorQ18
import Derived.Test.YthnafdbebniapaaGreatDoorQ08
import Derived.Test.YthnafdbebniapaaGreatDoorKCoverMoreTy
import Derived.Test.YthnafdbebniapaaGreatDoorQ12
import Derived.Test.YthnafdbebniapaaGreatDoorQ09
import Derived.Test.YthnafdbebniapaaGreatDoorKCoverMore01
import Derived.Test.YthnafdbebniapaaGreatDoorQ05
import Derived.Test.YthnafdbebniapaaGreatDoorQ04
import Derived.Test.YthnafdbebniapaaGreatDoorQ03
import Derived.Test.YthnafdbebniapaaGreatDoorQ02
import Derived.Test.YthnafdbebniapaaGreatDoorQ01
import Derived.Test.YthnafdbebniapaaGreatDoorQ32
import Derived.Test.YthnafdbebniapaaGreatDoorQ17
import Derived.Test.YthnafdbebniapaaGreatDoorQ11
import Derived.Test.YthnafdbebniapaaGreatDoorQ10
import Derived.Test.YthnafdbebniapaaGreatDoorQ21
import Derived.Test.YthnafdbebniapaaGreatDoorQ20
import Derived.Test.YthnafdbebniapaaGreatDoorQ19
import Derived.Test.YthnafdbebniapaaGreatDoorQShelf
import Derived.Test.YthnafdbebniapaaGreatDoorQ31
import Derived.Test.YthnafdbebniapaaGreatDoorQ25
import Derived.Test.YthnafdbebniapaaGreatDoorQ14
import Derived.Test.YthnafdbebniapaaGreatDoorQ38
set_option maxHeartbeats 32000000
set_option maxRecDepth 20000
namespace Go.Proofs.YthnafdbebniapaaGreatDoor
open Go Go.Wk Go.Un Go.De Go.Cv
set_option linter.unusedSimpArgs false
set_option linter.unusedVariables false
attribute [local irreducible] Go.wpList Go.Code.wp Go.wpStill Go.Wk.wpPre Go.bodyPost Go.Calls Go.Wk.Ct Go.Wk.OwnS
theorem chkR_app {ts : List TD} {xs : List Ty} {q : Ef} : ∀ {a : List Ef}, chkR ts xs (a ++ [q]) = if chkR ts xs a = 0 then chkR ts xs [q] else chkR ts xs a
  | [] => by
    show chkR ts xs [q] = if (0 : Int) = 0 then chkR ts xs [q] else 0
    rw [if_pos rfl]
  | r :: a => by
    have ih := chkR_app (ts := ts) (xs := xs) (q := q) (a := a)
    show (if rowF ts xs r = false then (70 : Int) else if (vrL r []).length ≠ cntL r then 74 else chkR ts xs (a ++ [q])) = if (if rowF ts xs r = false then (70 : Int) else if (vrL r []).length ≠ cntL r then 74 else chkR ts xs a) = 0 then _ else (if rowF ts xs r = false then (70 : Int) else if (vrL r []).length ≠ cntL r then 74 else chkR ts xs a)
    by_cases h1 : rowF ts xs r = false
    · rw [if_pos h1, if_pos h1, if_neg (by decide)]
    · rw [if_neg h1, if_neg h1]
      by_cases h2 : (vrL r []).length ≠ cntL r
      · rw [if_pos h2, if_pos h2, if_neg (by decide)]
      · rw [if_neg h2, if_neg h2, ih]
theorem rowF_any {ts : List TD} : ∀ {xs : List Ty}, (∀ x ∈ xs, wellT ts x = true) → rowF ts xs (anys xs.length .nil) = true
  | [], _ => rfl
  | x :: xs, h => by
    have ih := rowF_any (ts := ts) (xs := xs) fun y hy => h y (List.mem_cons_of_mem _ hy)
    show (FitsF ts anyE .nil x && rowF ts xs (anys xs.length .nil)) = true
    rw [ih, Bool.and_true]
    unfold FitsF
    rw [h x (List.mem_cons_self ..), show patZ anyE .nil = true by rfl]
    rfl
theorem vr_any : ∀ n, vrL (anys n .nil) [] = []
  | 0 => rfl
  | n + 1 => by have := vr_any n; exact this
theorem cnt_any : ∀ n, cntL (anys n .nil) = 0
  | 0 => rfl
  | n + 1 => by
    have := cnt_any n
    show cntL (.cons anyE .nil (anys n .nil)) = 0
    unfold cntL
    rw [this]; rfl
theorem chk_more {ts : List TD} {xs : List Ty} {rows : List Ef} : chkE ts xs (rows ++ [anys xs.length .nil]) = chkE ts xs rows := by
  unfold chkE
  split
  · rfl
  · rename_i h
    have hw : ∀ x ∈ xs, wellT ts x = true := fun x hx => by
      cases hw : wellT ts x with
      | true => rfl
      | false => exact absurd (List.any_eq_true.2 ⟨x, hx, by rw [hw]; rfl⟩) h
    rw [chkR_app]
    have h0 : chkR ts xs [anys xs.length .nil] = 0 := by
      show (if rowF ts xs _ = false then (70 : Int) else if (vrL _ []).length ≠ cntL _ then 74 else 0) = 0
      rw [rowF_any hw, if_neg (by decide), vr_any, cnt_any, if_neg (by decide)]
    rw [h0]
    split
    · rename_i h1; exact h1.symm
    · rfl
theorem rowsB_more {rows : List Ef} {n : Nat} (h : RowsB rows) : RowsB (rows ++ [anys n .nil]) := fun r hr => by
  rcases List.mem_append.1 hr with hr | hr
  · exact h r hr
  · rw [List.mem_singleton] at hr
    subst hr
    refine ⟨(rwOK_anys (r := .nil) ⟨trivial, trivial⟩ _).1, ?_⟩
    clear hr h
    induction n with
    | zero => trivial
    | succ n ih => exact ⟨⟨by decide, by decide⟩, trivial, ih⟩
theorem totR_more {rows : List Ef} {n : Nat} : totR (rows ++ [anys n .nil]) = totR rows + (1 + (anys n .nil).size) := by
  unfold totR; rw [List.map_append, List.sum_append]; simp
theorem usl_mem {ts : List TD} {xs : List Ty} : ∀ (rs pre : List Ef) (i m : Nat), m ∈ uslF showV (allF ts (consOf ts)) (kidF (consOf ts)) (arK ts) xs i pre rs → i ≤ m ∧ m < i + rs.length
  | [], _, _, m, h => by cases h
  | r :: rs, pre, i, m, h => by
    have ih := usl_mem (ts := ts) (xs := xs) rs (pre ++ [r]) (i + 1) m
    unfold uslF at h
    rw [List.length_cons]
    split at h
    · have := ih h; omega
    · rcases List.mem_cons.1 h with rfl | h
      · omega
      · have := ih h; omega
theorem more_C {ts : List TD} {xs : List Ty} {rows : List Ef} {l : List Nat} (hl : l = uslC ts xs (rows ++ [anys xs.length .nil])) :
    (l.length = 0 → covC ts xs rows = false) ∧ (0 < l.length → ∃ m : Nat, l[l.length - 1]? = some m ∧ decide ((m : Int) = (rows.length : Int)) = covC ts xs rows) := by
  have e : l = uslC ts xs rows ++ (if usuC ts xs rows (anys xs.length .nil) = true then [] else [rows.length]) := by
    rw [hl]
    unfold uslC
    rw [more_law, List.nil_append, Nat.zero_add]
  have hm : ∀ m ∈ uslC ts xs rows, m < rows.length := fun m hm => by have := usl_mem _ _ _ _ hm; omega
  unfold covC covU
  by_cases hu : usuC ts xs rows (anys xs.length .nil) = true
  · rw [if_pos hu, List.append_nil] at e
    rw [← e] at hm
    have hu2 : usU showV (allF ts (consOf ts)) (kidF (consOf ts)) (arK ts) xs rows (anys xs.length .nil) = true := hu
    rw [hu2]
    refine ⟨fun _ => rfl, fun hp => ?_⟩
    have h1 : l.length - 1 < l.length := by omega
    refine ⟨l[l.length - 1], List.getElem?_eq_getElem h1, ?_⟩
    have h2 := hm _ (List.getElem_mem h1)
    rw [decide_eq_false (by omega)]; rfl
  · rw [if_neg hu] at e
    have hu2 : usU showV (allF ts (consOf ts)) (kidF (consOf ts)) (arK ts) xs rows (anys xs.length .nil) = false := by
      have h3 : ¬ usU showV (allF ts (consOf ts)) (kidF (consOf ts)) (arK ts) xs rows (anys xs.length .nil) = true := hu
      simpa using h3
    rw [hu2]
    have h1 : l.length = (uslC ts xs rows).length + 1 := by rw [e, List.length_append]; rfl
    refine ⟨fun h => by omega, fun _ => ⟨rows.length, ?_, by rw [decide_eq_true rfl]; rfl⟩⟩
    rw [h1, e, Nat.add_sub_cancel, List.getElem?_append_right (Nat.le_refl _), Nat.sub_self]
    rfl
theorem uru_more {ts : List TD} {xs : Fo} {rows : List Ef} (hS : SmT ts) (hT : TOk ts) (hx : xs.size < 30) (hr : totR rows ≤ 200) (hB : RowsB rows) (h : chkE ts (tysOf xs) (rows ++ [anys (tysOf xs).length .nil]) = 0) : ∀ k r, (rows ++ [anys (tysOf xs).length .nil])[k]? = some r → URu ts (tysOf xs) ((rows ++ [anys (tysOf xs).length .nil]).take k) r := by
  rw [chk_more] at h
  intro k r hk
  by_cases hkl : k < rows.length
  · rw [List.getElem?_append_left hkl] at hk
    rw [List.take_append_of_le_length (by omega)]
    exact uru_usl hS hT hx hr hB h k r hk
  · have hk2 : k = rows.length := by
      have := (List.getElem?_eq_some_iff.1 hk).1
      rw [List.length_append, List.length_singleton] at this; omega
    subst hk2
    rw [List.getElem?_append_right (Nat.le_refl _), Nat.sub_self] at hk
    cases hk
    rw [List.take_append_of_le_length (Nat.le_refl _), List.take_length]
    exact uru_cov hS hT hx hr hB h
end Go.Proofs.YthnafdbebniapaaGreatDoor
namespace Go.Proofs.YthnafdbebniapaaGreatDoor
open Go Go.Wk Go.Un Go.De Go.Cv
set_option linter.unusedSimpArgs false
set_option linter.unusedVariables false
attribute [local irreducible] Go.wpList Go.Code.wp Go.wpStill Go.Wk.wpPre Go.bodyPost Go.Calls Go.Wk.Ct Go.Wk.OwnS
attribute [local irreducible] Go.Wk.wpG Go.Wk.wpM
theorem us_S {n : Sz} {d : Nat} {u : Value} {L : List (Nat × Value)} {w0 : World} {F0 : Heap} {K0 : List Nat} {F : Heap} {G' : List Grp} {a : Act} {w : World} {e : Int} {l : List Nat} (S : St n ((d, u) :: L) w0 F0 K0 F (G' ++ []) a w) (h : UsQ e l G' u) :
    ∃ F' ao cap l2, (∀ b o, F b = some o → F' b = some o) ∧ u = .tuple ⟨[.slice ao (List.length l2) cap, .int .i64 e]⟩ ∧ (e = 0 → l2 = l) ∧ (0 < l2.length → ∃ b o, ao = some ⟨b, o, none⟩ ∧ Cels F' b o (ints l2)) ∧ l2.length ≤ 9223372036854775807 ∧ St n ((d, u) :: L) w0 F0 K0 F' [] a w := by
  rcases h with ⟨h1, h2⟩ | ⟨h1, v, g, h2, rfl, ho⟩
  · exact ⟨F, none, 0, [], fun b o h => h, h2, fun h => absurd h h1, fun h => absurd h (by decide), by decide, dropA S⟩
  · have hle := add_le (G1 := []) (G2 := []) S
    obtain ⟨ao, cap, rfl, hc⟩ := ho.heapCels F
    obtain ⟨a2, c2, e2, h3, h4, -⟩ := ho.at
    refine ⟨F.add g, ao, cap, l, hle, by rw [h1]; exact h2, fun _ => rfl, hc, ?_, St.freeze (G1 := []) (G2 := []) S⟩
    simp only [maxLen] at h4
    omega
theorem zzLtM0 {p : Prop} (h : p := by (first | rfl | exact congrArg Value.bool (beq_self_eq_true _) | exact congrArg Value.bool (by rw [hz0, ← hd9]; exact beq_self_eq_true (decide ((m9 : Int) = (rows.length : Int)))) | exact congrArg Value.bool (by rw [hmore.1 (by omega), Bool.and_false]; rfl) | trace_state)) : p := h
theorem moreCt (F : Heap) (hM : MaxF F) (hT : TabF F) (hE : ErrT F) (ts : List TD) (v v1 v2 : Value) (xs : Fo) (rows : List Ef) (hL : LiM F 6 TdR v ts) (h1 : SlF F v1 xs) (h2 : LiM F 1 RwR v2 rows) (hB : RowsB rows) :
    Ct Tryz.prog 8 [v, v1, v2] F [] (fun _ _ u => u = .bool true) := by
 obtain ⟨a0, c0, rfl, -, -⟩ := id hL
 obtain ⟨a1, c1, rfl, -, -⟩ := id h1
 obtain ⟨a2, c2, rfl, h2c, h2p⟩ := id h2
 refine Ct.enter Tryz.func8 rfl Tryz.ntmps8 rfl fun w0 a S => ?_
 (revert S a; refine go02 9 ?_; intro Z hZ Z hZ a S)
 (refine wpl_call0 S rfl rfl rfl rfl rfl rfl (lfitsCt F ts _ _ _ xs rows hL h1 h2) rfl ?_; clear S a; intro v19 a w hv S; obtain ⟨b19, rfl, hf19⟩ := hv)
 (revert S a; refine go00 2 ?_; intro a S)
 refine wpl_guard S rfl rfl rfl rfl rfl ?_ ?_
 ·(clear S; intro h S; (try simp only [tq] at h))
  (refine wpl_call0 S rfl rfl rfl rfl rfl rfl (awakeCt F hM hT hE) rfl ?_; clear S a; intro v22 a w hv S; subst hv)
  refine wpl_take S rfl rfl rfl ?_
  (refine wpl_v S rfl rfl rfl (sv_lit (c := false) (sv_pure S rfl) (by rfl)) ?_; clear S a; intro a S)
  (revert S a; revert hZ Z; refine go10 3 ?_; intro a S)
  refine wpc_false S rfl ?_
  refine wp_skip ?_
  (refine hZ _ _ ?_; clear hZ Z)
  (refine wp_seq_k ?_; intro Z hZ)
  (have hFt : FtB ts xs rows := hf19 (by simp_all))
  (revert S a; refine go00 2 ?_; intro a S)
  (refine wpl_callF S rfl rfl rfl rfl rfl rfl (tableCt F hE ts _ hL hFt.t) rfl ?_; clear S a; intro v28 F1 a w hv hF1 S; obtain ⟨p1, p2, rfl, hok⟩ := hv)
  (revert S a; revert hZ Z; refine go11 15 ?_; intro Z hZ a S)
  refine wpc_sp S rfl ?_ ?_ <;> intro h
  ·(revert S a; refine go00 4 ?_; intro a S)
   refine wp_ret (fr1 S Tryz.results8 ?_)
   exact zzLtM0
  refine wp_skip ?_
  (refine hZ _ _ ?_; clear hZ Z)
  (refine wp_seq_k ?_; intro Z hZ)
  (obtain ⟨tb, tp, rfl, rfl, hC, -, hTk⟩ := hok (by simp_all); have h1a := h1.mono hF1; have h2a := h2.mono hF1; have hx := hFt.x; have hxl := Fo.len_size xs)
  (revert S a; refine go00 3 ?_; intro a S)
  (refine wpl_makeSliceN (q := xs.len) (cp := xs.len) S rfl rfl rfl rfl rfl rfl (by omega) (by omega) (by omega) ?_; clear S a; intro b36 a w zs hzs S)
  (revert S a; revert hZ Z; refine go11 9 ?_; intro Z hZ a S)
  refine wpc_loop (fun m a w' => ∃ (i : Nat) (zs : List Value), m = xs.len - i ∧ i ≤ xs.len ∧ zs.length = (xs.len - i) * 9 ∧ St 91 [(0, .slice a0 ts.length c0), (1, .slice a1 xs.len c1), (2, .slice a2 rows.length c2), (7, .pointer (some ⟨tb, 0, none⟩)), (10, .slice (some ⟨b36, 0, none⟩) xs.len xs.len), (11, .int .i64 i)] w0 F [] F1 [[(b36, .cells ⟨anyC i ++ zs⟩ 29 (0, 0))]] a w') ?_ ?_
  ·(refine ⟨xs.len, 0, zs, by omega, Nat.zero_le _, by rw [hzs, Nat.sub_zero], ?_⟩; refine S.keep ?_; exact zk)
  (clear S hzs zs; rintro m a w ⟨i, zs, rfl, hil, hzs, S⟩)
  (revert S a; refine go01 8 ?_; intro Z hZ a S)
  refine wpc_sp S rfl ?_ ?_ <;> intro h
  ·(revert S a; revert hZ Z; refine go11 9 ?_; intro Z hZ a S)
   (refine wpl_storeO S rfl rfl rfl rfl rfl (by rfl) (by simp [Value.cells, Value.oneCell', splice, splice]) (by rw [Nat.ble_eq]; simp only [List.length_append, anyC_len]; omega) ?_; clear S; intro w S; replace S : St _ _ _ _ _ _ ([(b36, .cells ⟨(anyC i ++ zs).take (0 + i * 9) ++ anyCs ++ (anyC i ++ zs).drop (0 + i * 9 + 9)⟩ _ (0, 0))] :: _) _ _ := S; rw [any_st (by omega)] at S)
   (revert S a; revert hZ Z; refine go10 7 ?_; intro a S)
   change ∃ m', _ ∧ _
   (refine ⟨xs.len - (i + 1), by omega, i + 1, zs.drop 9, rfl, by omega, ?_, ?_⟩; rotate_left 1; (refine S.keep ?_; exact zk); (rw [List.length_drop, hzs]; omega))
  (refine wp_exit ?_; conv => whnf)
  clear hZ Z
  (refine hZ _ _ ?_; clear hZ Z)
  (refine wp_seq_k ?_; intro Z hZ)
  (have hii : i = xs.len := (by omega); subst hii; have hown := ownS_mkP (e := 29) (b := b36) (xs := anyC xs.len) (ex := zs) (cap := xs.len) (anyC_len _) (by omega) (by simp only [maxLen]; omega) (by rw [List.length_append, anyC_len, hzs]; omega); have hle1 := add_le (G1 := []) S; replace S := St.freeze (G1 := []) S; (simp only [List.nil_append] at S hle1); have hfl : xs.len = (tysOf xs).length := (tysOf_len xs).symm; have ek : List.replicate xs.len (anyE, Rose.nil) = kids (anys (tysOf xs).length .nil) := (by rw [kids_anys, hfl]; simp [kids]); have hR := own_tr (r := anys (tysOf xs).length .nil) (F := F1) (by rw [← ek, List.length_replicate]; exact hown) (by rw [← ek]; exact anyC_lic F1 _) hle1 (by rw [← ek, List.length_replicate]; omega); replace h1a := h1a.mono hle1; replace h2a := h2a.mono hle1; replace hC := hC.mono hle1; generalize hF2 : Heap.add F1 _ = F2 at *; clear hF2; have hq1 : SlF F2 (.slice a1 xs.len c1) (foOf (tysOf xs)) := (by rw [fo_tys]; exact h1a); have hle2 : ∀ b o, F b = some o → F2 b = some o := (fun b o h => hle1 _ _ (hF1 _ _ h)); have hl29 := fo_len_30 hx; have hrl := totR_len rows; have hr2 := Nat.le_of_lt hFt.r)
  (revert S a; refine go00 4 ?_; intro a S)
  (refine wpl_call0 S rfl rfl rfl rfl rfl rfl (coversCt F2 (hM.mono hle2) (hT.mono hle2) tb ts hC hFt.t.tsz _ _ (tysOf xs) rows (ckb_of hx (by omega) hB) hq1 h2a (fun h => uru_cov hFt.t hTk hx hr2 hB h)) rfl ?_; clear S a; intro v51 a w hv S; unfold CoQ at hv; subst hv)
  (revert S a; revert hZ Z; refine go11 10 ?_; intro Z hZ a S)
  (refine wpl_buildSlice S rfl rfl rfl rfl rfl rfl (by rfl) (by simp) rfl (by rfl) (by rfl) ?_; clear S a; intro b57 a w hown57 S)
  (revert S a; refine go00 1 ?_; intro a S)
  (obtain ⟨aoT, capT, xT, eT, hxT, hpT⟩ := h2a.flat; cases eT; refine wpl_appendSl S rfl rfl rfl rfl rfl rfl hown57 (by rfl) hxT.len hpT hxT.one' (by omega) (by omega) ?_; clear S a hown57; intro v59 g59 a w hown59 S)
  (revert S a; refine go00 1 ?_; intro a S)
  (refine wpl_append S rfl rfl rfl rfl rfl rfl rfl rfl rfl rfl rfl (fun _ => rfl) hown59 (by rfl) (by simp [Value.cells, splice, splice]) (by simp [Value.cells, Value.oneCell', splice, splice]) rfl (by rfl) (by rfl) rfl (by omega) (by omega) ?_; clear hown59 S a; intro v u g a w hown59 S)
  (have hlR : LiM F2 1 RwR _ _ := h2a; have hle3 := add_le (G1 := []) (G2 := []) S; have h3 : LiM _ 1 RwR _ (rows ++ [anys (tysOf xs).length .nil]) := LiC.lim hown59 (hxT.app (LiC.one rfl ⟨_, rfl, hR⟩)) (by rw [List.length_append]; simp) hle3 (by omega); replace S := St.freeze (G1 := []) (G2 := []) S; generalize hF3 : Heap.add F2 _ = F3 at *; clear hF3; have hle4 : ∀ b o, F b = some o → F3 b = some o := (fun b o h => hle3 _ _ (hle2 _ _ h)); have hts := totR_more (rows := rows) (n := (tysOf xs).length); rw [anys_size] at hts; refine wpl_callNew S rfl rfl rfl rfl rfl rfl (uselessCt F3 (hM.mono hle4) (hT.mono hle4) tb ts (hC.mono hle3) hFt.t.tsz _ _ (tysOf xs) _ (ckb_of hx (by rw [hts]; show _ + (1 + (_ + 0)) ≤ _; omega) (rowsB_more hB)) (hq1.mono hle3) h3 (uru_more hFt.t hTk hx hr2 hB)) rfl ?_; clear S a; intro v63 G9 a w hv S; rw [chk_more] at hv; obtain ⟨F4, ao9, cap9, l9, hle5, rfl, hl9, hp9, h63, S2⟩ := us_S S hv; clear S; have S := S2; clear S2)
  (revert S a; revert hZ Z; refine go11 13 ?_; intro Z hZ a S)
  refine wpc_sp S rfl ?_ ?_ <;> intro h
  ·(revert S a; refine go00 7 ?_; intro a S)
   refine wp_ret (fr1 S Tryz.results8 ?_)
   exact zzLtM0
  refine wp_skip ?_
  (refine hZ _ _ ?_; clear hZ Z)
  (refine wp_seq_k ?_; intro Z hZ)
  (have hz0 : chkE ts (tysOf xs) rows = 0 := (by omega); have hmore := more_C (hl9 hz0))
  (revert S a; refine go00 2 ?_; intro a S)
  (refine wpl_v S rfl rfl rfl (sv_lit (c := true) (sv_pure S rfl) (by exact decide_eq_true (by omega))) ?_; clear S a; intro a S)
  (revert S a; refine go00 11 ?_; intro a S)
  refine wpl_guard S rfl rfl rfl rfl rfl ?_ ?_
  ·(clear S; intro h S; (try simp only [tq] at h))
   (obtain ⟨b9, o9, rfl, hc9⟩ := hp9 (by omega); obtain ⟨m9, hm9, hd9⟩ := hmore.2 (by omega); have hcl : Cel F4 b9 (o9 + (l9.length - 1) * 1) (.int .i64 (m9 : Int)) := (by have h := hc9 (l9.length - 1) (.int .i64 (m9 : Int)) (by unfold ints; rw [List.getElem?_map, hm9]; rfl); rwa [Nat.mul_one]); refine wpl_p S rfl rfl rfl ?_; clear S a; intro a S)
   (revert S a; refine go00 5 ?_; intro a S)
   first | (refine wpl_v S rfl rfl rfl (sv_subN (q := 1) S rfl rfl rfl (by omega)) ?_; clear S a; intro a S) | (refine wpl_v S rfl rfl rfl (sv_sub S rfl rfl rfl (by omega)) ?_; clear S a; intro a S)
   (revert S a; refine go00 3 ?_; intro a S)
   (refine wpl_v S rfl rfl rfl (sv_loadF S rfl rfl hcl) ?_; clear S a; intro a S)
   (revert S a; revert hZ Z; refine go10 14 ?_; intro a S)
   refine wp_ret (fr1 S Tryz.results8 ?_)
   exact zzLtM0
  (intro h; clear S a; intro a S; (try simp only [tq] at h))
  (revert S a; revert hZ Z; refine go10 16 ?_; intro a S)
  refine wp_ret (fr1 S Tryz.results8 ?_)
  exact zzLtM0
 (intro h; clear S a; intro a S; (try simp only [tq] at h))
 (revert S a; revert hZ Z; refine go10 4 ?_; intro a S)
 refine wpc_true S rfl ?_
 refine wp_sr fun Z hZ => ?_
 (refine wpl_call0 S rfl rfl rfl rfl rfl rfl (awakeCt F hM hT hE) rfl ?_; clear S a; intro v25 a w hv S; subst hv)
 (revert S a; revert hZ Z; refine go10 3 ?_; intro a S)
 refine wp_ret (fr1 S Tryz.results8 ?_)
 exact zzLtM0
end Go.Proofs.YthnafdbebniapaaGreatDoor
