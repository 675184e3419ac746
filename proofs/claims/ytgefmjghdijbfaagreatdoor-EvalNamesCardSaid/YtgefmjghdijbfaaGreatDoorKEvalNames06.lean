/- Walks. -/
import Derived.Test.YtgefmjghdijbfaaGreatDoorKEvalNames05
set_option maxHeartbeats 16000000
set_option maxRecDepth 20000
namespace Go.Proofs.YtgefmjghdijbfaaGreatDoor
open Go Go.Wk Go.Un Go.De
set_option linter.unusedSimpArgs false
set_option linter.unusedVariables false
attribute [local irreducible] Go.wpList Go.Code.wp Go.wpStill Go.Wk.wpPre Go.bodyPost Go.Calls Go.Wk.Ct Go.Wk.OwnS Go.Wk.wpG Go.Wk.wpM
theorem bodyE_cons (css : List KC) (rs : List RD) (x : LT) (r : List LT) : bodyE css rs (x :: r) = if litE rs x ≠ 0 then litE rs x else if exprsE css x.args ≠ 0 then exprsE css x.args else bodyE css rs r := rfl
theorem zzDeL0 {p : Prop} (h : p := by (first | (have hz : bodyE css rs l = 0 := (by rw [hfe, List.drop_eq_nil_of_le (by omega)]; rfl); rw [hz]; exact errV_0) | (have h9 := hz1; have hne : exprsE css x.args ≠ 0 := (by first | assumption | simpa using h); have e9 : bodyE css rs l = exprsE css x.args := (by rw [hfe, drop_at hx, bodyE_cons, if_neg (fun h => h hz1), if_pos hne]); rw [e9]; exact hv) | (have hz1 : litE rs x = 63 := litE_none (by omega) (none_of (by assumption)); have e9 : bodyE css rs l = 63 := (by rw [hfe, drop_at hx, bodyE_cons, hz1]; rfl); rw [e9]; exact errV_of (by decide)) | (have hz1 : litE rs x = 70 := (by rw [litE_some (by omega) (some_of hy (by assumption)), if_pos (by omega)]); have e9 : bodyE css rs l = 70 := (by rw [hfe, drop_at hx, bodyE_cons, hz1]; rfl); rw [e9]; exact errV_of (by decide)) | trace_state)) : p := h
theorem zzDeL1 {p : Prop} (h : p := by (rw [← hao] at S; (first | (replace S := S.drop1.drop1) | (replace S := S.drop1)); have hz2 : exprsE css x.args = 0 := (by first | assumption | omega | (simp_all; done)); refine ⟨l.length - (k + 1), by omega, k + 1, rfl, by omega, by rw [hfe, drop_at hx, bodyE_cons, if_neg (fun h => h hz1), if_neg (fun h => h hz2)], ?_⟩; refine S.keep ?_; exact zk)) : p := h
theorem bodyCt (F : Heap) (tb m1 m2 m3 : Nat) (ts : List TD) (css : List KC) (rs : List RD) (hT : TabS F tb m1 m2 m3 ts css rs) (l : List LT) (v : Value) (h : LiM F 5 LtR v l) :
  Ct Tryz.prog 98 [.pointer (some ⟨tb, 0, none⟩), v] F [] (fun _ _ u => ErrV (bodyE css rs l) u) := by
 obtain ⟨ao, cap, rfl, hcap, hpos⟩ := h
 have hcc : Cel F tb 2 (.map (some m3)) := hT.c 2 _ rfl
 obtain ⟨es, hes, hm⟩ := hT.r
 refine Ct.enter Tryz.func98 rfl Tryz.ntmps98 rfl fun w0 a S => ?_
 (revert S a; refine go 12 ?_; intro Z hZ a S)
 refine wpc_loop (fun m a w' => ∃ (k : Nat), m = l.length - k ∧ k ≤ l.length ∧ bodyE css rs l = bodyE css rs (l.drop k) ∧ St 61 [(0, ptr tb), (10, .slice ao l.length cap), (11, .int .i64 l.length), (12, .int .i64 k)] w0 F [] F [] a w') ?_ ?_
 ·(refine ⟨l.length, 0, by omega, Nat.zero_le _, rfl, ?_⟩; refine S.keep ?_; exact zk)
 (clear S; rintro m a w ⟨k, rfl, hkl, hfe, S⟩)
 (revert S a; refine go 5 ?_; intro Z hZ a S)
 refine wpc_sp S rfl ?_ ?_ <;> intro h
 ·(revert S a; revert hZ Z; refine go 4 ?_; intro Z hZ a S)
  (refine wp_seq_k ?_; intro Z hZ)
  (obtain ⟨b8, o8, hao, x, cs1, hx, hc1, ⟨v1, rfl, hT1⟩⟩ := LiM.pos hpos (k := k) (by omega); rw [hao] at S; have hT1c := hT1; obtain ⟨a91, c91, rfl, -⟩ := hT1c)
  (revert S a; refine go 3 ?_; intro a S)
  (refine wpl_alloc S rfl rfl rfl rfl ?_; clear S a; intro b6 a w S)
  (refine wso S rfl rfl ?_; clear S; intro w S)
  (revert S a; revert hZ Z; refine go 8 ?_; intro Z hZ Z hZ a S)
  refine wgd S ?_ ?_
  ·(clear S; intro h S)
   (revert S a; revert hZ Z; refine go 8 ?_; intro a S)
   refine wpc_sp S rfl ?_ ?_ <;> intro h
   ·(refine wp_seq_k ?_; intro Z hZ)
    (refine wpc_mixM [0, 1, 2, 3, 4, 5, 6, 7, 8, 9] [3, 5, 6] [] (.one 0 (.one 1 (.one 2 (.one 3 (.one 4 (.one 5 (.one 6 (.one 7 (.one 8 (.one 9 (.one 10 (.one 11 (.one 12 .nil))))))))))))) [b6] S mixed (by kernel_rfl) ?_; clear S; intro w S)
    (revert S a; refine go 3 ?_; intro a S)
    (refine wlF S rfl (fun w' S => sv_loadF S rfl rfl hcc) ?_; clear S a; intro a S)
    (revert S a; refine go 2 ?_; intro a S)
    (refine wlF S rfl (fun w' S => sv_lookupF (enc := kS) S rfl rfl rfl hes) ?_; clear S a; intro a S)
    (obtain ⟨y, ac, cc, hgd, hfs, hy, his⟩ := get_rd hm x.rel; rw [if_pos rfl, hgd, his] at S)
    (revert S a; refine go 4 ?_; intro a S)
    (refine wpl_alloc S rfl rfl rfl rfl ?_; clear S a; intro b7 a w S)
    (revert S a; refine go 2 ?_; intro a S)
    (refine wso S rfl rfl ?_; clear S; intro w S)
    (revert S a; revert hZ Z; refine go 13 ?_; intro a S)
    refine wpc_sp S rfl ?_ ?_ <;> intro h
    ·(revert S a; refine go 8 ?_; intro a S)
     refine wp_ret (fr1 S Tryz.results98 ?_)
     exact zzDeL0
    (revert S a; refine go 11 ?_; intro a S)
    refine wpc_sp S rfl ?_ ?_ <;> intro h
    ·(revert S a; refine go 8 ?_; intro a S)
     refine wp_ret (fr1 S Tryz.results98 ?_)
     exact zzDeL0
    (revert S a; revert hZ Z; refine go 2 ?_; intro a S)
    (refine wp_seq_k ?_; intro Z hZ)
    (have hz1 : litE rs x = 0 := (by first | (exact litE_no (by omega)) | (rw [litE_some (by omega) (some_of hy (by assumption)), if_neg (by omega)])))
    (revert S a; refine go 4 ?_; intro a S)
    (refine wc0 S (exprsCt F tb m1 m2 m3 ts css rs hT x.args.size x.args _ (Nat.le_refl _) hT1) ?_; clear S a; intro v9 a w hv S)
    (revert S a; revert hZ Z; refine go 5 ?_; intro Z hZ a S)
    (refine wv S (sv_neErr S rfl rfl hv) ?_; clear S a; intro a S)
    (revert S a; revert hZ Z; refine go 2 ?_; intro a S)
    refine wpc_sp S rfl ?_ ?_ <;> intro h
    ·(revert S a; refine go 5 ?_; intro a S)
     refine wp_ret (fr1 S Tryz.results98 ?_)
     exact zzDeL0
    (revert S a; revert hZ Z; refine go 6 ?_; intro a S)
    change ∃ m', _ ∧ _
    exact zzDeL1
   (revert S a; revert hZ Z; refine go 2 ?_; intro a S)
   (refine wp_seq_k ?_; intro Z hZ)
   (have hz1 : litE rs x = 0 := (by first | (exact litE_no (by omega)) | (rw [litE_some (by omega) (some_of hy (by assumption)), if_neg (by omega)])))
   (revert S a; refine go 4 ?_; intro a S)
   (refine wc0 S (exprsCt F tb m1 m2 m3 ts css rs hT x.args.size x.args _ (Nat.le_refl _) hT1) ?_; clear S a; intro v9 a w hv S)
   (revert S a; revert hZ Z; refine go 5 ?_; intro Z hZ a S)
   (refine wv S (sv_neErr S rfl rfl hv) ?_; clear S a; intro a S)
   (revert S a; revert hZ Z; refine go 2 ?_; intro a S)
   refine wpc_sp S rfl ?_ ?_ <;> intro h
   ·(revert S a; refine go 5 ?_; intro a S)
    refine wp_ret (fr1 S Tryz.results98 ?_)
    exact zzDeL0
   (revert S a; revert hZ Z; refine go 6 ?_; intro a S)
   change ∃ m', _ ∧ _
   exact zzDeL1
  (clear S a; intro h a S)
  (revert S a; revert hZ Z; refine go 5 ?_; intro a S)
  refine wpc_true S rfl ?_
  (refine wp_seq_k ?_; intro Z hZ)
  (refine wpc_mixM [0, 1, 2, 3, 4, 5, 6, 7, 8, 9] [3, 5, 6] [] (.one 0 (.one 1 (.one 2 (.one 3 (.one 4 (.one 5 (.one 6 (.one 7 (.one 8 (.one 9 (.one 10 (.one 11 (.one 12 .nil))))))))))))) [b6] S mixed (by kernel_rfl) ?_; clear S; intro w S)
  (revert S a; refine go 3 ?_; intro a S)
  (refine wlF S rfl (fun w' S => sv_loadF S rfl rfl hcc) ?_; clear S a; intro a S)
  (revert S a; refine go 2 ?_; intro a S)
  (refine wlF S rfl (fun w' S => sv_lookupF (enc := kS) S rfl rfl rfl hes) ?_; clear S a; intro a S)
  (obtain ⟨y, ac, cc, hgd, hfs, hy, his⟩ := get_rd hm x.rel; rw [if_pos rfl, hgd, his] at S)
  (revert S a; refine go 4 ?_; intro a S)
  (refine wpl_alloc S rfl rfl rfl rfl ?_; clear S a; intro b7 a w S)
  (revert S a; refine go 2 ?_; intro a S)
  (refine wso S rfl rfl ?_; clear S; intro w S)
  (revert S a; revert hZ Z; refine go 13 ?_; intro a S)
  refine wpc_sp S rfl ?_ ?_ <;> intro h
  ·(revert S a; refine go 8 ?_; intro a S)
   refine wp_ret (fr1 S Tryz.results98 ?_)
   exact zzDeL0
  (revert S a; refine go 11 ?_; intro a S)
  refine wpc_sp S rfl ?_ ?_ <;> intro h
  ·(revert S a; refine go 8 ?_; intro a S)
   refine wp_ret (fr1 S Tryz.results98 ?_)
   exact zzDeL0
  refine wp_skip ?_
  (refine hZ _ _ ?_; clear hZ Z)
  (refine wp_seq_k ?_; intro Z hZ)
  (have hz1 : litE rs x = 0 := (by first | (exact litE_no (by omega)) | (rw [litE_some (by omega) (some_of hy (by assumption)), if_neg (by omega)])))
  (revert S a; refine go 4 ?_; intro a S)
  (refine wc0 S (exprsCt F tb m1 m2 m3 ts css rs hT x.args.size x.args _ (Nat.le_refl _) hT1) ?_; clear S a; intro v9 a w hv S)
  (revert S a; revert hZ Z; refine go 5 ?_; intro Z hZ a S)
  (refine wv S (sv_neErr S rfl rfl hv) ?_; clear S a; intro a S)
  (revert S a; revert hZ Z; refine go 2 ?_; intro a S)
  refine wpc_sp S rfl ?_ ?_ <;> intro h
  ·(revert S a; refine go 5 ?_; intro a S)
   refine wp_ret (fr1 S Tryz.results98 ?_)
   exact zzDeL0
  (revert S a; revert hZ Z; refine go 6 ?_; intro a S)
  change ∃ m', _ ∧ _
  exact zzDeL1
 (refine wp_exit ?_; conv => whnf)
 clear hZ Z
 (revert S a; revert hZ Z; refine go 5 ?_; intro a S)
 refine wp_ret (fr1 S Tryz.results98 ?_)
 exact zzDeL0
theorem zzDeL2 {p : Prop} (h : p := by (first | (rw [ruleE_none (none_of (by assumption))]; exact errV_of (by decide)) | (rw [ruleE_some (some_of hy (by assumption))]; first | (rw [if_pos (by assumption)]; exact errV_of (by decide)) | (rw [if_neg (by simp [*]), if_pos (by omega)]; exact errV_of (by decide)) | (rw [if_neg (by simp [*]), if_neg (by omega), if_pos (by omega)]; exact errV_of (by decide)) | (have hne : exprsE css x.args ≠ 0 := (by first | assumption | simpa using h); rw [if_neg (by simp [*]), if_neg (by omega), if_neg (by omega), if_pos hne]; exact hv) | (have hz : exprsE css x.args = 0 := (by first | assumption | simpa using h); rw [if_neg (by simp [*]), if_neg (by omega), if_neg (by omega), if_neg (fun h => h hz)]; exact hv8)) | trace_state)) : p := h
theorem ruleCt (F : Heap) (tb m1 m2 m3 : Nat) (ts : List TD) (css : List KC) (rs : List RD) (hT : TabS F tb m1 m2 m3 ts css rs) (x : RU) (cs : List Value) (h : RuR F x cs) :
  Ct Tryz.prog 97 [.pointer (some ⟨tb, 0, none⟩), .agg ⟨cs⟩] F [] (fun _ _ u => ErrV (ruleE css rs x) u) := by
 obtain ⟨v1, v2, v3, rfl, h1, h2, h3⟩ := h
 have h1c := h1
 obtain ⟨a1, c1, rfl, -, -⟩ := h1c
 obtain ⟨a2, c2, rfl, -, -⟩ := h2
 have h3c := h3
 obtain ⟨a3, c3, rfl, -, -⟩ := h3c
 have hcc : Cel F tb 2 (.map (some m3)) := hT.c 2 _ rfl
 obtain ⟨es, hes, hm⟩ := hT.r
 refine Ct.enter Tryz.func97 rfl Tryz.ntmps97 rfl fun w0 a S => ?_
 refine wp_sr fun Z hZ => ?_
 (refine wbx S ?_; clear S a; intro b3 a w S)
 (revert S a; revert hZ Z; refine go 3 ?_; intro a S)
 (refine wp_seq_k ?_; intro Z hZ)
 (refine wpc_mixM [0, 1, 2, 3, 4, 5, 6, 7, 8, 9] [3, 5, 6] [] (.one 0 (.one 1 (.one 2 (.one 3 (.one 4 (.one 5 (.one 6 (.one 7 (.one 8 (.one 9 (.one 10 (.one 11 (.one 12 .nil))))))))))))) [b3] S mixed (by kernel_rfl) ?_; clear S; intro w S)
 (revert S a; refine go 3 ?_; intro a S)
 (refine wlF S rfl (fun w' S => sv_loadF S rfl rfl hcc) ?_; clear S a; intro a S)
 (revert S a; refine go 2 ?_; intro a S)
 (refine wlF S rfl (fun w' S => sv_lookupF (enc := kS) S rfl rfl rfl hes) ?_; clear S a; intro a S)
 (obtain ⟨y, ac, cc, hgd, hfs, hy, his⟩ := get_rd hm x.rel; rw [if_pos rfl, hgd, his] at S)
 (revert S a; refine go 4 ?_; intro a S)
 (refine wpl_alloc S rfl rfl rfl rfl ?_; clear S a; intro b5 a w S)
 (revert S a; refine go 2 ?_; intro a S)
 (refine wso S rfl rfl ?_; clear S; intro w S)
 (revert S a; revert hZ Z; refine go 14 ?_; intro Z hZ a S)
 refine wpc_sp S rfl ?_ ?_ <;> intro h
 ·(revert S a; refine go 8 ?_; intro a S)
  refine wp_ret (fr1 S Tryz.results97 ?_)
  exact zzDeL2
 (revert S a; refine go 6 ?_; intro a S)
 refine wpc_sp S rfl ?_ ?_ <;> intro h
 ·(revert S a; refine go 8 ?_; intro a S)
  refine wp_ret (fr1 S Tryz.results97 ?_)
  exact zzDeL2
 (revert S a; refine go 11 ?_; intro a S)
 refine wpc_sp S rfl ?_ ?_ <;> intro h
 ·(revert S a; refine go 8 ?_; intro a S)
  refine wp_ret (fr1 S Tryz.results97 ?_)
  exact zzDeL2
 (revert S a; refine go 11 ?_; intro a S)
 refine wpc_sp S rfl ?_ ?_ <;> intro h
 ·(revert S a; refine go 8 ?_; intro a S)
  refine wp_ret (fr1 S Tryz.results97 ?_)
  exact zzDeL2
 (revert S a; revert hZ Z; refine go 7 ?_; intro Z hZ Z hZ a S)
 (refine wc0 S (exprsCt F tb m1 m2 m3 ts css rs hT x.args.size x.args _ (Nat.le_refl _) h1) ?_; clear S a; intro v9 a w hv S)
 (revert S a; revert hZ Z; refine go 5 ?_; intro Z hZ a S)
 (refine wv S (sv_neErr S rfl rfl hv) ?_; clear S a; intro a S)
 (revert S a; revert hZ Z; refine go 2 ?_; intro a S)
 refine wpc_sp S rfl ?_ ?_ <;> intro h
 ·(revert S a; refine go 5 ?_; intro a S)
  refine wp_ret (fr1 S Tryz.results97 ?_)
  exact zzDeL2
 (revert S a; revert hZ Z; refine go 6 ?_; intro Z hZ a S)
 (refine wc0 S (bodyCt F tb m1 m2 m3 ts css rs hT x.body _ h3) ?_; clear S a; intro v8 a w hv8 S)
 (revert S a; revert hZ Z; refine go 3 ?_; intro a S)
 refine wp_ret (fr1 S Tryz.results97 ?_)
 exact zzDeL2
theorem related1Ct (F : Heap) : CbS F 142 [] [] (fun _ => true) := by
 unfold CbS
 intro F' s hF
 refine Ct.enter Tryz.func142 rfl Tryz.ntmps142 rfl fun w0 a S => ?_
 (revert S a; refine go 8 ?_; intro a S)
 refine wp_ret (fr1 S Tryz.results142 ?_)
 rfl
theorem relatedE_cons (ts : List TD) (seen : List (List UInt8)) (x : RD) (r : List RD) : relatedE ts seen (x :: r) = if x.nm ∈ seen ∨ twiceD x.fs = true then 6 else if fieldsE ts (fun _ => true) x.fs ≠ 0 then fieldsE ts (fun _ => true) x.fs else relatedE ts (seen ++ [x.nm]) r := rfl
theorem zzDeM0 {p : Prop} (h : p := by (first | (have hii : k = l.length := (by omega); have hz : relatedE ts [] l = 0 := (by rw [hfe, List.drop_eq_nil_of_le (by omega)]; rfl); rw [hz]; exact ⟨errV_0, fun _ => ⟨es, rfl, by rw [List.take_of_length_le (by omega)] at hm; exact hm⟩⟩) | (have h9 := hnb; have hne : fieldsE ts (fun _ => true) x.fs ≠ 0 := (by first | assumption | simpa using h); have e9 : relatedE ts [] l = fieldsE ts (fun _ => true) x.fs := (by rw [hfe, drop_at hx, relatedE_cons, if_neg hnb, if_pos hne]); rw [e9]; exact ⟨hv, fun h9 => absurd h9 hne⟩) | (have hb : x.nm ∈ (l.take k).map RD.nm ∨ twiceD x.fs = true := (by simp_all); have e9 : relatedE ts [] l = 6 := (by rw [hfe, drop_at hx, relatedE_cons, if_pos hb]); rw [e9]; exact ⟨errV_of (by decide), fun h9 => absurd h9 (by decide)⟩) | trace_state)) : p := h
theorem relatedCt (F : Heap) (tb m1 m3 : Nat) (ts : List TD) (hT : TyS F tb m1 ts) (hcc : Cel F tb 2 (.map (some m3))) (l : List RD) (v : Value) (h : LiM F 6 RdR v l) (hsz : ∀ x ∈ l, FSz x.fs ∧ x.fs.length ≤ 1000000) :
  Ct Tryz.prog 96 [.pointer (some ⟨tb, 0, none⟩), v] F [[(m3, mObj kS [])]] (fun _ G' u => ErrV (relatedE ts [] l) u ∧ (relatedE ts [] l = 0 → ∃ es, G' = [[(m3, mObj kS es)]] ∧ MapM F RdR RD.nm es l)) := by
 obtain ⟨ao, cap, rfl, hcap, hpos⟩ := h
 refine Ct.enter Tryz.func96 rfl Tryz.ntmps96 rfl fun w0 a S => ?_
 (revert S a; refine go 12 ?_; intro Z hZ a S)
 refine wpc_loop (fun m a w' => ∃ (k : Nat) (es : List (List UInt8 × Value)), m = l.length - k ∧ k ≤ l.length ∧ MapM F RdR RD.nm es (l.take k) ∧ relatedE ts [] l = relatedE ts ((l.take k).map RD.nm) (l.drop k) ∧ St 53 [(0, ptr tb), (10, .slice ao l.length cap), (11, .int .i64 l.length), (12, .int .i64 k)] w0 F [m3] F [[(m3, mObj kS es)]] a w') ?_ ?_
 ·(refine ⟨l.length, 0, [], by omega, Nat.zero_le _, trivial, rfl, ?_⟩; refine S.keep ?_; exact zk)
 (clear S; rintro m a w ⟨k, es, rfl, hkl, hm, hfe, S⟩)
 (revert S a; refine go 5 ?_; intro Z hZ a S)
 refine wpc_sp S rfl ?_ ?_ <;> intro h
 ·(revert S a; revert hZ Z; refine go 4 ?_; intro Z hZ a S)
  (refine wp_seq_k ?_; intro Z hZ)
  (obtain ⟨b8, o8, hao, x, cs1, hx, hc1, ⟨v1, rfl, hT1⟩⟩ := LiM.pos hpos (k := k) (by omega); rw [hao] at S; have hT1c := hT1; obtain ⟨a91, c91, rfl, -⟩ := hT1c; have hxsz := hsz x (List.mem_of_getElem? hx); have htk : l.take (k + 1) = l.take k ++ [x] := (by rw [List.take_add_one, hx]; rfl))
  (revert S a; refine go 3 ?_; intro a S)
  (refine wpl_alloc S rfl rfl rfl rfl ?_; clear S a; intro b6 a w S)
  (refine wso S rfl rfl ?_; clear S; intro w S)
  (revert S a; revert hZ Z; refine go 3 ?_; intro Z hZ a S)
  (refine wp_seq_k ?_; intro Z hZ)
  (refine wpc_mixM [0, 1, 2, 3, 4, 5, 6, 7, 8, 9] [3, 5, 6] [] (.one 0 (.one 1 (.one 2 (.one 3 (.one 4 (.one 5 (.one 6 (.one 7 (.one 8 (.one 9 (.one 10 (.one 11 (.one 12 .nil))))))))))))) [b6, m3] S mixed (by kernel_rfl) ?_; clear S; intro w S)
  (revert S a; refine go 3 ?_; intro a S)
  (refine wlF S rfl (fun w' S => sv_loadF S rfl rfl hcc) ?_; clear S a; intro a S)
  (revert S a; refine go 2 ?_; intro a S)
  (refine wpm_lateO m3 S rfl rfl rfl (want_none _ rfl) rfl rfl (fun w' S => sv_lookupO (enc := kS) S rfl rfl rfl) ?_; clear S a; intro a S)
  (obtain ⟨y, ac, cc, hgd, -, -, -⟩ := get_rd hm x.nm; rw [if_pos rfl, hgd, hm.mem x.nm] at S)
  (revert S a; refine go 4 ?_; intro a S)
  (refine wpl_alloc S rfl rfl rfl rfl ?_; clear S a; intro b7 a w S)
  (revert S a; refine go 2 ?_; intro a S)
  (refine wso S rfl rfl ?_; clear S; intro w S)
  (revert S a; revert hZ Z; refine go 9 ?_; intro Z hZ a S)
  refine wgd S ?_ ?_
  ·(clear S; intro h S)
   (revert S a; refine go 4 ?_; intro a S)
   (refine wc0 S (twiceCt F x.fs _ hT1 hxsz.2) ?_; clear S a; intro v9 a w hv S; subst hv)
   (revert S a; revert hZ Z; refine go 3 ?_; intro a S)
   refine wpc_sp S rfl ?_ ?_ <;> intro h
   ·(revert S a; refine go 8 ?_; intro a S)
    refine wp_ret ?_
    (first | (have h9 := hnb; replace S := S.drop1.drop1) | (have h9 := hx; replace S := S.drop1.drop1) | skip)
    refine fin_ret S (results1 Tryz.results96 (RV.tmp S rfl)) ?_
    exact zzDeM0
   (revert S a; revert hZ Z; refine go 2 ?_; intro a S)
   (refine wp_seq_k ?_; intro Z hZ)
   (have hnb : ¬ (x.nm ∈ (l.take k).map RD.nm ∨ twiceD x.fs = true) := (by rintro (h9 | h9) <;> simp_all); have hms : mSet es x.nm (.agg ⟨[.int .i64 x.l, .int .i64 x.c, .bool x.pub, .bool x.inp, .string (bs x.nm), .slice a91 x.fs.length c91]⟩) = es ++ [(x.nm, .agg ⟨[.int .i64 x.l, .int .i64 x.c, .bool x.pub, .bool x.inp, .string (bs x.nm), .slice a91 x.fs.length c91]⟩)] := mSet_new (by have h9 := hm.mem x.nm; rw [decide_eq_false (fun h8 => hnb (.inl h8))] at h9; exact none_of h9))
   (refine wpc_mixM [0, 1, 2, 3, 4, 5, 6] [3, 5, 6] [] (.one 0 (.one 1 (.one 2 (.one 3 (.one 4 (.one 5 (.one 6 (.one 7 .nil)))))))) [b6] S mixed (by kernel_rfl) ?_; clear S; intro w S)
   (revert S a; refine go 3 ?_; intro a S)
   (refine wlF S rfl (fun w' S => sv_loadF S rfl rfl hcc) ?_; clear S a; intro a S)
   (revert S a; refine go 4 ?_; intro a S)
   (refine wpl_mapSet (enc := kS) S rfl rfl rfl rfl rfl rfl ?_; clear S; intro w S)
   (revert S a; revert hZ Z; refine go 3 ?_; intro a S)
   (refine wp_seq_k ?_; intro Z hZ)
   (replace S : St _ _ _ _ _ F [_, _, [(m3, mObj kS (mSet es x.nm (.agg ⟨[.int .i64 x.l, .int .i64 x.c, .bool x.pub, .bool x.inp, .string (bs x.nm), .slice a91 x.fs.length c91]⟩)))]] _ _ := S; rw [hms] at S)
   (revert S a; refine go 6 ?_; intro a S)
   (refine wc0 S (fieldsCt F tb m1 ts hT x.fs _ hT1 hxsz.1 x.l x.c (fun _ => true) 142 [] [] (related1Ct F)) ?_; clear S a; intro v9 a w hv S)
   (revert S a; revert hZ Z; refine go 5 ?_; intro Z hZ a S)
   (refine wv S (sv_neErr S rfl rfl hv) ?_; clear S a; intro a S)
   (revert S a; revert hZ Z; refine go 2 ?_; intro a S)
   refine wpc_sp S rfl ?_ ?_ <;> intro h
   ·(revert S a; refine go 5 ?_; intro a S)
    refine wp_ret ?_
    (first | (have h9 := hnb; replace S := S.drop1.drop1) | (have h9 := hx; replace S := S.drop1.drop1) | skip)
    refine fin_ret S (results1 Tryz.results96 (RV.tmp S rfl)) ?_
    exact zzDeM0
   (revert S a; revert hZ Z; refine go 6 ?_; intro a S)
   change ∃ m', _ ∧ _
   (rw [← hao] at S; replace S := S.drop1.drop1; have hz2 : fieldsE ts (fun _ => true) x.fs = 0 := (by first | assumption | omega | (simp_all; done)); refine ⟨l.length - (k + 1), by omega, k + 1, _, rfl, by omega, (by rw [htk]; exact hm.app ⟨_, rfl, hT1⟩), (by rw [hfe, drop_at hx, relatedE_cons, if_neg hnb, if_neg (fun h => h hz2), htk, List.map_append]; rfl), ?_⟩; refine S.keep ?_; exact zk)
  (clear S a; intro h a S)
  (revert S a; revert hZ Z; refine go 5 ?_; intro a S)
  refine wpc_true S rfl ?_
  (revert S a; refine go 8 ?_; intro a S)
  refine wp_ret ?_
  (first | (have h9 := hnb; replace S := S.drop1.drop1) | (have h9 := hx; replace S := S.drop1.drop1) | skip)
  refine fin_ret S (results1 Tryz.results96 (RV.tmp S rfl)) ?_
  exact zzDeM0
 (refine wp_exit ?_; conv => whnf)
 clear hZ Z
 (revert S a; revert hZ Z; refine go 5 ?_; intro a S)
 refine wp_ret ?_
 (first | (have h9 := hnb; replace S := S.drop1.drop1) | (have h9 := hx; replace S := S.drop1.drop1) | skip)
 refine fin_ret S (results1 Tryz.results96 (RV.tmp S rfl)) ?_
 exact zzDeM0
end Go.Proofs.YtgefmjghdijbfaaGreatDoor
