/- Walks. -/
import Derived.Test.YthnafdbebniapaaGreatDoorQ23
import Derived.Test.YthnafdbebniapaaGreatDoorQ04
set_option maxHeartbeats 16000000
set_option maxRecDepth 20000
namespace Go.Proofs.YthnafdbebniapaaGreatDoor
open Go Go.Wk Go.Un Go.De
set_option linter.unusedSimpArgs false
set_option linter.unusedVariables false
attribute [local irreducible] Go.wpList Go.Code.wp Go.wpStill Go.Wk.wpPre Go.bodyPost Go.Calls Go.Wk.Ct Go.Wk.OwnS
attribute [local irreducible] Go.Wk.wpG Go.Wk.wpM
theorem thin_size : ∀ l : Fo, l.size ≤ 1000000 → Thin l
  | .nil, _ => trivial
  | .cons nm ar r, h => by
    simp only [Fo.size] at h
    have := Fo.len_size ar
    exact ⟨by omega, thin_size ar (by omega), thin_size r (by omega)⟩
theorem thinT_size {t : Ty} (h : t.2.size ≤ 1000000) : ThinT t := by
  have := Fo.len_size t.2
  exact ⟨by omega, thin_size _ h⟩
def KThin (css : List KC) : Prop := ∀ c ∈ css, FThin c.fs
theorem findC_mem {css : List KC} {s : List UInt8} {c : KC} (h : findC css s = some c) : c ∈ css := List.mem_of_find?_eq_some h
theorem isT_1 {css : List KC} {h : VH} {L : Vf} {t : Ty} (hk : (h.k : Int) = 1) : isT css h L t = decide (t.1 = sBool) := by unfold isT; rw [if_pos (by omega)]
theorem isT_2 {css : List KC} {h : VH} {L : Vf} {t : Ty} (hk : (h.k : Int) = 2) : isT css h L t = decide (t.1 = sInt) := by unfold isT; rw [if_neg (by omega), if_pos (by omega)]
theorem isT_3 {css : List KC} {h : VH} {L : Vf} {t : Ty} (hk : (h.k : Int) = 3) : isT css h L t = decide (t.1 = sBig) := by unfold isT; rw [if_neg (by omega), if_neg (by omega), if_pos (by omega)]
theorem isT_4 {css : List KC} {h : VH} {L : Vf} {t : Ty} (hk : (h.k : Int) = 4) : isT css h L t = decide (t.1 = sText) := by unfold isT; rw [if_neg (by omega), if_neg (by omega), if_neg (by omega), if_pos (by omega)]
theorem isT_5 {css : List KC} {h : VH} {L : Vf} {t : Ty} (hk : (h.k : Int) = 5) : isT css h L t = (decide (t.1 = sTuple) && eq2 (isT css) L (tysOf t.2)) := by
  rw [← isAll_eq]; unfold isT; rw [if_neg (by omega), if_neg (by omega), if_neg (by omega), if_neg (by omega), if_pos (by omega)]
theorem isT_s {css : List KC} {h : VH} {L : Vf} {t : Ty} {c : KC} (hk : ¬ (h.k : Int) = 1 ∧ ¬ (h.k : Int) = 2 ∧ ¬ (h.k : Int) = 3 ∧ ¬ (h.k : Int) = 4 ∧ ¬ (h.k : Int) = 5) (hc : findC css h.s = some c) : isT css h L t = (decide (c.ty = t.1) && eq2 (fun h L (f : FD) => isT css h L (putT c.ps t.2 (f.tn, f.ta))) L c.fs) := by
  rw [← eq2_map (isT css) (fun f : FD => putT c.ps t.2 (f.tn, f.ta)), ← isAll_eq]; unfold isT; rw [if_neg (by omega), if_neg (by omega), if_neg (by omega), if_neg (by omega), if_neg (by omega), hc]
theorem isT_n {css : List KC} {h : VH} {L : Vf} {t : Ty} (hk : ¬ (h.k : Int) = 1 ∧ ¬ (h.k : Int) = 2 ∧ ¬ (h.k : Int) = 3 ∧ ¬ (h.k : Int) = 4 ∧ ¬ (h.k : Int) = 5) (hc : findC css h.s = none) : isT css h L t = false := by
  unfold isT; rw [if_neg (by omega), if_neg (by omega), if_neg (by omega), if_neg (by omega), if_neg (by omega), hc]
theorem beqD {s t : List UInt8} : (s == t) = decide (s = t) := by rw [Bool.eq_iff_iff, beq_iff_eq, decide_eq_true_eq]
def IsD (F : Heap) (tb : Nat) (css : List KC) (m : Nat) : Prop := ∀ (F' : Heap) (vh : VH) (L : Vf) (t : Ty) (cs cs2 : List Value), L.size < m → (∀ b o, F b = some o → F' b = some o) → VaC F' cs vh L → TyC F' cs2 t.1 t.2 → ThinT t →
  Ct Tryz.prog 183 [.pointer (some ⟨tb, 0, none⟩), .agg ⟨cs⟩, .agg ⟨cs2⟩] F' [] (fun _ _ u => u = .bool (isT css vh L t))
theorem is1Ct (F0 : Heap) (tb : Nat) (css : List KC) (m : Nat) (ih : IsD F0 tb css m) (F : Heap) (hF : ∀ b o, F0 b = some o → F b = some o) (bt bc bx : Nat) (ps : List (List UInt8)) (vp va : Value) (ar : Fo)
    (hbt : Cel F bt 0 (ptr tb)) (hbc : Cel F bc 1 vp) (hps : LiM F 1 StR vp ps) (hbx : Cel F bx 1 va) (har : SlF F va ar) (hth : Thin ar)
    (vh : VH) (L : Vf) (cs : List Value) (f : FD) (cs2 : List Value) (hm : L.size < m) (hV : VaC F cs vh L) (hR : FdR F f cs2) (hft : f.ta.len * 40 ≤ 140737488355328 ∧ Thin f.ta) :
    Ct Tryz.prog 226 ([] ++ [.agg ⟨cs⟩, .agg ⟨cs2⟩] ++ [.pointer (some ⟨bt, 0, none⟩), .pointer (some ⟨bc, 0, none⟩), .pointer (some ⟨bx, 0, none⟩)]) F [] (fun _ _ u => u = .bool (isT css vh L (putT ps ar (f.tn, f.ta)))) := by
 have hV0 := hV
 obtain ⟨v, rfl, ⟨ao, cap, rfl, hcap, hpos⟩, hsb⟩ := hV
 obtain ⟨v2, rfl, hfs⟩ := hR
 have hfsc := hfs
 obtain ⟨af, cf, rfl, -, -⟩ := hfsc
 have hsl := lim_sl hps
 obtain ⟨ap, cp, rfl, hpl, -⟩ := hps
 have harc := har
 obtain ⟨aa, ca, rfl, -, -⟩ := harc
 refine Ct.enter Tryz.func226 rfl Tryz.ntmps226 rfl fun w0 a S => ?_
 refine wp_sr fun Z hZ => ?_
 (refine wpl_box S rfl rfl rfl rfl rfl ?_; clear S a; intro b5 a w S)
 (refine wpl_box S rfl rfl rfl rfl rfl ?_; clear S a; intro b6 a w S)
 (revert S a; revert hZ Z; refine go10 3 ?_; intro a S)
 (refine wp_seq_k ?_; intro Z hZ)
 (refine wpc_mixM [0, 1, 2, 3, 4, 5, 6, 7] [0, 1, 3, 5, 7] [] (.one 0 (.one 1 (.one 2 (.one 3 (.one 4 (.one 5 (.one 6 (.one 7 (.one 8 (.one 9 (.one 10 .nil))))))))))) [b5, b6] S mixed (by kernel_rfl) ?_; clear S; intro w S)
 (refine wpm_lateF S rfl rfl rfl (want_none _ rfl) rfl rfl (fun w' S => sv_loadF S rfl rfl hbt) ?_; clear S a; intro a S)
 (refine wpm_o b5 S rfl rfl rfl (want_none _ rfl) rfl rfl ?_; clear S a; intro a S)
 (refine wpm_f S rfl rfl rfl (want_none _ rfl) rfl rfl ?_; clear S a; intro a S)
 (refine wpm_o b6 S rfl rfl rfl (want_none _ rfl) rfl rfl ?_; clear S a; intro a S)
 (refine wpm_f S rfl rfl rfl (want_none _ rfl) rfl rfl ?_; clear S a; intro a S)
 (refine wpm_lateF S rfl rfl rfl (want_none _ rfl) rfl rfl (fun w' S => sv_loadF S rfl rfl hbc) ?_; clear S a; intro a S)
 (refine wpm_f S rfl rfl rfl (want_none _ rfl) rfl rfl ?_; clear S a; intro a S)
 (refine wpm_lateF S rfl rfl rfl (want_none _ rfl) rfl rfl (fun w' S => sv_loadF S rfl rfl hbx) ?_; clear S a; intro a S)
 refine wpm_eff rfl rfl (kwa S) ?_
 (refine wpl_callF S rfl rfl rfl rfl rfl rfl (putCt F ps _ ar _ hsl (by omega) har hth (f.ta.size + 1) F f.tn f.ta _ (Nat.lt_succ_self _) (fun _ _ h => h) ⟨_, rfl, hfs⟩ hft.1 hft.2) rfl ?_; clear S a; intro u9 F9 a w hv hF9 S; obtain ⟨a9, q9, c9, rfl, hs9⟩ := hv)
 refine wpList_nil ?_
 refine wpm_eff rfl rfl (kwa S) ?_
 (refine wpl_call0 S rfl rfl rfl rfl rfl rfl (ih F9 vh L (putT ps ar (f.tn, f.ta)) _ _ hm (fun b o h => hF9 _ _ (hF _ _ h)) (hV0.mono hF9) ⟨_, rfl, hs9⟩ (ThinT.put hth hft)) rfl ?_; clear S a; intro v a w hv S; subst hv)
 refine wpList_nil ?_
 refine wpm_eff rfl rfl (kwa S) ?_
 (revert S a; refine go00 2 ?_; intro a S)
 (refine wpm_nil (kwa S) (hZ _ _ ?_); clear hZ Z)
 refine wp_ret (fr1 S Tryz.results226 ?_)
 rfl
theorem zzDfA0 {p : Prop} (h : p := by (congr 1; first | (rw [isT_1 (by omega)]; exact beqD) | (rw [isT_2 (by omega)]; exact beqD) | (rw [isT_3 (by omega)]; exact beqD) | (rw [isT_4 (by omega)]; exact beqD) | (rw [isT_5 (by omega)]; first | (rw [decide_eq_true (show (nm, ar).1 = sTuple by assumption), Bool.true_and]) | (rw [decide_eq_false (show ¬ (nm, ar).1 = sTuple by assumption), Bool.false_and])) | (rw [isT_n ⟨by omega, by omega, by omega, by omega, by omega⟩ (none_of (by assumption))]; done) | (rw [isT_s ⟨by omega, by omega, by omega, by omega, by omega⟩ (some_of hy (by assumption))]; first | (rw [decide_eq_true (show y.ty = (nm, ar).1 by assumption), Bool.true_and]; done) | (rw [decide_eq_false (show ¬ y.ty = (nm, ar).1 by assumption), Bool.false_and]; done)) | trace_state)) : p := h
theorem isDCt (F : Heap) (tb m1 m2 m3 : Nat) (ts : List TD) (css : List KC) (rs : List RD) (hT : TabS F tb m1 m2 m3 ts css rs) (hK : KThin css) : ∀ m, IsD F tb css m := by
  intro m
  induction m with
  | zero => intro F' vh L t cs cs2 hm; omega
  | succ m ih =>
  intro F' vh L t cs cs2 hm hF hV hty hth
  obtain ⟨nm, ar⟩ := t
  have hV0 := hV
  obtain ⟨v, rfl, hL, hsb⟩ := hV
  have hLc := hL
  obtain ⟨ao, cap, rfl, hcap, hpos⟩ := hLc
  replace hty : TyC F' cs2 nm ar := hty
  obtain ⟨v2, rfl, har⟩ := hty
  have harc := har
  obtain ⟨aa, ca, rfl, -, -⟩ := harc
  have hcc : Cel F' tb 1 (.map (some m2)) := (hT.mono hF).c 1 _ rfl
  obtain ⟨es, hes, hmm⟩ := (hT.mono hF).k
  refine Ct.enter Tryz.func183 rfl Tryz.ntmps183 rfl fun w0 a S => ?_
  refine wp_sr fun Z hZ => ?_
  (refine wpl_box S rfl rfl rfl rfl rfl ?_; clear S a; intro b3 a w S)
  (refine wpl_box S rfl rfl rfl rfl rfl ?_; clear S a; intro b4 a w S)
  (refine wpl_box S rfl rfl rfl rfl rfl ?_; clear S a; intro b5 a w S)
  (revert S a; revert hZ Z; refine go11 15 ?_; intro Z hZ a S)
  refine wpc_sp S rfl ?_ ?_ <;> intro h
  · (revert S a; refine go00 7 ?_; intro a S)
    refine wp_ret (fr1 S Tryz.results183 ?_)
    exact zzDfA0
  (revert S a; refine go00 5 ?_; intro a S)
  refine wpc_sp S rfl ?_ ?_ <;> intro h
  · (revert S a; refine go00 7 ?_; intro a S)
    refine wp_ret (fr1 S Tryz.results183 ?_)
    exact zzDfA0
  (revert S a; refine go00 5 ?_; intro a S)
  refine wpc_sp S rfl ?_ ?_ <;> intro h
  · (revert S a; refine go00 7 ?_; intro a S)
    refine wp_ret (fr1 S Tryz.results183 ?_)
    exact zzDfA0
  (revert S a; refine go00 5 ?_; intro a S)
  refine wpc_sp S rfl ?_ ?_ <;> intro h
  · (revert S a; refine go00 7 ?_; intro a S)
    refine wp_ret (fr1 S Tryz.results183 ?_)
    exact zzDfA0
  (revert S a; refine go00 5 ?_; intro a S)
  refine wpc_sp S rfl ?_ ?_ <;> intro h
  · (revert S a; refine go01 5 ?_; intro Z hZ a S)
    refine wpl_guard S rfl rfl rfl rfl rfl ?_ ?_
    · (clear S; intro h S; (try simp only [tq] at h))
      (revert S a; refine go00 12 ?_; intro a S)
      (refine wpl_call0 S rfl rfl rfl rfl rfl rfl (eqVTCt F' L _ hL ar _ har 183 [.pointer (some ⟨tb, 0, none⟩)] [] (isT css) (fun k x y cs cs2 hx hy hV2 hT2 => by have h9 := Rose.size_get hx; exact ih F' x.1 x.2 y cs cs2 (by omega) hF hV2 hT2 (hth.2.get hy))) rfl ?_; clear S a; intro v a w hv S; subst hv)
      (revert S a; revert hZ Z; refine go10 4 ?_; intro a S)
      refine wp_ret (fr1 S Tryz.results183 ?_)
      exact zzDfA0
    (intro h; clear S a; intro a S; (try simp only [tq] at h))
    (revert S a; revert hZ Z; refine go10 10 ?_; intro a S)
    refine wp_ret (fr1 S Tryz.results183 ?_)
    exact zzDfA0
  refine wp_skip ?_
  (refine hZ _ _ ?_; clear hZ Z)
  (refine wp_seq_k ?_; intro Z hZ)
  (refine wpc_mixM [0, 1, 2, 3, 4, 5, 6, 7, 8, 9] [0, 3, 5, 6] [] (.one 0 (.one 1 (.one 2 (.one 3 (.one 4 (.one 5 (.one 6 (.one 7 (.one 8 (.one 9 (.one 10 (.one 11 (.one 12 .nil))))))))))))) [b3, b4] S mixed (by kernel_rfl) ?_; clear S; intro w S)
  (refine wpm_o b3 S rfl rfl rfl (want_none _ rfl) rfl rfl ?_; clear S a; intro a S)
  (refine wpm_s S rfl rfl rfl (want_none _ rfl) rfl rfl ?_; clear S a; intro a S)
  (refine wpm_f S rfl rfl rfl (want_none _ rfl) rfl rfl ?_; clear S a; intro a S)
  (refine wpm_lateF S rfl rfl rfl (want_none _ rfl) rfl rfl (fun w' S => sv_loadF S rfl rfl hcc) ?_; clear S a; intro a S)
  (refine wpm_f S rfl rfl rfl (want_none _ rfl) rfl rfl ?_; clear S a; intro a S)
  (refine wpm_o b4 S rfl rfl rfl (want_none _ rfl) rfl rfl ?_; clear S a; intro a S)
  (refine wpm_lateF S rfl rfl rfl (want_none _ rfl) rfl rfl (fun w' S => sv_lookupF (enc := kS) S rfl rfl rfl hes) ?_; clear S a; intro a S)
  (obtain ⟨y, ap, cp, ac, cc, hgd, hps, hfs, hy, his⟩ := get_kc hmm vh.s; rw [if_pos rfl, hgd, his] at S)
  iterate 3 (refine wpm_p S rfl rfl rfl (want_none _ rfl) rfl rfl ?_; clear S a; intro a S)
  refine wpm_eff rfl rfl (kwa S) ?_
  (refine wpl_alloc S rfl rfl rfl rfl ?_; clear S a; intro b7 a w S)
  refine wpList_nil ?_
  refine wpm_eff rfl rfl (kwa S) ?_
  (refine wpl_storeO S rfl rfl rfl rfl rfl (by rfl) (by simp [Value.cells, Value.oneCell', splice]) (by rfl) ?_; clear S; intro w S)
  refine wpList_nil ?_
  refine wpm_eff rfl rfl (kwa S) ?_
  (revert S a; refine go00 2 ?_; intro a S)
  (refine wpm_nil (kwa S) (hZ _ _ ?_); clear hZ Z; refine wp_seq_k fun Z hZ => ?_)
  (replace S : St _ _ _ _ _ F' [[(b7, .cells ⟨[.string (bs y.ty), .slice ap y.ps.length cp, .int .i64 y.pl, .slice ac y.fs.length cc]⟩ 207 (0, 0))], [(b5, .cells ⟨[.string (bs nm), .slice aa ar.len ca]⟩ 49 (0, 0))], [(b3, .cells ⟨[.pointer (some ⟨tb, 0, none⟩)]⟩ 52 (0, 0))], [(b4, .cells ⟨[.int .u8 (vh.k : Int), .int .i64 vh.n, .string (bs vh.s), .slice ao L.len cap]⟩ 26 (0, 0))]] _ _ := St.permI S 4 rfl [0, 1, 3, 2] (by decide); have hle1 := add_le (G1 := []) S; replace S := St.freeze (G1 := []) S; (try simp only [List.nil_append] at S hle1); have hb70 : Cel (F'.add [(b7, .cells ⟨[.string (bs y.ty), .slice ap y.ps.length cp, .int .i64 y.pl, .slice ac y.fs.length cc]⟩ 207 (0, 0))]) b7 0 (.string (bs y.ty)) := ⟨_, _, _, Heap.add_new (p := (b7, _)) (List.mem_singleton.2 rfl) (by simp), rfl⟩; have hb71 : Cel (F'.add [(b7, .cells ⟨[.string (bs y.ty), .slice ap y.ps.length cp, .int .i64 y.pl, .slice ac y.fs.length cc]⟩ 207 (0, 0))]) b7 1 (.slice ap y.ps.length cp) := ⟨_, _, _, Heap.add_new (p := (b7, _)) (List.mem_singleton.2 rfl) (by simp), rfl⟩; have hb73 : Cel (F'.add [(b7, .cells ⟨[.string (bs y.ty), .slice ap y.ps.length cp, .int .i64 y.pl, .slice ac y.fs.length cc]⟩ 207 (0, 0))]) b7 3 (.slice ac y.fs.length cc) := ⟨_, _, _, Heap.add_new (p := (b7, _)) (List.mem_singleton.2 rfl) (by simp), rfl⟩; generalize (F'.add [(b7, .cells ⟨[.string (bs y.ty), .slice ap y.ps.length cp, .int .i64 y.pl, .slice ac y.fs.length cc]⟩ 207 (0, 0))]) = F1 at S hle1 hb70 hb71 hb73; have hle2 := add_le (G1 := []) S; replace S := St.freeze (G1 := []) S; (try simp only [List.nil_append] at S hle2); have hb50 : Cel (F1.add [(b5, .cells ⟨[.string (bs nm), .slice aa ar.len ca]⟩ 49 (0, 0))]) b5 0 (.string (bs nm)) := ⟨_, _, _, Heap.add_new (p := (b5, _)) (List.mem_singleton.2 rfl) (by simp), rfl⟩; have hb51 : Cel (F1.add [(b5, .cells ⟨[.string (bs nm), .slice aa ar.len ca]⟩ 49 (0, 0))]) b5 1 (.slice aa ar.len ca) := ⟨_, _, _, Heap.add_new (p := (b5, _)) (List.mem_singleton.2 rfl) (by simp), rfl⟩; generalize (F1.add [(b5, .cells ⟨[.string (bs nm), .slice aa ar.len ca]⟩ 49 (0, 0))]) = F2 at S hle2 hb50 hb51; have hle3 := add_le (G1 := []) S; replace S := St.freeze (G1 := []) S; (try simp only [List.nil_append] at S hle3); have hb30 : Cel (F2.add [(b3, .cells ⟨[.pointer (some ⟨tb, 0, none⟩)]⟩ 52 (0, 0))]) b3 0 (ptr tb) := ⟨_, _, _, Heap.add_new (p := (b3, _)) (List.mem_singleton.2 rfl) (by simp), rfl⟩; generalize (F2.add [(b3, .cells ⟨[.pointer (some ⟨tb, 0, none⟩)]⟩ 52 (0, 0))]) = F3 at S hle3 hb30; replace hb70 := (hb70.mono hle2).mono hle3; replace hb71 := (hb71.mono hle2).mono hle3; replace hb73 := (hb73.mono hle2).mono hle3; replace hb50 := hb50.mono hle3; replace hb51 := hb51.mono hle3; have hle13 : ∀ b o, F' b = some o → F3 b = some o := (fun b o h => hle3 _ _ (hle2 _ _ (hle1 _ _ h))))
  (revert S a; refine go00 3 ?_; intro a S)
  refine wpl_guard S rfl rfl rfl rfl rfl ?_ ?_
  · (clear S; intro h S; (try simp only [tq] at h))
    (revert S a; refine go00 2 ?_; intro a S)
    (refine wpl_v S rfl rfl rfl (sv_loadF S rfl rfl hb70) ?_; clear S a; intro a S)
    (revert S a; refine go00 3 ?_; intro a S)
    (refine wpl_v S rfl rfl rfl (sv_loadF S rfl rfl hb50) ?_; clear S a; intro a S)
    (revert S a; refine go00 4 ?_; intro a S)
    refine wpl_guard S rfl rfl rfl rfl rfl ?_ ?_
    · (clear S; intro h S; (try simp only [tq] at h))
      (revert S a; refine go00 6 ?_; intro a S)
      (refine wpl_v S rfl rfl rfl (sv_loadF S rfl rfl hb73) ?_; clear S a; intro a S)
      (revert S a; refine go00 3 ?_; intro a S)
      (have hyc : findC css vh.s = some y := some_of hy (by assumption); refine wpl_call0 S rfl rfl rfl rfl rfl rfl (eqVDCt F3 L _ (hL.mono hle13) y.fs _ (hfs.mono hle13) 226 [] [.pointer (some ⟨b3, 0, none⟩), .pointer (some ⟨b7, 0, none⟩), .pointer (some ⟨b5, 0, none⟩)] (fun h L f => isT css h L (putT y.ps ar (f.tn, f.ta))) (fun k x f cs cs2 hx hf hV2 hR2 => by have h9 := Rose.size_get hx; exact is1Ct F tb css m ih F3 (fun b o h => hle13 _ _ (hF _ _ h)) b3 b7 b5 y.ps _ _ ar hb30 hb71 (hps.mono hle13) hb51 (har.mono hle13) hth.2 x.1 x.2 cs f cs2 (by omega) hV2 hR2 (hK y (findC_mem hyc) f (List.mem_of_getElem? hf)))) rfl ?_; clear S a; intro v a w hv S; subst hv)
      (revert S a; revert hZ Z; refine go10 4 ?_; intro a S)
      refine wp_ret (fr1 S Tryz.results183 ?_)
      exact zzDfA0
    (intro h; clear S a; intro a S; (try simp only [tq] at h))
    (revert S a; revert hZ Z; refine go10 9 ?_; intro a S)
    refine wp_ret (fr1 S Tryz.results183 ?_)
    exact zzDfA0
  (intro h; clear S a; intro a S; (try simp only [tq] at h))
  (revert S a; revert hZ Z; refine go10 16 ?_; intro a S)
  refine wp_ret (fr1 S Tryz.results183 ?_)
  exact zzDfA0
section
variable {P : Program} {n : Sz} {L : List (Nat × Value)} {w0 : World} {F0 : Heap} {K0 : List Nat} {F : Heap} {G : List Grp} {a : Act} {w : World} {o : Oper}
theorem sv_nePtr {x y : Operand} {t yt e : TypeId} {ad : Option Addr} [ht : Und P t (.pointer e)] (S : St n L w0 F0 K0 F G a w) (ho : o.op = .binOp .neq t x y yt) (hx : ev L x = some (.pointer ad)) (hy : ev L y = some (.pointer none)) : SV P o a w (.bool (!ad.isNone)) := by
  unfold SV execOp
  rw [ho]
  have h1 : (eqGuard .neq t x y (.pointer ad) (.pointer none)).run P w = .ok () w := rfl
  have hp : P.pointee t = e := by simp [Program.pointee, ht.h]
  have h2 := run_neq_pointer_nil (P := P) w t ad (by rw [hp]; exact ht.h)
  simp only [S.fr.eval hx, S.fr.eval hy, Sem.run_bind, h1, Result.andThen_ok, h2, Sem.run_pure]
end
theorem zzDfB0 {p : Prop} (h : p := by (congr 1; unfold wellT; first | (rw [decide_eq_true (by assumption), Bool.true_and]; done) | (rw [decide_eq_false (by assumption), Bool.false_and]; done) | trace_state)) : p := h
theorem wellUCt (F : Heap) (tb m1 m2 m3 : Nat) (ts : List TD) (css : List KC) (rs : List RD) (hT : TabS F tb m1 m2 m3 ts css rs) (t : Ty) (cs : List Value) (hsz : depthL t.2 ≤ 100000000) (h : TyC F cs t.1 t.2) :
    Ct Tryz.prog 72 [.pointer (some ⟨tb, 0, none⟩), .agg ⟨cs⟩] F [] (fun _ _ u => u = .bool (wellT ts t)) := by
 obtain ⟨nm, ar⟩ := t
 replace h : TyC F cs nm ar := h
 have h0 := h
 obtain ⟨v, rfl, hs⟩ := h
 obtain ⟨ao, cap, rfl, hcap, -⟩ := hs
 refine Ct.enter Tryz.func72 rfl Tryz.ntmps72 rfl fun w0 a S => ?_
 refine wp_sr fun Z hZ => ?_
 (refine wpl_box S rfl rfl rfl rfl rfl ?_; clear S a; intro b3 a w S)
 (revert S a; revert hZ Z; refine go11 5 ?_; intro Z hZ a S)
 (refine wpl_v S rfl rfl rfl (sv_lit (c := true) (sv_nePtr S rfl rfl rfl) (by rfl)) ?_; clear S a; intro a S)
 (revert S a; refine go00 6 ?_; intro a S)
 (refine wpl_call0 S rfl rfl rfl rfl rfl rfl (useCt F tb m1 ts hT.ty nm ar _ hsz h0) rfl ?_; clear S a; intro v a w hv S; subst hv)
 (revert S a; refine go00 4 ?_; intro a S)
 refine wpl_guard S rfl rfl rfl rfl rfl ?_ ?_
 ·(clear S; intro h S; (try simp only [tq] at h))
  (revert S a; refine go00 2 ?_; intro a S)
  (refine wpl_call0 S rfl rfl rfl rfl rfl rfl (openCt F nm ar _ h0) rfl ?_; clear S a; intro v a w hv S; subst hv)
  (revert S a; revert hZ Z; refine go10 6 ?_; intro a S)
  refine wp_ret (fr1 S Tryz.results72 ?_)
  exact zzDfB0
 (intro h; clear S a; intro a S; (try simp only [tq] at h))
 (revert S a; revert hZ Z; refine go10 6 ?_; intro a S)
 refine wp_ret (fr1 S Tryz.results72 ?_)
 exact zzDfB0
theorem zzDfB1 {p : Prop} (h : p := by (congr 1; unfold isF; first | (rw [(by assumption : wellT ts t = true), Bool.true_and]; first | (rw [decide_eq_true (by assumption), Bool.true_and]; done) | (rw [decide_eq_false (by assumption), Bool.false_and]; done)) | (rw [(by assumption : wellT ts t = false), Bool.false_and]; done) | trace_state)) : p := h
theorem isUCt (F : Heap) (tb m1 m2 m3 : Nat) (ts : List TD) (css : List KC) (rs : List RD) (hT : TabS F tb m1 m2 m3 ts css rs) (hK : KThin css) (vh : VH) (L : Vf) (cs : List Value) (hV : VaC F cs vh L) (t : Ty) (cs2 : List Value) (hsz : depthL t.2 ≤ 100000000) (hth : ThinT t) (h : TyC F cs2 t.1 t.2) :
    Ct Tryz.prog 127 [.pointer (some ⟨tb, 0, none⟩), .agg ⟨cs⟩, .agg ⟨cs2⟩] F [] (fun _ _ u => u = .bool (isF ts css vh L t)) := by
 have hV0 := hV
 obtain ⟨v, rfl, hL, hsb⟩ := hV
 have hLc := hL
 obtain ⟨ao, cap, rfl, hcap, -⟩ := hLc
 have h0 := h
 obtain ⟨v2, rfl, har⟩ := h
 have harc := har
 obtain ⟨aa, ca, rfl, -, -⟩ := harc
 refine Ct.enter Tryz.func127 rfl Tryz.ntmps127 rfl fun w0 a S => ?_
 refine wp_sr fun Z hZ => ?_
 (refine wpl_box S rfl rfl rfl rfl rfl ?_; clear S a; intro b4 a w S)
 (refine wpl_box S rfl rfl rfl rfl rfl ?_; clear S a; intro b5 a w S)
 (revert S a; revert hZ Z; refine go11 6 ?_; intro Z hZ a S)
 (refine wpl_call0 S rfl rfl rfl rfl rfl rfl (wellUCt F tb m1 m2 m3 ts css rs hT t _ hsz h0) rfl ?_; clear S a; intro v a w hv S; subst hv)
 (revert S a; refine go00 1 ?_; intro a S)
 refine wpl_guard S rfl rfl rfl rfl rfl ?_ ?_
 ·(clear S; intro h S; (try simp only [tq] at h))
  (revert S a; refine go00 2 ?_; intro a S)
  (refine wpl_call0 S rfl rfl rfl rfl rfl rfl (checkUCt F vh L _ hV0) rfl ?_; clear S a; intro v a w hv S; subst hv)
  (revert S a; refine go00 4 ?_; intro a S)
  refine wpl_guard S rfl rfl rfl rfl rfl ?_ ?_
  ·(clear S; intro h S; (try simp only [tq] at h))
   (revert S a; refine go00 6 ?_; intro a S)
   (refine wpl_call0 S rfl rfl rfl rfl rfl rfl (isDCt F tb m1 m2 m3 ts css rs hT hK (L.size + 1) F vh L t _ _ (Nat.lt_succ_self _) (fun _ _ h => h) hV0 h0 hth) rfl ?_; clear S a; intro v a w hv S; subst hv)
   (revert S a; revert hZ Z; refine go10 4 ?_; intro a S)
   refine wp_ret (fr1 S Tryz.results127 ?_)
   exact zzDfB1
  (intro h; clear S a; intro a S; (try simp only [tq] at h))
  (revert S a; revert hZ Z; refine go10 7 ?_; intro a S)
  refine wp_ret (fr1 S Tryz.results127 ?_)
  exact zzDfB1
 (intro h; clear S a; intro a S; (try simp only [tq] at h))
 (revert S a; revert hZ Z; refine go10 12 ?_; intro a S)
 refine wp_ret (fr1 S Tryz.results127 ?_)
 exact zzDfB1
def SlN (n : Nat) (u : Value) : Prop := ∃ ao c, u = .slice ao n c
theorem cloneS0 (F : Heap) (v : Value) (l : List (List UInt8)) (h : LiM F 1 StR v l) (hl : l.length ≤ 1000000) : Ct Tryz.prog 48 [v] F [] (fun _ _ u => SlN l.length u) :=
  Ct.mono (cloneSCt F v l h hl) fun F' G' u ⟨g, xs, _, h1, _⟩ => by obtain ⟨a, c, h2, _⟩ := h1.at; exact ⟨a, c, h2⟩
def KSz (css : List KC) : Prop := ∀ c ∈ css, c.ps.length ≤ 1000000 ∧ c.fs.length ≤ 1000000 ∧ FThin c.fs
theorem KSz.of {css : List KC} {s : List UInt8} {x : KC} (hK : KSz css) (h : findC css s = some x ∨ findC css s = none ∧ x = zKC) : x.ps.length ≤ 1000000 ∧ x.fs.length ≤ 1000000 ∧ FThin x.fs := by
  rcases h with h | ⟨-, rfl⟩
  · exact hK x (findC_mem h)
  · exact ⟨Nat.zero_le _, Nat.zero_le _, fun y hy => by cases hy⟩
theorem TSz.of {ts : List TD} {s : List UInt8} {x : TD} (hK : TSz ts) (h : findT ts s = some x ∨ findT ts s = none ∧ x = zTD) : x.cs.length ≤ 1000000 ∧ x.ps.length ≤ 1000000 ∧ ∀ c ∈ x.cs, FSz c.fs ∧ c.fs.length ≤ 1000000 := by
  rcases h with h | ⟨-, rfl⟩
  · exact hK x (List.mem_of_find?_eq_some h)
  · exact ⟨Nat.zero_le _, Nat.zero_le _, fun y hy => by cases hy⟩
end Go.Proofs.YthnafdbebniapaaGreatDoor
namespace Go.Wk
open Go
set_option linter.unusedVariables false
theorem tr_add_le {w0 : World} {F0 : Heap} {K0 : List Nat} {w : World} {F : Heap} {g : Grp} (h : Tr w0 F0 K0 w F ([] ++ g :: [])) : ∀ b o, F b = some o → F.add g b = some o := fun b o e => by
  rw [Heap.add_none (fun hm => ?_)]
  · exact e
  · obtain ⟨p, hp, rfl⟩ := List.mem_map.1 hm
    have := (h.own p (by simp only [List.nil_append, List.flatten_cons]; exact List.mem_append_left _ hp)).2.1
    rw [this] at e; cases e
theorem ct_frz {P : Program} {f : FuncId} {args : List Value} {F : Heap} {Post : Heap → Grp → Value → Prop} {Post' : Heap → Value → Prop} (h : Ct P f args F [] (fun F' G' u => ∃ g, G' = [g] ∧ Post F' g u)) (hp : ∀ F' g u, (∀ b o, F' b = some o → F'.add g b = some o) → Post F' g u → Post' (F'.add g) u) : Ct P f args F [] (fun F' _ u => Post' F' u) := by
  intro w hw
  refine (h w hw).mono fun e w' ⟨v, F', G', h1, h2, g, h3, h4⟩ => ?_
  subst h3
  have h2' : Tr w F (keys []) w' F' ([] ++ g :: []) := h2
  have hle : ∀ b o, F' b = some o → F'.add g b = some o := tr_add_le h2'
  exact ⟨v, F'.add g, [], h1, h2'.freeze, hp F' g v hle h4⟩
theorem ct_le {P : Program} {f : FuncId} {args : List Value} {F : Heap} {G : List Grp} {Post : Heap → List Grp → Value → Prop} (h : Ct P f args F G Post) : Ct P f args F G (fun F' G' u => Post F' G' u ∧ ∀ b o, F b = some o → F' b = some o) := fun w hw =>
  (h w hw).mono fun _ _ ⟨v, F', G', h1, h2, h3⟩ => ⟨v, F', G', h1, h2, h3, h2.ext⟩
end Go.Wk
