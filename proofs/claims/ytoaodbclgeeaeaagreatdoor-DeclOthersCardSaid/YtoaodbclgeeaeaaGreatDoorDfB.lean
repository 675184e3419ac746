/- Walks: Well, Is, Row. -/
import Derived.Test.YtoaodbclgeeaeaaGreatDoorDfA
namespace Go.Proofs.YtoaodbclgeeaeaaGreatDoor
open Go Go.Wk Go.Un Go.De
set_option linter.unusedSimpArgs false
set_option linter.unusedVariables false
attribute [local irreducible] Go.wpList Go.Code.wp Go.wpStill Go.Wk.wpPre Go.bodyPost Go.Calls Go.Wk.Ct Go.Wk.OwnS
attribute [local irreducible] Go.Wk.wpG Go.Wk.wpM

section
variable {P : Program} {n : Sz} {L : List (Nat × Value)} {w0 : World} {F0 : Heap} {K0 : List Nat} {F : Heap} {G : List Grp} {a : Act} {w : World} {o : Oper}
theorem sv_nePtr {x y : Operand} {t yt e : TypeId} {ad : Option Addr} [ht : Und P t (.pointer e)] (S : St n L w0 F0 K0 F G a w) (ho : o.op = .binOp .neq t x y yt) (hx : ev L x = some (.pointer ad)) (hy : ev L y = some (.pointer none)) : SV P o a w (.bool (!ad.isNone)) := by
  unfold SV execOp
  rw [ho]
  have h1 : (eqGuard .neq t x y (.pointer ad) (.pointer none)).run P w = .ok () w := rfl
  have hp : P.pointee t = e := by simp [Program.pointee, ht.h]
  have h2 := run_neq_pointer_nil (P := P) w t ad (by rw [hp]; exact ht.h)
  simp only [S.fr.eval hx, S.fr.eval hy, Sem.run_bind, h1, Result.andThen_ok, h2, Sem.run_pure]
end
theorem beqZ (e : Int) : (e == 0) = decide (e = 0) := by rw [Bool.eq_iff_iff, beq_iff_eq, decide_eq_true_eq]
theorem wellCt (F : Heap) (tb m1 m2 m3 : Nat) (ts : List TD) (css : List KC) (rs : List RD) (hT : TabS F tb m1 m2 m3 ts css rs) (t : Ty) (cs : List Value) (hsz : t.2.size ≤ 1000000) (h : TyC F cs t.1 t.2) :
    Ct Tryz.prog 21 [.pointer (some ⟨tb, 0, none⟩), .agg ⟨cs⟩] F [] (fun _ _ u => u = .bool (wellT ts t)) := by
  obtain ⟨nm, ar⟩ := t
  replace h : TyC F cs nm ar := h
  have h0 := h
  obtain ⟨v, rfl, hs⟩ := h
  obtain ⟨ao, cap, rfl, hcap, -⟩ := hs
  refine Ct.enter Tryz.func21 rfl Tryz.ntmps21 rfl fun w0 a S => ?_
  refine wp_sr fun Kq1 hKq1 => ?_
  (refine wpl_bx S ?_; clear S a; intro b3 a w S)
  (refine wpl_p S ?_; clear S a; intro a S)
  (refine wpList_nil (hKq1 _ _ (wp_sr fun Kq2 hKq2 => ?_)); try clear hKq1 Kq1)
  (refine wpl_p S ?_; clear S a; intro a S)
  (refine wpl_v S rfl rfl rfl (sv_lit (c := true) (sv_nePtr S rfl rfl rfl) (by rfl)) ?_; clear S a; intro a S)
  (refine wpl_p S ?_; clear S a; intro a S)
  refine wpl_take S rfl rfl rfl ?_
  (refine wpl_p S ?_; clear S a; intro a S)
  refine wpl_take S rfl rfl rfl ?_
  (refine wpl_l S ?_; clear S a; intro a S)
  refine wpl_take S rfl rfl rfl ?_
  (refine wpl_c0 S (useCt F tb m1 ts hT.ty nm ar _ hsz h0) ?_; clear S a; intro v a w hv S; subst hv)
  refine wpl_take S rfl rfl rfl ?_
  iterate 3 (refine wpl_p S ?_; clear S a; intro a S)
  refine wpl_guard S rfl rfl rfl rfl rfl ?_ ?_
  · (intro h S'; clear S; have S := S'; clear S'; (try simp only [tq] at h))
    (refine wpl_l S ?_; clear S a; intro a S)
    refine wpl_take S rfl rfl rfl ?_
    (refine wpl_c0 S (openCt F nm ar _ h0) ?_; clear S a; intro v a w hv S; subst hv)
    refine wpl_take S rfl rfl rfl ?_
    iterate 3 (refine wpl_p S ?_; clear S a; intro a S)
    (refine wpList_nil (hKq2 _ _ ?_); try clear hKq2 Kq2)
    refine wp_ret (fin_ret S (results1 Tryz.results21 (RV.tmp S rfl)) ?_)
    (congr 1; unfold wellT; first | (rw [decide_eq_true (by assumption), Bool.true_and]; done) | (rw [decide_eq_false (by assumption), Bool.false_and]; done) | trace_state)
  (intro h; clear S a; intro a S; (try simp only [tq] at h))
  iterate 2 (refine wpl_k S ?_; clear S a; intro a S)
  iterate 2 (refine wpl_p S ?_; clear S a; intro a S)
  (refine wpList_nil (hKq2 _ _ ?_); try clear hKq2 Kq2)
  refine wp_ret (fin_ret S (results1 Tryz.results21 (RV.tmp S rfl)) ?_)
  (congr 1; unfold wellT; first | (rw [decide_eq_true (by assumption), Bool.true_and]; done) | (rw [decide_eq_false (by assumption), Bool.false_and]; done) | trace_state)
theorem well0Ct (F : Heap) (cs : List Value) (nm : List UInt8) (ar : Fo) (h : TyC F cs nm ar) : Ct Tryz.prog 21 [.pointer none, .agg ⟨cs⟩] F [] (fun _ _ u => u = .bool false) := by
  have h0 := h
  obtain ⟨v, rfl, hs⟩ := h
  obtain ⟨ao, cap, rfl, hcap, -⟩ := hs
  refine Ct.enter Tryz.func21 rfl Tryz.ntmps21 rfl fun w0 a S => ?_
  refine wp_sr fun Kq1 hKq1 => ?_
  (refine wpl_bx S ?_; clear S a; intro b3 a w S)
  (refine wpl_p S ?_; clear S a; intro a S)
  (refine wpList_nil (hKq1 _ _ (wp_sr fun Kq2 hKq2 => ?_)); try clear hKq1 Kq1)
  (refine wpl_p S ?_; clear S a; intro a S)
  (refine wpl_v S rfl rfl rfl (sv_lit (c := false) (sv_nePtr S rfl rfl rfl) (by rfl)) ?_; clear S a; intro a S)
  (refine wpl_p S ?_; clear S a; intro a S)
  iterate 4 (refine wpl_k S ?_; clear S a; intro a S)
  iterate 2 (refine wpl_p S ?_; clear S a; intro a S)
  iterate 3 (refine wpl_k S ?_; clear S a; intro a S)
  iterate 2 (refine wpl_p S ?_; clear S a; intro a S)
  (refine wpList_nil (hKq2 _ _ ?_); try clear hKq2 Kq2)
  exact wp_ret (fin_ret S (results1 Tryz.results21 (RV.tmp S rfl)) rfl)
theorem isCt (F : Heap) (tb m1 m2 m3 : Nat) (ts : List TD) (css : List KC) (rs : List RD) (hT : TabS F tb m1 m2 m3 ts css rs) (hK : KThin css) (vh : VH) (L : Vf) (hb : L.size ≤ 1000000000) (cs : List Value) (hV : VaC F cs vh L) (t : Ty) (cs2 : List Value) (hsz : t.2.size ≤ 1000000) (h : TyC F cs2 t.1 t.2) :
    Ct Tryz.prog 15 [.pointer (some ⟨tb, 0, none⟩), .agg ⟨cs⟩, .agg ⟨cs2⟩] F [] (fun _ _ u => u = .bool (isF ts css vh L t)) := by
  have hV0 := hV
  obtain ⟨v, rfl, hL, hsb⟩ := hV
  have hLc := hL
  obtain ⟨ao, cap, rfl, hcap, -⟩ := hLc
  have h0 := h
  obtain ⟨v2, rfl, har⟩ := h
  have harc := har
  obtain ⟨aa, ca, rfl, -, -⟩ := harc
  refine Ct.enter Tryz.func15 rfl Tryz.ntmps15 rfl fun w0 a S => ?_
  refine wp_sr fun Kq1 hKq1 => ?_
  (refine wpl_bx S ?_; clear S a; intro b4 a w S)
  (refine wpl_bx S ?_; clear S a; intro b5 a w S)
  (refine wpl_p S ?_; clear S a; intro a S)
  (refine wpList_nil (hKq1 _ _ (wp_sr fun Kq2 hKq2 => ?_)); try clear hKq1 Kq1)
  (refine wpl_p S ?_; clear S a; intro a S)
  (refine wpl_l S ?_; clear S a; intro a S)
  (refine wpl_c0 S (wellCt F tb m1 m2 m3 ts css rs hT t _ hsz h0) ?_; clear S a; intro v a w hv S; subst hv)
  (refine wpl_p S ?_; clear S a; intro a S)
  refine wpl_guard S rfl rfl rfl rfl rfl ?_ ?_
  · (intro h S'; clear S; have S := S'; clear S'; (try simp only [tq] at h))
    (refine wpl_l S ?_; clear S a; intro a S)
    refine wpl_take S rfl rfl rfl ?_
    (refine wpl_c0 S (checkCt F vh L _ hb hV0) ?_; clear S a; intro v a w hv S; subst hv)
    refine wpl_take S rfl rfl rfl ?_
    iterate 3 (refine wpl_p S ?_; clear S a; intro a S)
    refine wpl_guard S rfl rfl rfl rfl rfl ?_ ?_
    · (intro h S'; clear S; have S := S'; clear S'; (try simp only [tq] at h))
      (refine wpl_p S ?_; clear S a; intro a S)
      refine wpl_take S rfl rfl rfl ?_
      (refine wpl_l S ?_; clear S a; intro a S)
      refine wpl_take S rfl rfl rfl ?_
      (refine wpl_l S ?_; clear S a; intro a S)
      refine wpl_take S rfl rfl rfl ?_
      (refine wpl_c0 S (isDCt F tb m1 m2 m3 ts css rs hT hK (L.size + 1) F vh L t _ _ (Nat.lt_succ_self _) (fun _ _ h => h) hV0 h0 (thinT_size hsz)) ?_; clear S a; intro v a w hv S; subst hv)
      iterate 2 (refine wpl_p S ?_; clear S a; intro a S)
      (refine wpList_nil (hKq2 _ _ ?_); try clear hKq2 Kq2)
      refine wp_ret (fin_ret S (results1 Tryz.results15 (RV.tmp S rfl)) ?_)
      (congr 1; unfold isF; first | (rw [(by assumption : wellT ts t = true), Bool.true_and]; first | (rw [decide_eq_true (by assumption), Bool.true_and]; done) | (rw [decide_eq_false (by assumption), Bool.false_and]; done)) | (rw [(by assumption : wellT ts t = false), Bool.false_and]; done) | trace_state)
    (intro h; clear S a; intro a S; (try simp only [tq] at h))
    iterate 3 (refine wpl_k S ?_; clear S a; intro a S)
    iterate 2 (refine wpl_p S ?_; clear S a; intro a S)
    (refine wpList_nil (hKq2 _ _ ?_); try clear hKq2 Kq2)
    refine wp_ret (fin_ret S (results1 Tryz.results15 (RV.tmp S rfl)) ?_)
    (congr 1; unfold isF; first | (rw [(by assumption : wellT ts t = true), Bool.true_and]; first | (rw [decide_eq_true (by assumption), Bool.true_and]; done) | (rw [decide_eq_false (by assumption), Bool.false_and]; done)) | (rw [(by assumption : wellT ts t = false), Bool.false_and]; done) | trace_state)
  (intro h; clear S a; intro a S; (try simp only [tq] at h))
  iterate 2 (refine wpl_k S ?_; clear S a; intro a S)
  iterate 2 (refine wpl_p S ?_; clear S a; intro a S)
  iterate 4 (refine wpl_k S ?_; clear S a; intro a S)
  iterate 2 (refine wpl_p S ?_; clear S a; intro a S)
  (refine wpList_nil (hKq2 _ _ ?_); try clear hKq2 Kq2)
  refine wp_ret (fin_ret S (results1 Tryz.results15 (RV.tmp S rfl)) ?_)
  (congr 1; unfold isF; first | (rw [(by assumption : wellT ts t = true), Bool.true_and]; first | (rw [decide_eq_true (by assumption), Bool.true_and]; done) | (rw [decide_eq_false (by assumption), Bool.false_and]; done)) | (rw [(by assumption : wellT ts t = false), Bool.false_and]; done) | trace_state)
theorem is0Ct (F : Heap) (vh : VH) (L : Vf) (cs : List Value) (hV : VaC F cs vh L) (nm : List UInt8) (ar : Fo) (cs2 : List Value) (h : TyC F cs2 nm ar) : Ct Tryz.prog 15 [.pointer none, .agg ⟨cs⟩, .agg ⟨cs2⟩] F [] (fun _ _ u => u = .bool false) := by
  have hV0 := hV
  obtain ⟨v, rfl, hL, hsb⟩ := hV
  have hLc := hL
  obtain ⟨ao, cap, rfl, hcap, -⟩ := hLc
  have h0 := h
  obtain ⟨v2, rfl, har⟩ := h
  have harc := har
  obtain ⟨aa, ca, rfl, -, -⟩ := harc
  refine Ct.enter Tryz.func15 rfl Tryz.ntmps15 rfl fun w0 a S => ?_
  refine wp_sr fun Kq1 hKq1 => ?_
  (refine wpl_bx S ?_; clear S a; intro b4 a w S)
  (refine wpl_bx S ?_; clear S a; intro b5 a w S)
  (refine wpl_p S ?_; clear S a; intro a S)
  (refine wpList_nil (hKq1 _ _ (wp_sr fun Kq2 hKq2 => ?_)); try clear hKq1 Kq1)
  (refine wpl_p S ?_; clear S a; intro a S)
  (refine wpl_l S ?_; clear S a; intro a S)
  (refine wpl_c0 S (well0Ct F _ nm ar h0) ?_; clear S a; intro v a w hv S; subst hv)
  (refine wpl_p S ?_; clear S a; intro a S)
  iterate 3 (refine wpl_k S ?_; clear S a; intro a S)
  iterate 2 (refine wpl_p S ?_; clear S a; intro a S)
  iterate 4 (refine wpl_k S ?_; clear S a; intro a S)
  iterate 2 (refine wpl_p S ?_; clear S a; intro a S)
  (refine wpList_nil (hKq2 _ _ ?_); try clear hKq2 Kq2)
  exact wp_ret (fin_ret S (results1 Tryz.results15 (RV.tmp S rfl)) rfl)
theorem row1Ct (F : Heap) (tb m1 m2 m3 bt : Nat) (ts : List TD) (css : List KC) (rs : List RD) (hT : TabS F tb m1 m2 m3 ts css rs) (hK : KThin css) (hbt : Cel F bt 0 (ptr tb)) (vh : VH) (L : Vf) (hb : L.size ≤ 1000000000) (cs : List Value) (hV : VaC F cs vh L) (f : FD) (cs2 : List Value) (hsz : f.ta.size ≤ 1000000) (hR : FdR F f cs2) :
    Ct Tryz.prog 46 ([] ++ [.agg ⟨cs⟩, .agg ⟨cs2⟩] ++ [.pointer (some ⟨bt, 0, none⟩)]) F [] (fun _ _ u => u = .bool (isF ts css vh L (f.tn, f.ta))) := by
  have hV0 := hV
  obtain ⟨v, rfl, hL, hsb⟩ := hV
  have hLc := hL
  obtain ⟨ao, cap, rfl, hcap, -⟩ := hLc
  obtain ⟨v2, rfl, har⟩ := hR
  have har0 := har
  obtain ⟨aa, ca, rfl, -, -⟩ := har
  refine Ct.enter Tryz.func46 rfl Tryz.ntmps46 rfl fun w0 a S => ?_
  refine wp_sr fun Kq1 hKq1 => ?_
  (refine wpl_bx S ?_; clear S a; intro b3 a w S)
  (refine wpl_bx S ?_; clear S a; intro b4 a w S)
  (refine wpl_p S ?_; clear S a; intro a S)
  (refine wpList_nil (hKq1 _ _ (wp_sr fun Kq2 hKq2 => ?_)); try clear hKq1 Kq1)
  (refine wpl_v S rfl rfl rfl (sv_loadF S rfl rfl hbt) ?_; clear S a; intro a S)
  (refine wpl_l S ?_; clear S a; intro a S)
  (refine wpl_f S ?_; clear S a; intro a S)
  (refine wpl_l S ?_; clear S a; intro a S)
  (refine wpl_c0 S (isCt F tb m1 m2 m3 ts css rs hT hK vh L hb _ hV0 (f.tn, f.ta) _ hsz ⟨_, rfl, har0⟩) ?_; clear S a; intro v a w hv S; subst hv)
  (refine wpl_p S ?_; clear S a; intro a S)
  (refine wpList_nil (hKq2 _ _ ?_); try clear hKq2 Kq2)
  exact wp_ret (fin_ret S (results1 Tryz.results46 (RV.tmp S rfl)) rfl)
theorem row0Ct (F : Heap) (s : List UInt8) (v : Value) (L : Vf) (hL : TrS F 4 VhR v L) : Ct Tryz.prog 22 [.pointer none, .string (bs s), v] F [] (fun _ _ u => u = .int .i64 63) := by
  obtain ⟨ao, cap, rfl, hcap, -⟩ := hL
  refine Ct.enter Tryz.func22 rfl Tryz.ntmps22 rfl fun w0 a S => ?_
  refine wp_sr fun Kq1 hKq1 => ?_
  (refine wpl_bx S ?_; clear S a; intro b3 a w S)
  (refine wpl_p S ?_; clear S a; intro a S)
  (refine wpList_nil (hKq1 _ _ (wp_seq_k fun Kq2 hKq2 => ?_)); try clear hKq1 Kq1)
  refine wp_sr fun Kq3 hKq3 => ?_
  (refine wpl_l S ?_; clear S a; intro a S)
  (refine wpl_v S rfl rfl rfl (sv_lit (c := true) (sv_eqPtrNil S rfl rfl rfl) (by rfl)) ?_; clear S a; intro a S)
  (refine wpList_nil (hKq3 _ _ ?_); try clear hKq3 Kq3)
  refine wpc_true S rfl ?_
  refine wp_sr fun Kq4 hKq4 => ?_
  (refine wpl_p S ?_; clear S a; intro a S)
  (refine wpList_nil (hKq4 _ _ ?_); try clear hKq4 Kq4)
  exact wp_ret (fin_ret S (results1 Tryz.results22 (RV.tmp S rfl)) rfl)
theorem rowE_0 {ts : List TD} {css : List KC} {rs : List RD} {s : List UInt8} {L : Vf} (h : findR rs s = none) : rowE ts css rs s L = 63 := by unfold rowE; rw [h]
theorem rowE_s {ts : List TD} {css : List KC} {rs : List RD} {s : List UInt8} {L : Vf} {r : RD} (h : findR rs s = some r) : rowE ts css rs s L = if eq2 (fun h L (f : FD) => isF ts css h L (f.tn, f.ta)) L r.fs = false then 70 else 0 := by unfold rowE; rw [h]
set_option maxHeartbeats 4000000 in
theorem rowCt (F : Heap) (tb m1 m2 m3 : Nat) (ts : List TD) (css : List KC) (rs : List RD) (hT : TabS F tb m1 m2 m3 ts css rs) (hK : KThin css) (hR : ∀ r ∈ rs, FSz r.fs) (s : List UInt8) (L : Vf) (hb : L.size ≤ 1000000000) (v : Value) (hL : TrS F 4 VhR v L) :
    Ct Tryz.prog 22 [.pointer (some ⟨tb, 0, none⟩), .string (bs s), v] F [] (fun _ _ u => u = .int .i64 (rowE ts css rs s L)) := by
  have hLc := hL
  obtain ⟨ao, cap, rfl, hcap, -⟩ := hLc
  have hcc : Cel F tb 2 (.map (some m3)) := hT.c 2 _ rfl
  obtain ⟨es, hes, hmm⟩ := hT.r
  refine Ct.enter Tryz.func22 rfl Tryz.ntmps22 rfl fun w0 a S => ?_
  refine wp_sr fun Kq1 hKq1 => ?_
  (refine wpl_bx S ?_; clear S a; intro b3 a w S)
  (refine wpl_p S ?_; clear S a; intro a S)
  (refine wpList_nil (hKq1 _ _ (wp_seq_k fun Kq2 hKq2 => ?_)); try clear hKq1 Kq1)
  refine wp_sr fun Kq3 hKq3 => ?_
  (refine wpl_l S ?_; clear S a; intro a S)
  (refine wpl_v S rfl rfl rfl (sv_lit (c := false) (sv_eqPtrSome S rfl rfl rfl) (by rfl)) ?_; clear S a; intro a S)
  (refine wpList_nil (hKq3 _ _ ?_); try clear hKq3 Kq3)
  refine wpc_false S rfl ?_
  refine wp_skip ?_
  (refine hKq2 _ _ ?_; try (clear hKq2 Kq2))
  refine wp_sr fun Kq4 hKq4 => ?_
  (refine wpl_l S ?_; clear S a; intro a S)
  (refine wpl_s S ?_; clear S a; intro a S)
  (refine wpl_f S ?_; clear S a; intro a S)
  (refine wpl_v S rfl rfl rfl (sv_loadF S rfl rfl hcc) ?_; clear S a; intro a S)
  (refine wpl_p S ?_; clear S a; intro a S)
  (refine wpl_v S rfl rfl rfl (sv_lookupF (enc := kS) S rfl rfl rfl hes) ?_; clear S a; intro a S)
  (obtain ⟨y, ac, cc, hgd, hfs, hy, his⟩ := get_rd hmm s; rw [if_pos rfl, hgd, his] at S)
  iterate 3 (refine wpl_p S ?_; clear S a; intro a S)
  (refine wpl_al S ?_; clear S a; intro b7 a w S)
  (refine wpl_storeO S rfl rfl rfl rfl rfl (by rfl) (by simp [Value.cells, Value.oneCell', splice]) (by rfl) ?_; clear S; intro w S)
  (refine wpl_p S ?_; clear S a; intro a S)
  (refine wpList_nil (hKq4 _ _ (wp_seq_k fun Kq5 hKq5 => ?_)); try clear hKq4 Kq4)
  refine wp_block ?_
  refine wp_sr fun Kq6 hKq6 => ?_
  iterate 3 (refine wpl_p S ?_; clear S a; intro a S)
  (refine wpList_nil (hKq6 _ _ ?_); try clear hKq6 Kq6)
  refine wpc_split S rfl (fun h => ?_) (fun h => ?_)
  · (skip; (try simp only [tq] at h))
    refine wp_sr fun Kq7 hKq7 => ?_
    (refine wpl_p S ?_; clear S a; intro a S)
    (refine wpList_nil (hKq7 _ _ ?_); try clear hKq7 Kq7)
    refine wp_ret (fin_ret S (results1 Tryz.results22 (RV.tmp S rfl)) ?_)
    (congr 1; first | (rw [rowE_0 (none_of (by assumption))]; done) | (rw [rowE_s hyr, if_pos (by assumption)]; done) | (rw [rowE_s hyr, if_neg (by rw [(by assumption : eq2 (fun h L (f : FD) => isF ts css h L (f.tn, f.ta)) L y.fs = true)]; decide)]; done) | trace_state)
  (skip; (try simp only [tq] at h))
  (refine wp_seq_k ?_; intro Kq7 hKq7)
  (have hyr : findR rs s = some y := some_of hy (by assumption); replace S : St _ _ _ _ _ F [[(b3, .cells ⟨[.pointer (some ⟨tb, 0, none⟩)]⟩ 43 (0, 0))], [(b7, .cells ⟨[.int .i64 y.l, .int .i64 y.c, .bool y.pub, .bool y.inp, .string (bs y.nm), .slice ac y.fs.length cc]⟩ 60 (0, 0))]] _ _ := St.permI S 2 rfl [1, 0] (by decide); have hle1 := add_le (G1 := []) S; replace S := St.freeze (G1 := []) S; (try simp only [List.nil_append] at S hle1); have hb3 : Cel (F.add [(b3, .cells ⟨[.pointer (some ⟨tb, 0, none⟩)]⟩ 43 (0, 0))]) b3 0 (ptr tb) := ⟨_, _, _, Heap.add_new (p := (b3, _)) (List.mem_singleton.2 rfl) (by simp), rfl⟩; generalize (F.add [(b3, .cells ⟨[.pointer (some ⟨tb, 0, none⟩)]⟩ 43 (0, 0))]) = F1 at S hle1 hb3)
  refine wp_region_lit ?_
  (refine wpl_p S ?_; clear S a; intro a S)
  (refine wpl_f S ?_; clear S a; intro a S)
  (refine wpl_l S ?_; clear S a; intro a S)
  (refine wpl_p S ?_; clear S a; intro a S)
  (refine wpl_c0 S (eqVDCt F1 L _ (hL.mono hle1) y.fs _ (hfs.mono hle1) 46 [] [.pointer (some ⟨b3, 0, none⟩)] (fun h L f => isF ts css h L (f.tn, f.ta)) (fun k x f cs cs2 hx hf hV2 hR2 => by have h9 := Rose.size_get hx; exact row1Ct F1 tb m1 m2 m3 b3 ts css rs (hT.mono hle1) hK hb3 x.1 x.2 (by omega) cs hV2 f cs2 (hR y (List.mem_of_find?_eq_some hyr) f (List.mem_of_getElem? hf)) hR2)) ?_; clear S a; intro v a w hv S; subst hv)
  iterate 2 (refine wpl_p S ?_; clear S a; intro a S)
  (refine wpList_nil (hKq7 _ _ ?_); try clear hKq7 Kq7)
  refine wpc_split S rfl (fun h => ?_) (fun h => ?_)
  · (skip; (try simp only [tq] at h))
    refine wp_sr fun Kq8 hKq8 => ?_
    (refine wpl_p S ?_; clear S a; intro a S)
    (refine wpList_nil (hKq8 _ _ ?_); try clear hKq8 Kq8)
    refine wp_ret (fin_ret S (results1 Tryz.results22 (RV.tmp S rfl)) ?_)
    (congr 1; first | (rw [rowE_0 (none_of (by assumption))]; done) | (rw [rowE_s hyr, if_pos (by assumption)]; done) | (rw [rowE_s hyr, if_neg (by rw [(by assumption : eq2 (fun h L (f : FD) => isF ts css h L (f.tn, f.ta)) L y.fs = true)]; decide)]; done) | trace_state)
  (skip; (try simp only [tq] at h))
  refine wp_skip ?_
  (refine hKq5 _ _ ?_; try (clear hKq5 Kq5))
  refine wp_sr fun Kq8 hKq8 => ?_
  (refine wpl_p S ?_; clear S a; intro a S)
  (refine wpList_nil (hKq8 _ _ ?_); try clear hKq8 Kq8)
  refine wp_ret (fin_ret S (results1 Tryz.results22 (RV.tmp S rfl)) ?_)
  (congr 1; first | (rw [rowE_0 (none_of (by assumption))]; done) | (rw [rowE_s hyr, if_pos (by assumption)]; done) | (rw [rowE_s hyr, if_neg (by rw [(by assumption : eq2 (fun h L (f : FD) => isF ts css h L (f.tn, f.ta)) L y.fs = true)]; decide)]; done) | trace_state)
end Go.Proofs.YtoaodbclgeeaeaaGreatDoor
