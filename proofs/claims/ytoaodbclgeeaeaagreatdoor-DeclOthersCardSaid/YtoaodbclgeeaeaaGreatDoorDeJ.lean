/- Walks: fields, exprs, body, rule: errors. -/
import Derived.Test.YtoaodbclgeeaeaaGreatDoorDeI
import Derived.Test.YtoaodbclgeeaeaaGreatDoorDeS
namespace Go.Proofs.YtoaodbclgeeaeaaGreatDoor
open Go Go.Wk Go.Un Go.De
set_option linter.unusedSimpArgs false
set_option linter.unusedVariables false
attribute [local irreducible] Go.wpList Go.Code.wp Go.wpStill Go.Wk.wpPre Go.bodyPost Go.Calls Go.Wk.Ct Go.Wk.OwnS
attribute [local irreducible] Go.Wk.wpG Go.Wk.wpM

/-- An error as it is handed on. -/
def ErrV (e : Int) (u : Value) : Prop := if e = 0 then u = .nilIface else ∃ l c : Int, u = .iface 106 (.agg ⟨[.int .i64 l, .int .i64 c, .int .i64 e]⟩)
section
variable {n : Sz} {L : List (Nat × Value)} {w0 : World} {F0 : Heap} {K0 : List Nat} {F : Heap} {G : List Grp} {a : Act} {w : World} {o : Oper}
theorem sv_neErr {x : Operand} {t yt : TypeId} {u : Value} {e : Int} [ht : Ifc Tryz.prog t] (S : St n L w0 F0 K0 F G a w) (ho : o.op = .binOp .neq t x (.const .nilIface) yt) (hx : ev L x = some u) (he : ErrV e u) : SV Tryz.prog o a w (.bool (decide (e ≠ 0))) := by
  unfold ErrV at he
  split at he
  · rename_i h
    subst he; subst h
    exact sv_neNil S ho hx
  · rename_i h
    obtain ⟨l, c, rfl⟩ := he
    rw [decide_eq_true h]
    exact sv_neSome S ho hx
end
theorem errV_of {e l c : Int} (h : e ≠ 0) : ErrV e (.iface 106 (.agg ⟨[.int .i64 l, .int .i64 c, .int .i64 e]⟩)) := by
  unfold ErrV
  rw [if_neg h]
  exact ⟨l, c, rfl⟩
theorem errV_0 : ErrV 0 .nilIface := by unfold ErrV; rw [if_pos rfl]
theorem containsSCt (F : Heap) (l : List (List UInt8)) (s : List UInt8) (v : Value) (h : SlC F v l.length (strs l)) (hl : l.length ≤ 9223372036854775807) : Ct Tryz.prog 78 [v, .string (bs s)] F [] (fun _ _ u => u = .bool (decide (s ∈ l))) := by
  have h0 := h
  obtain ⟨ao, cap, rfl, hcap, hpos⟩ := h
  refine Ct.enter Tryz.func78 rfl Tryz.ntmps78 rfl fun w0 a S => ?_
  refine wp_sr fun Kq1 hKq1 => ?_
  (refine wpl_p S ?_; clear S a; intro a S)
  (refine wpList_nil (hKq1 _ _ (wp_sr fun Kq2 hKq2 => ?_)); try clear hKq1 Kq1)
  iterate 2 (refine wpl_p S ?_; clear S a; intro a S)
  (refine wpl_c0 S (indexSCt F l s _ h0 hl) ?_; clear S a; intro v a w hv S; subst hv)
  iterate 2 (refine wpl_p S ?_; clear S a; intro a S)
  (refine wpList_nil (hKq2 _ _ ?_); try clear hKq2 Kq2)
  refine wp_ret (fin_ret S (results1 Tryz.results78 (RV.tmp S rfl)) ?_)
  (congr 1; unfold idxOf; by_cases hm : s ∈ l; (rw [if_pos hm]; simp [hm]); (rw [if_neg hm]; simp [hm]))
theorem lim_slc {F : Heap} : ∀ {l : List (List UInt8)} {xs : List Value}, LiC F 1 StR xs l → xs = strs l
  | [], xs, h => h
  | x :: l, xs, ⟨cs, r, h1, h2, h3, h4⟩ => by
    rw [show cs = [Value.string (bs x)] from h3] at h1
    rw [h1, lim_slc h4]; rfl
theorem lim_sl {F : Heap} {v : Value} {l : List (List UInt8)} (h : LiM F 1 StR v l) : SlC F v l.length (strs l) := by
  have h0 := h
  obtain ⟨ao0, cap0, e0, hb, -⟩ := h0
  obtain ⟨ao, cap, xs, rfl, h2, h3⟩ := h.flat
  cases e0
  rw [← lim_slc h2]
  exact ⟨_, _, rfl, hb.1, h3⟩
theorem fields1Ct (F : Heap) (bm : Nat) (p : List UInt8 → Bool) (fid : FuncId) [hfn : HasFn Tryz.prog fid] (fi ca : List Value) (hp : CbS F fid fi ca p) (hbm : Cel F bm 0 (.func (.func fid) ⟨fi⟩ ⟨ca⟩)) : CbT F 89 [] [.pointer (some ⟨bm, 0, none⟩)] (fun y => parS y.1 && !p y.1) := by
  unfold CbT
  intro F' x cs hF hty
  obtain ⟨nm, ar⟩ := x
  obtain ⟨v, rfl, hs⟩ := hty
  obtain ⟨ao, cap, rfl, hcap, -⟩ := hs
  replace hbm := hbm.mono hF
  refine Ct.enter Tryz.func89 rfl Tryz.ntmps89 rfl fun w0 a S => ?_
  refine wp_sr fun Kq1 hKq1 => ?_
  (refine wpl_bx S ?_; clear S a; intro b2 a w S)
  (refine wpl_p S ?_; clear S a; intro a S)
  (refine wpList_nil (hKq1 _ _ (wp_sr fun Kq2 hKq2 => ?_)); try clear hKq1 Kq1)
  (refine wpl_f S ?_; clear S a; intro a S)
  (refine wpl_l S ?_; clear S a; intro a S)
  (refine wpl_c0 S (paramCt F' nm) ?_; clear S a; intro v a w hv S; subst hv)
  (refine wpl_p S ?_; clear S a; intro a S)
  refine wpl_guard S rfl rfl rfl rfl rfl ?_ ?_
  · (intro h S'; clear S; have S := S'; clear S'; (try simp only [tq] at h))
    (refine wpl_v S rfl rfl rfl (sv_loadF S rfl rfl hbm) ?_; clear S a; intro a S)
    refine wpl_take S rfl rfl rfl ?_
    (refine wpl_f S ?_; clear S a; intro a S)
    refine wpl_take S rfl rfl rfl ?_
    (refine wpl_l S ?_; clear S a; intro a S)
    refine wpl_take S rfl rfl rfl ?_
    (refine wpl_c0 S (hp F' nm hF) ?_; clear S a; intro v a w hv S; subst hv)
    refine wpl_take S rfl rfl rfl ?_
    iterate 3 (refine wpl_p S ?_; clear S a; intro a S)
    (refine wpList_nil (hKq2 _ _ ?_); try clear hKq2 Kq2)
    refine wp_ret (fin_ret S (results1 Tryz.results89 (RV.tmp S rfl)) ?_)
    (congr 1; simp [*])
  (intro h; clear S a; intro a S; (try simp only [tq] at h))
  iterate 4 (refine wpl_k S ?_; clear S a; intro a S)
  iterate 2 (refine wpl_p S ?_; clear S a; intro a S)
  (refine wpList_nil (hKq2 _ _ ?_); try clear hKq2 Kq2)
  refine wp_ret (fin_ret S (results1 Tryz.results89 (RV.tmp S rfl)) ?_)
  (congr 1; simp [*])
def FSz (l : List FD) : Prop := ∀ x ∈ l, x.ta.size ≤ 1000000
set_option maxRecDepth 20000 in
set_option maxHeartbeats 8000000 in
theorem fieldsCt (F : Heap) (tb m1 : Nat) (ts : List TD) (hT : TyS F tb m1 ts) (l : List FD) (v : Value) (h : LiM F 3 FdR v l) (hsz : FSz l) (al ac : Int) (p : List UInt8 → Bool) (fid : FuncId) [hfn : HasFn Tryz.prog fid] (fi ca : List Value) (hp : CbS F fid fi ca p) :
    Ct Tryz.prog 76 [.pointer (some ⟨tb, 0, none⟩), v, .agg ⟨[.int .i64 al, .int .i64 ac]⟩, .func (.func fid) ⟨fi⟩ ⟨ca⟩] F [] (fun _ _ u => ErrV (fieldsE ts p l) u) := by
  obtain ⟨ao, cap, rfl, hcap, hpos⟩ := h
  refine Ct.enter Tryz.func76 rfl Tryz.ntmps76 rfl fun w0 a S => ?_
  refine wp_sr fun Kq1 hKq1 => ?_
  (refine wpl_bx S ?_; clear S a; intro b6 a w S)
  (refine wpl_bx S ?_; clear S a; intro b7 a w S)
  (refine wpl_p S ?_; clear S a; intro a S)
  (refine wpList_nil (hKq1 _ _ (wp_seq_k fun Kq2 hKq2 => ?_)); try clear hKq1 Kq1)
  (refine wp_seq_k ?_; intro Kq3 hKq3)
  (have hle := add_le (G1 := []) S; replace S := St.freeze (G1 := []) S; (simp only [List.nil_append] at S hle); have hb7 : Cel (F.add [(b7, .cells ⟨[.func (.func fid) ⟨fi⟩ ⟨ca⟩]⟩ 89 (0, 0))]) b7 0 (.func (.func fid) ⟨fi⟩ ⟨ca⟩) := ⟨_, _, _, Heap.add_new (p := (b7, _)) (List.mem_singleton.2 rfl) (by simp), rfl⟩; replace S : St _ _ _ _ _ (F.add [(b7, .cells ⟨[.func (.func fid) ⟨fi⟩ ⟨ca⟩]⟩ 89 (0, 0))]) _ _ _ := S; replace hle : ∀ b o, F b = some o → (F.add [(b7, .cells ⟨[.func (.func fid) ⟨fi⟩ ⟨ca⟩]⟩ 89 (0, 0))]) b = some o := hle; generalize (F.add [(b7, .cells ⟨[.func (.func fid) ⟨fi⟩ ⟨ca⟩]⟩ 89 (0, 0))]) = F2 at S hle hb7; have hT2 := hT.mono hle; have hp2 : CbS F2 fid fi ca p := (fun F' s hF => hp F' s (fun b o h => hF _ _ (hle _ _ h))); have hf1 := fields1Ct F2 b7 p fid fi ca hp2 hb7)
  refine wp_region_lit ?_
  (refine wpl_p S ?_; clear S a; intro a S)
  (refine wpl_n S ?_; clear S a; intro a S)
  (refine wpl_p S ?_; clear S a; intro a S)
  (refine wpList_nil (hKq3 _ _ ?_); try clear hKq3 Kq3)
  refine wp_block ?_
  refine wpc_loop (fun m a w' => ∃ (k : Nat), m = l.length - k ∧ k ≤ l.length ∧ fieldsE ts p l = fieldsE ts p (l.drop k) ∧ St 37 [(0, ptr tb), (6, ptr b6), (7, ptr b7), (12, .slice ao l.length cap), (13, .int .i64 l.length), (14, .int .i64 k)] w0 F [] F2 [[(b6, .cells ⟨[.int .i64 al, .int .i64 ac]⟩ 45 (0, 0))]] a w') ?_ ?_
  · (refine ⟨l.length, 0, by omega, Nat.zero_le _, rfl, ?_⟩; refine S.keep ?_; repeat (first | exact trivial | refine ⟨rfl, ?_⟩))
  (clear S; rintro m a w ⟨k, rfl, hkl, hfe, S⟩)
  refine wp_sr fun Kq4 hKq4 => ?_
  (refine wpl_p S ?_; clear S a; intro a S)
  (refine wpList_nil (hKq4 _ _ (wp_seq_k fun Kq5 hKq5 => ?_)); try clear hKq4 Kq4)
  refine wpc_split S rfl (fun h => ?_) (fun h => ?_)
  · (skip; (try simp only [tq] at h))
    refine wp_skip ?_
    (refine hKq5 _ _ ?_; try (clear hKq5 Kq5))
    (refine wp_seq_k ?_; intro Kq6 hKq6)
    refine wp_block ?_
    (refine wp_seq_k ?_; intro Kq7 hKq7)
    (obtain ⟨b8, o8, hao, x, cs1, hx, hc1, ⟨v1, rfl, hT1⟩⟩ := LiM.pos hpos (k := k) (by omega); rw [hao] at S; replace hc1 := Cels.mono hle hc1; replace hT1 := hT1.mono hle; have hT1c := hT1; obtain ⟨a91, c91, rfl, -⟩ := hT1c; have hxsz := hsz x (List.mem_of_getElem? hx))
    refine wp_region_lit ?_
    (refine wpl_i S ?_; clear S a; intro a S)
    (refine wpl_l S ?_; clear S a; intro a S)
    (refine wpl_al S ?_; clear S a; intro b10 a w S)
    (refine wpl_storeO S rfl rfl rfl rfl rfl (by rfl) (by simp [Value.cells, Value.oneCell', splice]) (by rfl) ?_; clear S; intro w S)
    (refine wpList_nil (hKq7 _ _ (wp_sr fun Kq8 hKq8 => ?_)); try clear hKq7 Kq7)
    (refine wpl_p S ?_; clear S a; intro a S)
    (refine wpl_f S ?_; clear S a; intro a S)
    (refine wpl_l S ?_; clear S a; intro a S)
    (refine wpl_c0 S (useCt F2 tb m1 ts hT2 x.tn x.ta _ hxsz ⟨_, rfl, hT1⟩) ?_; clear S a; intro v a w hv S; subst hv)
    (refine wpl_p S ?_; clear S a; intro a S)
    (refine wpList_nil (hKq8 _ _ (wp_seq_k fun Kq9 hKq9 => ?_)); try clear hKq8 Kq8)
    refine wp_sr fun Kq10 hKq10 => ?_
    iterate 3 (refine wpl_p S ?_; clear S a; intro a S)
    refine wpl_guard S rfl rfl rfl rfl rfl ?_ ?_
    · (intro h S'; clear S; have S := S'; clear S'; (try simp only [tq] at h))
      (refine wpl_f S ?_; clear S a; intro a S)
      refine wpl_take S rfl rfl rfl ?_
      (refine wpl_l S ?_; clear S a; intro a S)
      refine wpl_take S rfl rfl rfl ?_
      (refine wpl_p S ?_; clear S a; intro a S)
      refine wpl_take S rfl rfl rfl ?_
      (refine wpl_c0 S (withinCt F2 89 [] [.pointer (some ⟨b7, 0, none⟩)] _ hf1 (x.ta.size + 1) F2 x.tn x.ta _ (Nat.lt_succ_self _) (fun _ _ h => h) ⟨_, rfl, hT1⟩) ?_; clear S a; intro v a w hv S; subst hv)
      (refine wpl_p S ?_; clear S a; intro a S)
      (refine wpList_nil (hKq10 _ _ ?_); try clear hKq10 Kq10)
      refine wpc_split S rfl (fun h => ?_) (fun h => ?_)
      · (skip; (try simp only [tq] at h))
        refine wp_region_lit ?_
        (refine wpl_p S ?_; clear S a; intro a S)
        (refine wpList_nil (hKq9 _ _ (wp_sr fun Kq11 hKq11 => ?_)); try clear hKq9 Kq9)
        iterate 2 (refine wpl_p S ?_; clear S a; intro a S)
        (refine wpList_nil (hKq11 _ _ ?_); try clear hKq11 Kq11)
        refine wpc_split S rfl (fun h => ?_) (fun h => ?_)
        · (skip; (try simp only [tq] at h))
          refine wp_sr fun Kq12 hKq12 => ?_
          (refine wpl_l S ?_; clear S a; intro a S)
          (refine wpl_p S ?_; clear S a; intro a S)
          (refine wpl_b S ?_; clear S a; intro a S)
          (refine wpl_s S ?_; clear S a; intro a S)
          (refine wpl_p S ?_; clear S a; intro a S)
          (refine wpList_nil (hKq12 _ _ ?_); try clear hKq12 Kq12)
          refine wp_ret (fin_ret S (results1 Tryz.results76 (RV.tmp S rfl)) ?_)
          (first | (have hz : fieldsE ts p l = 0 := (by rw [hfe, List.drop_eq_nil_of_le (by omega)]; rfl); rw [hz]; exact errV_0) | (have hz : fieldE ts p x = 63 := (by unfold fieldE; rw [if_pos ⟨by first | assumption | omega, by assumption⟩]); have hz2 : fieldsE ts p l = 63 := (by rw [hfe, drop_at hx]; show (if fieldE ts p x ≠ 0 then _ else _) = _; rw [hz]; rfl); rw [hz2]; exact errV_of (by decide)) | (have hz : fieldE ts p x = useT ts (x.tn, x.ta) := (by unfold fieldE; rw [if_neg (by rintro ⟨h1, h2⟩; simp_all)]); have hne : ¬ useT ts (x.tn, x.ta) = 0 := (by first | assumption | simpa using h); have hz2 : fieldsE ts p l = useT ts (x.tn, x.ta) := (by rw [hfe, drop_at hx]; show (if fieldE ts p x ≠ 0 then _ else _) = _; rw [hz, if_pos hne]); rw [hz2]; exact errV_of hne) | trace_state)
        (skip; (try simp only [tq] at h))
        refine wp_skip ?_
        (refine hKq6 _ _ ?_; try (clear hKq6 Kq6))
        refine wp_region_lit ?_
        (refine wpl_a S ?_; clear S a; intro a S)
        (refine wpl_p S ?_; clear S a; intro a S)
        refine wpList_nil ?_
        change ∃ m', _ ∧ _
        (rw [← hao] at S; replace S := S.drop1; have hz : fieldE ts p x = 0 := (by have h9 := h; unfold fieldE; first | (exfalso; omega) | (rw [if_neg (by rintro ⟨h1, h2⟩; simp_all)]; first | assumption | omega)); refine ⟨l.length - (k + 1), by omega, k + 1, rfl, by omega, by rw [hfe, drop_at hx]; show (if fieldE ts p x ≠ 0 then _ else _) = _; rw [if_neg (fun h => h hz)], ?_⟩; refine S.keep ?_; repeat (first | exact trivial | refine ⟨rfl, ?_⟩))
      (skip; (try simp only [tq] at h))
      refine wp_skip ?_
      (refine hKq9 _ _ ?_; try (clear hKq9 Kq9))
      refine wp_sr fun Kq11 hKq11 => ?_
      iterate 2 (refine wpl_p S ?_; clear S a; intro a S)
      (refine wpList_nil (hKq11 _ _ ?_); try clear hKq11 Kq11)
      refine wpc_split S rfl (fun h => ?_) (fun h => ?_)
      · (skip; (try simp only [tq] at h))
        refine wp_sr fun Kq12 hKq12 => ?_
        (refine wpl_l S ?_; clear S a; intro a S)
        (refine wpl_p S ?_; clear S a; intro a S)
        (refine wpl_b S ?_; clear S a; intro a S)
        (refine wpl_s S ?_; clear S a; intro a S)
        (refine wpl_p S ?_; clear S a; intro a S)
        (refine wpList_nil (hKq12 _ _ ?_); try clear hKq12 Kq12)
        refine wp_ret (fin_ret S (results1 Tryz.results76 (RV.tmp S rfl)) ?_)
        (first | (have hz : fieldsE ts p l = 0 := (by rw [hfe, List.drop_eq_nil_of_le (by omega)]; rfl); rw [hz]; exact errV_0) | (have hz : fieldE ts p x = 63 := (by unfold fieldE; rw [if_pos ⟨by first | assumption | omega, by assumption⟩]); have hz2 : fieldsE ts p l = 63 := (by rw [hfe, drop_at hx]; show (if fieldE ts p x ≠ 0 then _ else _) = _; rw [hz]; rfl); rw [hz2]; exact errV_of (by decide)) | (have hz : fieldE ts p x = useT ts (x.tn, x.ta) := (by unfold fieldE; rw [if_neg (by rintro ⟨h1, h2⟩; simp_all)]); have hne : ¬ useT ts (x.tn, x.ta) = 0 := (by first | assumption | simpa using h); have hz2 : fieldsE ts p l = useT ts (x.tn, x.ta) := (by rw [hfe, drop_at hx]; show (if fieldE ts p x ≠ 0 then _ else _) = _; rw [hz, if_pos hne]); rw [hz2]; exact errV_of hne) | trace_state)
      (skip; (try simp only [tq] at h))
      refine wp_skip ?_
      (refine hKq6 _ _ ?_; try (clear hKq6 Kq6))
      refine wp_region_lit ?_
      (refine wpl_a S ?_; clear S a; intro a S)
      (refine wpl_p S ?_; clear S a; intro a S)
      refine wpList_nil ?_
      change ∃ m', _ ∧ _
      (rw [← hao] at S; replace S := S.drop1; have hz : fieldE ts p x = 0 := (by have h9 := h; unfold fieldE; first | (exfalso; omega) | (rw [if_neg (by rintro ⟨h1, h2⟩; simp_all)]; first | assumption | omega)); refine ⟨l.length - (k + 1), by omega, k + 1, rfl, by omega, by rw [hfe, drop_at hx]; show (if fieldE ts p x ≠ 0 then _ else _) = _; rw [if_neg (fun h => h hz)], ?_⟩; refine S.keep ?_; repeat (first | exact trivial | refine ⟨rfl, ?_⟩))
    (intro h; clear S a; intro a S; (try simp only [tq] at h))
    iterate 3 (refine wpl_k S ?_; clear S a; intro a S)
    (refine wpl_p S ?_; clear S a; intro a S)
    (refine wpList_nil (hKq10 _ _ ?_); try clear hKq10 Kq10)
    refine wpc_false S rfl ?_
    refine wp_skip ?_
    (refine hKq9 _ _ ?_; try (clear hKq9 Kq9))
    refine wp_sr fun Kq11 hKq11 => ?_
    iterate 2 (refine wpl_p S ?_; clear S a; intro a S)
    (refine wpList_nil (hKq11 _ _ ?_); try clear hKq11 Kq11)
    refine wpc_split S rfl (fun h => ?_) (fun h => ?_)
    · (skip; (try simp only [tq] at h))
      refine wp_sr fun Kq12 hKq12 => ?_
      (refine wpl_l S ?_; clear S a; intro a S)
      (refine wpl_p S ?_; clear S a; intro a S)
      (refine wpl_b S ?_; clear S a; intro a S)
      (refine wpl_s S ?_; clear S a; intro a S)
      (refine wpl_p S ?_; clear S a; intro a S)
      (refine wpList_nil (hKq12 _ _ ?_); try clear hKq12 Kq12)
      refine wp_ret (fin_ret S (results1 Tryz.results76 (RV.tmp S rfl)) ?_)
      (first | (have hz : fieldsE ts p l = 0 := (by rw [hfe, List.drop_eq_nil_of_le (by omega)]; rfl); rw [hz]; exact errV_0) | (have hz : fieldE ts p x = 63 := (by unfold fieldE; rw [if_pos ⟨by first | assumption | omega, by assumption⟩]); have hz2 : fieldsE ts p l = 63 := (by rw [hfe, drop_at hx]; show (if fieldE ts p x ≠ 0 then _ else _) = _; rw [hz]; rfl); rw [hz2]; exact errV_of (by decide)) | (have hz : fieldE ts p x = useT ts (x.tn, x.ta) := (by unfold fieldE; rw [if_neg (by rintro ⟨h1, h2⟩; simp_all)]); have hne : ¬ useT ts (x.tn, x.ta) = 0 := (by first | assumption | simpa using h); have hz2 : fieldsE ts p l = useT ts (x.tn, x.ta) := (by rw [hfe, drop_at hx]; show (if fieldE ts p x ≠ 0 then _ else _) = _; rw [hz, if_pos hne]); rw [hz2]; exact errV_of hne) | trace_state)
    (skip; (try simp only [tq] at h))
    refine wp_skip ?_
    (refine hKq6 _ _ ?_; try (clear hKq6 Kq6))
    refine wp_region_lit ?_
    (refine wpl_a S ?_; clear S a; intro a S)
    (refine wpl_p S ?_; clear S a; intro a S)
    refine wpList_nil ?_
    change ∃ m', _ ∧ _
    (rw [← hao] at S; replace S := S.drop1; have hz : fieldE ts p x = 0 := (by have h9 := h; unfold fieldE; first | (exfalso; omega) | (rw [if_neg (by rintro ⟨h1, h2⟩; simp_all)]; first | assumption | omega)); refine ⟨l.length - (k + 1), by omega, k + 1, rfl, by omega, by rw [hfe, drop_at hx]; show (if fieldE ts p x ≠ 0 then _ else _) = _; rw [if_neg (fun h => h hz)], ?_⟩; refine S.keep ?_; repeat (first | exact trivial | refine ⟨rfl, ?_⟩))
  (skip; (try simp only [tq] at h))
  refine wp_exit ?_
  (refine hKq2 _ _ ?_; try (clear hKq2 Kq2))
  refine wp_sr fun Kq6 hKq6 => ?_
  (refine wpl_p S ?_; clear S a; intro a S)
  (refine wpList_nil (hKq6 _ _ ?_); try clear hKq6 Kq6)
  refine wp_ret (fin_ret S (results1 Tryz.results76 (RV.tmp S rfl)) ?_)
  (first | (have hz : fieldsE ts p l = 0 := (by rw [hfe, List.drop_eq_nil_of_le (by omega)]; rfl); rw [hz]; exact errV_0) | (have hz : fieldE ts p x = 63 := (by unfold fieldE; rw [if_pos ⟨by first | assumption | omega, by assumption⟩]); have hz2 : fieldsE ts p l = 63 := (by rw [hfe, drop_at hx]; show (if fieldE ts p x ≠ 0 then _ else _) = _; rw [hz]; rfl); rw [hz2]; exact errV_of (by decide)) | (have hz : fieldE ts p x = useT ts (x.tn, x.ta) := (by unfold fieldE; rw [if_neg (by rintro ⟨h1, h2⟩; simp_all)]); have hne : ¬ useT ts (x.tn, x.ta) = 0 := (by first | assumption | simpa using h); have hz2 : fieldsE ts p l = useT ts (x.tn, x.ta) := (by rw [hfe, drop_at hx]; show (if fieldE ts p x ≠ 0 then _ else _) = _; rw [hz, if_pos hne]); rw [hz2]; exact errV_of hne) | trace_state)
end Go.Proofs.YtoaodbclgeeaeaaGreatDoor
