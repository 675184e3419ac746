/- Walks. -/
import Derived.Test.YtgefmjghdijbfaaGreatDoorKEvalValuesUpto03
import Derived.Test.YtgefmjghdijbfaaGreatDoorKEvalValuesUpto02
import Derived.Test.YtgefmjghdijbfaaGreatDoorQ12
set_option maxHeartbeats 16000000
set_option maxRecDepth 20000
namespace Go.Proofs.YtgefmjghdijbfaaGreatDoor
open Go Go.Wk Go.Un Go.De
set_option linter.unusedSimpArgs false
set_option linter.unusedVariables false
attribute [local irreducible] Go.wpList Go.Code.wp Go.wpStill Go.Wk.wpPre Go.bodyPost Go.Calls Go.Wk.Ct Go.Wk.OwnS Go.Wk.wpG Go.Wk.wpM
def ErrV (e : Int) (u : Value) : Prop := if e = 0 then u = .nilIface else ∃ l c : Int, u = .iface 116 (.agg ⟨[.int .i64 l, .int .i64 c, .int .i64 e]⟩)
section
variable {n : Sz} {L : List (Nat × Value)} {w0 : World} {F0 : Heap} {K0 : List Nat} {F : Heap} {G : List Grp} {a : Act} {w : World} {o : Oper}
theorem sv_neErr {x : Operand} {t yt : TypeId} {u : Value} {e : Int} [ht : Ifc Tryz.prog t] (S : St n L w0 F0 K0 F G a w) (ho : o.op = .binOp .neq t x (.const .nilIface) yt) (hx : ev L x = some u) (he : ErrV e u) : SV Tryz.prog o a w (.bool (decide (e ≠ 0))) := by
 unfold ErrV at he
 split at he
 ·rename_i h
  subst he; subst h
  exact sv_neNil S ho hx
 ·rename_i h
  obtain ⟨l, c, rfl⟩ := he
  rw [decide_eq_true h]
  exact sv_neSome S ho hx
end
theorem errV_of {e l c : Int} (h : e ≠ 0) : ErrV e (.iface 116 (.agg ⟨[.int .i64 l, .int .i64 c, .int .i64 e]⟩)) := by
 unfold ErrV
 rw [if_neg h]
 exact ⟨l, c, rfl⟩
theorem errV_0 : ErrV 0 .nilIface := by unfold ErrV; rw [if_pos rfl]
theorem containsSCt (F : Heap) (l : List (List UInt8)) (s : List UInt8) (v : Value) (h : SlC F v l.length (strs l)) (hl : l.length ≤ 9223372036854775807) : Ct Tryz.prog 77 [v, .string (bs s)] F [] (fun _ _ u => u = .bool (decide (s ∈ l))) := by
 have h0 := h
 obtain ⟨ao, cap, rfl, hcap, hpos⟩ := h
 refine Ct.enter Tryz.func77 rfl Tryz.ntmps77 rfl fun w0 a S => ?_
 (revert S a; refine go 7 ?_; intro Z hZ a S)
 (refine wc0 S (indexSCt F l s _ h0 hl) ?_; clear S a; intro v a w hv S; subst hv)
 (revert S a; revert hZ Z; refine go 4 ?_; intro a S)
 refine wp_ret (fr1 S Tryz.results77 ?_)
 (congr 1; unfold idxOf; by_cases hm : s ∈ l; (rw [if_pos hm]; simp [hm]); (rw [if_neg hm]; simp [hm]))
theorem lim_slc {F : Heap} : ∀ {l : List (List UInt8)} {xs : List Value}, LiC F 1 StR xs l → xs = strs l
 | [], xs, h => h
 | x :: l, xs, ⟨cs, r, h1, h2, h3, h4⟩ => by
  rw [show cs = [Value.string (bs x)] from h3] at h1
  rw [h1, lim_slc h4]; rfl
theorem lim_sl {F : Heap} {v : Value} {l : List (List UInt8)} (h : LiM F 1 StR v l) : SlC F v l.length (strs l) := by
 have h0 := h
 obtain ⟨ao0, cap0, e0, hb, -⟩ := h0
 obtain ⟨ao, cap, xs, rfl, h2, h3⟩ := h.flat
 cases e0
 rw [← lim_slc h2]
 exact ⟨_, _, rfl, hb.1, h3⟩
theorem fields1Ct (F : Heap) (bm : Nat) (p : List UInt8 → Bool) (fid : FuncId) [hfn : HasFn Tryz.prog fid] (fi ca : List Value) (hp : CbS F fid fi ca p) (hbm : Cel F bm 0 (.func (.func fid) ⟨fi⟩ ⟨ca⟩)) : CbT F 175 [] [.pointer (some ⟨bm, 0, none⟩)] (fun y => parS y.1 && !p y.1) := by
 unfold CbT
 intro F' x cs hF hty
 obtain ⟨nm, ar⟩ := x
 obtain ⟨v, rfl, hs⟩ := hty
 obtain ⟨ao, cap, rfl, hcap, -⟩ := hs
 replace hbm := hbm.mono hF
 refine Ct.enter Tryz.func175 rfl Tryz.ntmps175 rfl fun w0 a S => ?_
 refine wp_sr fun Z hZ => ?_
 (refine wbx S ?_; clear S a; intro b2 a w S)
 (revert S a; revert hZ Z; refine go 6 ?_; intro Z hZ a S)
 (refine wc0 S (paramCt F' nm) ?_; clear S a; intro v a w hv S; subst hv)
 (revert S a; refine go 1 ?_; intro a S)
 refine wgd S ?_ ?_
 ·(clear S; intro h S)
  (refine wv S (sv_loadF S rfl rfl hbm) ?_; clear S a; intro a S)
  (revert S a; refine go 5 ?_; intro a S)
  (refine wc0 S (hp F' nm hF) ?_; clear S a; intro v a w hv S; subst hv)
  (revert S a; revert hZ Z; refine go 6 ?_; intro a S)
  refine wp_ret (fr1 S Tryz.results175 ?_)
  (congr 1; simp [*])
 (clear S a; intro h a S)
 (revert S a; revert hZ Z; refine go 8 ?_; intro a S)
 refine wp_ret (fr1 S Tryz.results175 ?_)
 (congr 1; simp [*])
def FSz (l : List FD) : Prop := ∀ x ∈ l, x.ta.size ≤ 2000000
theorem zzDeJ0 {p : Prop} (h : p := by (first | (have hz : fieldsE ts p l = 0 := (by rw [hfe, List.drop_eq_nil_of_le (by omega)]; rfl); rw [hz]; exact errV_0) | (have hz : fieldE ts p x = 63 := (by unfold fieldE; rw [if_pos ⟨by first | assumption | omega, by assumption⟩]); have hz2 : fieldsE ts p l = 63 := (by rw [hfe, drop_at hx]; show (if fieldE ts p x ≠ 0 then _ else _) = _; rw [hz]; rfl); rw [hz2]; exact errV_of (by decide)) | (have hz : fieldE ts p x = useT ts (x.tn, x.ta) := (by unfold fieldE; rw [if_neg (by rintro ⟨h1, h2⟩; simp_all)]); have hne : ¬ useT ts (x.tn, x.ta) = 0 := (by first | assumption | simpa using h); have hz2 : fieldsE ts p l = useT ts (x.tn, x.ta) := (by rw [hfe, drop_at hx]; show (if fieldE ts p x ≠ 0 then _ else _) = _; rw [hz, if_pos hne]); rw [hz2]; exact errV_of hne) | trace_state)) : p := h
theorem zzDeJ1 {p : Prop} (h : p := by (rw [← hao] at S; replace S := S.drop1; have hz : fieldE ts p x = 0 := (by have h9 := h; unfold fieldE; first | (exfalso; omega) | (rw [if_neg (by rintro ⟨h1, h2⟩; simp_all)]; first | assumption | omega)); refine ⟨l.length - (k + 1), by omega, k + 1, rfl, by omega, by rw [hfe, drop_at hx]; show (if fieldE ts p x ≠ 0 then _ else _) = _; rw [if_neg (fun h => h hz)], ?_⟩; refine S.keep ?_; exact zk)) : p := h
theorem fieldsCt (F : Heap) (tb m1 : Nat) (ts : List TD) (hT : TyS F tb m1 ts) (l : List FD) (v : Value) (h : LiM F 3 FdR v l) (hsz : FSz l) (al ac : Int) (p : List UInt8 → Bool) (fid : FuncId) [hfn : HasFn Tryz.prog fid] (fi ca : List Value) (hp : CbS F fid fi ca p) :
  Ct Tryz.prog 139 [.pointer (some ⟨tb, 0, none⟩), v, .agg ⟨[.int .i64 al, .int .i64 ac]⟩, .func (.func fid) ⟨fi⟩ ⟨ca⟩] F [] (fun _ _ u => ErrV (fieldsE ts p l) u) := by
 obtain ⟨ao, cap, rfl, hcap, hpos⟩ := h
 refine Ct.enter Tryz.func139 rfl Tryz.ntmps139 rfl fun w0 a S => ?_
 refine wp_sr fun Z hZ => ?_
 (refine wbx S ?_; clear S a; intro b6 a w S)
 (refine wbx S ?_; clear S a; intro b7 a w S)
 (revert S a; revert hZ Z; refine go 4 ?_; intro Z hZ a S)
 (refine wp_seq_k ?_; intro Z hZ)
 (have hle := add_le (G1 := []) S; replace S := St.freeze (G1 := []) S; (simp only [List.nil_append] at S hle); have hb7 : Cel (F.add [(b7, .cells ⟨[.func (.func fid) ⟨fi⟩ ⟨ca⟩]⟩ 148 (0, 0))]) b7 0 (.func (.func fid) ⟨fi⟩ ⟨ca⟩) := ⟨_, _, _, Heap.add_new (p := (b7, _)) (List.mem_singleton.2 rfl) (by simp), rfl⟩; replace S : St _ _ _ _ _ (F.add [(b7, .cells ⟨[.func (.func fid) ⟨fi⟩ ⟨ca⟩]⟩ 148 (0, 0))]) _ _ _ := S; replace hle : ∀ b o, F b = some o → (F.add [(b7, .cells ⟨[.func (.func fid) ⟨fi⟩ ⟨ca⟩]⟩ 148 (0, 0))]) b = some o := hle; generalize (F.add [(b7, .cells ⟨[.func (.func fid) ⟨fi⟩ ⟨ca⟩]⟩ 148 (0, 0))]) = F2 at S hle hb7; have hT2 := hT.mono hle; have hp2 : CbS F2 fid fi ca p := (fun F' s hF => hp F' s (fun b o h => hF _ _ (hle _ _ h))); have hf1 := fields1Ct F2 b7 p fid fi ca hp2 hb7)
 (revert S a; revert hZ Z; refine go 7 ?_; intro a S)
 refine wpc_loop (fun m a w' => ∃ (k : Nat), m = l.length - k ∧ k ≤ l.length ∧ fieldsE ts p l = fieldsE ts p (l.drop k) ∧ St 37 [(0, ptr tb), (6, ptr b6), (7, ptr b7), (12, .slice ao l.length cap), (13, .int .i64 l.length), (14, .int .i64 k)] w0 F [] F2 [[(b6, .cells ⟨[.int .i64 al, .int .i64 ac]⟩ 30 (0, 0))]] a w') ?_ ?_
 ·(refine ⟨l.length, 0, by omega, Nat.zero_le _, rfl, ?_⟩; refine S.keep ?_; exact zk)
 (clear S; rintro m a w ⟨k, rfl, hkl, hfe, S⟩)
 (revert S a; refine go 5 ?_; intro Z hZ a S)
 refine wpc_sp S rfl ?_ ?_ <;> intro h
 ·(revert S a; revert hZ Z; refine go 4 ?_; intro Z hZ a S)
  (refine wp_seq_k ?_; intro Z hZ)
  (obtain ⟨b8, o8, hao, x, cs1, hx, hc1, ⟨v1, rfl, hT1⟩⟩ := LiM.pos hpos (k := k) (by omega); rw [hao] at S; replace hc1 := Cels.mono hle hc1; replace hT1 := hT1.mono hle; have hT1c := hT1; obtain ⟨a91, c91, rfl, -⟩ := hT1c; have hxsz := hsz x (List.mem_of_getElem? hx))
  (revert S a; refine go 3 ?_; intro a S)
  (refine wpl_alloc S rfl rfl rfl rfl ?_; clear S a; intro b10 a w S)
  (refine wso S rfl rfl ?_; clear S; intro w S)
  (revert S a; revert hZ Z; refine go 6 ?_; intro Z hZ a S)
  (refine wc0 S (useCt F2 tb m1 ts hT2 x.tn x.ta _ (by have := depthL_le x.ta; omega) ⟨_, rfl, hT1⟩) ?_; clear S a; intro v a w hv S; subst hv)
  (revert S a; revert hZ Z; refine go 8 ?_; intro Z hZ Z hZ a S)
  refine wgd S ?_ ?_
  ·(clear S; intro h S)
   (revert S a; refine go 6 ?_; intro a S)
   (refine wc0 S (withinCt F2 175 [] [.pointer (some ⟨b7, 0, none⟩)] _ hf1 (x.ta.size + 1) F2 x.tn x.ta _ (Nat.lt_succ_self _) (fun _ _ h => h) ⟨_, rfl, hT1⟩) ?_; clear S a; intro v a w hv S; subst hv)
   (revert S a; revert hZ Z; refine go 3 ?_; intro a S)
   refine wpc_sp S rfl ?_ ?_ <;> intro h
   ·(revert S a; revert hZ Z; refine go 9 ?_; intro a S)
    refine wpc_sp S rfl ?_ ?_ <;> intro h
    ·(revert S a; refine go 8 ?_; intro a S)
     refine wp_ret (fr1 S Tryz.results139 ?_)
     exact zzDeJ0
    (revert S a; revert hZ Z; refine go 6 ?_; intro a S)
    change ∃ m', _ ∧ _
    exact zzDeJ1
   (revert S a; revert hZ Z; refine go 7 ?_; intro a S)
   refine wpc_sp S rfl ?_ ?_ <;> intro h
   ·(revert S a; refine go 8 ?_; intro a S)
    refine wp_ret (fr1 S Tryz.results139 ?_)
    exact zzDeJ0
   (revert S a; revert hZ Z; refine go 6 ?_; intro a S)
   change ∃ m', _ ∧ _
   exact zzDeJ1
  (clear S a; intro h a S)
  (revert S a; revert hZ Z; refine go 6 ?_; intro a S)
  refine wpc_false S rfl ?_
  (revert S a; revert hZ Z; refine go 7 ?_; intro a S)
  refine wpc_sp S rfl ?_ ?_ <;> intro h
  ·(revert S a; refine go 8 ?_; intro a S)
   refine wp_ret (fr1 S Tryz.results139 ?_)
   exact zzDeJ0
  (revert S a; revert hZ Z; refine go 6 ?_; intro a S)
  change ∃ m', _ ∧ _
  exact zzDeJ1
 (refine wp_exit ?_; conv => whnf)
 clear hZ Z
 (revert S a; revert hZ Z; refine go 5 ?_; intro a S)
 refine wp_ret (fr1 S Tryz.results139 ?_)
 exact zzDeJ0
theorem get_kc {F : Heap} {es : List (List UInt8 × Value)} {cl : List KC} (hm : MapM F KcR KC.nm es cl) (s : List UInt8) :
  ∃ (x : KC) (ap : Option Addr) (cp : Nat) (ac : Option Addr) (cc : Nat), (mGet es s).getD (.agg #[.string { data := #[] }, .slice none 0 0, .int .i64 0, .slice none 0 0]) = .agg ⟨[.string (bs x.ty), .slice ap x.ps.length cp, .int .i64 x.pl, .slice ac x.fs.length cc]⟩ ∧
   LiM F 1 StR (.slice ap x.ps.length cp) x.ps ∧ LiM F 3 FdR (.slice ac x.fs.length cc) x.fs ∧ (findC cl s = some x ∨ findC cl s = none ∧ x = zKC) ∧ (mGet es s).isSome = (findC cl s).isSome := by
 rcases hm.get s with ⟨x, cs, h1, h2, v, u, rfl, h3, h4⟩ | ⟨h1, h2⟩
 ·have h3c := h3
  have h4c := h4
  obtain ⟨ap, cp, rfl, -, -⟩ := h3c
  obtain ⟨ac, cc, rfl, -, -⟩ := h4c
  exact ⟨x, ap, cp, ac, cc, by rw [h2]; rfl, h3, h4, .inl h1, by rw [h2]; unfold findC; rw [h1]; rfl⟩
 ·exact ⟨zKC, none, 0, none, 0, by rw [h2]; rfl, LiM.nil _ _ _, LiM.nil _ _ _, .inr ⟨h1, rfl⟩, by rw [h2]; unfold findC; rw [h1]; rfl⟩
def zRD : RD := ⟨0, 0, false, false, [], []⟩
theorem get_rd {F : Heap} {es : List (List UInt8 × Value)} {rl : List RD} (hm : MapM F RdR RD.nm es rl) (s : List UInt8) :
  ∃ (x : RD) (ac : Option Addr) (cc : Nat), (mGet es s).getD (.agg #[.int .i64 0, .int .i64 0, .bool false, .bool false, .string { data := #[] }, .slice none 0 0]) = .agg ⟨[.int .i64 x.l, .int .i64 x.c, .bool x.pub, .bool x.inp, .string (bs x.nm), .slice ac x.fs.length cc]⟩ ∧
   LiM F 3 FdR (.slice ac x.fs.length cc) x.fs ∧ (findR rl s = some x ∨ findR rl s = none ∧ x = zRD) ∧ (mGet es s).isSome = (findR rl s).isSome := by
 rcases hm.get s with ⟨x, cs, h1, h2, u, rfl, h4⟩ | ⟨h1, h2⟩
 ·have h4c := h4
  obtain ⟨ac, cc, rfl, -, -⟩ := h4c
  exact ⟨x, ac, cc, by rw [h2]; rfl, h4, .inl h1, by rw [h2]; unfold findR; rw [h1]; rfl⟩
 ·exact ⟨zRD, none, 0, by rw [h2]; rfl, LiM.nil _ _ _, .inr ⟨h1, rfl⟩, by rw [h2]; unfold findR; rw [h1]; rfl⟩
theorem some_of {α : Type} {o : Option α} {x z : α} (h : o = some x ∨ o = none ∧ x = z) (hs : o.isSome = true) : o = some x := by
 rcases h with h | ⟨h, -⟩
 ·exact h
 ·rw [h] at hs; cases hs
theorem none_of {α : Type} {o : Option α} (hs : o.isSome = false) : o = none := by cases o with | none => rfl | some x => cases hs
theorem zzDeK0 {p : Prop} (h : p := by (first | (have hz : exprsE css l = 0 := (by rw [hfe, Rose.drop_len (by omega)]; rfl); rw [hz]; exact errV_0) | (have h9 := hz1; have hne : exprsE css x.2 ≠ 0 := (by first | assumption | simpa using h); have e9 : exprsE css l = exprsE css x.2 := (by rw [hfe, Rose.drop_get hx, exprsE_cons, if_neg (fun h => h hz1), if_pos hne]); rw [e9]; exact hv) | (have hz1 : exprE css x.1 x.2.len = 63 := exprE_none (by omega) (none_of (by assumption)); have e9 : exprsE css l = 63 := (by rw [hfe, Rose.drop_get hx, exprsE_cons, hz1]; rfl); rw [e9]; exact errV_of (by decide)) | (have hz1 : exprE css x.1 x.2.len = 70 := (by rw [exprE_some (by omega) (some_of hy (by assumption)), if_pos (by omega)]); have e9 : exprsE css l = 70 := (by rw [hfe, Rose.drop_get hx, exprsE_cons, hz1]; rfl); rw [e9]; exact errV_of (by decide)) | trace_state)) : p := h
theorem zzDeK1 {p : Prop} (h : p := by (rw [← hao] at S; (first | (replace S := S.drop1.drop1) | (replace S := S.drop1)); have hz2 : exprsE css x.2 = 0 := (by first | assumption | omega | (simp_all; done)); refine ⟨l.len - (k + 1), by omega, k + 1, rfl, by omega, by rw [hfe, Rose.drop_get hx, exprsE_cons, if_neg (fun h => h hz1), if_neg (fun h => h hz2)], ?_⟩; refine S.keep ?_; exact zk)) : p := h
theorem exprsCt (F : Heap) (tb m1 m2 m3 : Nat) (ts : List TD) (css : List KC) (rs : List RD) (hT : TabS F tb m1 m2 m3 ts css rs) : ∀ (n : Nat) (l : Ef) (v : Value), l.size ≤ n → TrS F 9 EhR v l →
  Ct Tryz.prog 143 [.pointer (some ⟨tb, 0, none⟩), v] F [] (fun _ _ u => ErrV (exprsE css l) u) := by
 intro n
 induction n using Nat.strongRecOn with
 | _ n ih =>
 intro l v hn h
 obtain ⟨ao, cap, rfl, hcap, hpos⟩ := h
 have hcc : Cel F tb 1 (.map (some m2)) := hT.c 1 _ rfl
 obtain ⟨es, hes, hm⟩ := hT.k
 refine Ct.enter Tryz.func143 rfl Tryz.ntmps143 rfl fun w0 a S => ?_
 (revert S a; refine go 12 ?_; intro Z hZ a S)
 refine wpc_loop (fun m a w' => ∃ (k : Nat), m = l.len - k ∧ k ≤ l.len ∧ exprsE css l = exprsE css (l.drop k) ∧ St 56 [(0, ptr tb), (10, .slice ao l.len cap), (11, .int .i64 l.len), (12, .int .i64 k)] w0 F [] F [] a w') ?_ ?_
 ·(refine ⟨l.len, 0, by omega, Nat.zero_le _, rfl, ?_⟩; refine S.keep ?_; exact zk)
 (clear S; rintro m a w ⟨k, rfl, hkl, hfe, S⟩)
 (revert S a; refine go 5 ?_; intro Z hZ a S)
 refine wpc_sp S rfl ?_ ?_ <;> intro h
 ·(revert S a; revert hZ Z; refine go 4 ?_; intro Z hZ a S)
  (refine wp_seq_k ?_; intro Z hZ)
  (obtain ⟨b8, o8, hao, x, cs1, v1, hx, hc1, ⟨w9, rfl, hw9⟩, hT1⟩ := TrM.pos hpos (k := k) (by omega); rw [hao] at S; have hxs := Rose.size_get hx; have hT1c := hT1; obtain ⟨a91, c91, rfl, -⟩ := hT1c; have hw9c := hw9; obtain ⟨a92, c92, rfl, -⟩ := hw9c; (simp only [List.cons_append, List.nil_append] at hc1))
  (revert S a; refine go 3 ?_; intro a S)
  (refine wpl_alloc S rfl rfl rfl rfl ?_; clear S a; intro b6 a w S)
  (refine wso S rfl rfl ?_; clear S; intro w S)
  (revert S a; revert hZ Z; refine go 9 ?_; intro Z hZ a S)
  refine wpc_sp S rfl ?_ ?_ <;> intro h
  ·(refine wp_seq_k ?_; intro Z hZ)
   (refine wpc_mixM [0, 1, 2, 3, 4, 5, 6, 7, 8, 9] [3, 5, 6] [] (.one 0 (.one 1 (.one 2 (.one 3 (.one 4 (.one 5 (.one 6 (.one 7 (.one 8 (.one 9 (.one 10 (.one 11 (.one 12 .nil))))))))))))) [b6] S mixed (by kernel_rfl) ?_; clear S; intro w S)
   (revert S a; refine go 3 ?_; intro a S)
   (refine wlF S rfl (fun w' S => sv_loadF S rfl rfl hcc) ?_; clear S a; intro a S)
   (revert S a; refine go 2 ?_; intro a S)
   (refine wlF S rfl (fun w' S => sv_lookupF (enc := kS) S rfl rfl rfl hes) ?_; clear S a; intro a S)
   (obtain ⟨y, ap, cp, ac, cc, hgd, hps, hfs, hy, his⟩ := get_kc hm x.1.nm; rw [if_pos rfl, hgd, his] at S)
   (revert S a; refine go 4 ?_; intro a S)
   (refine wpl_alloc S rfl rfl rfl rfl ?_; clear S a; intro b7 a w S)
   (revert S a; refine go 2 ?_; intro a S)
   (refine wso S rfl rfl ?_; clear S; intro w S)
   (revert S a; revert hZ Z; refine go 13 ?_; intro a S)
   refine wpc_sp S rfl ?_ ?_ <;> intro h
   ·(revert S a; refine go 8 ?_; intro a S)
    refine wp_ret (fr1 S Tryz.results143 ?_)
    exact zzDeK0
   (revert S a; refine go 11 ?_; intro a S)
   refine wpc_sp S rfl ?_ ?_ <;> intro h
   ·(revert S a; refine go 8 ?_; intro a S)
    refine wp_ret (fr1 S Tryz.results143 ?_)
    exact zzDeK0
   (revert S a; revert hZ Z; refine go 2 ?_; intro a S)
   (refine wp_seq_k ?_; intro Z hZ)
   (have hz1 : exprE css x.1 x.2.len = 0 := (by first | (exact exprE_no (by omega)) | (rw [exprE_some (by omega) (some_of hy (by assumption)), if_neg (by omega)])))
   (revert S a; refine go 4 ?_; intro a S)
   (refine wc0 S (ih x.2.size (by omega) x.2 _ (Nat.le_refl _) hT1) ?_; clear S a; intro v9 a w hv S)
   (revert S a; revert hZ Z; refine go 5 ?_; intro Z hZ a S)
   (refine wv S (sv_neErr S rfl rfl hv) ?_; clear S a; intro a S)
   (revert S a; revert hZ Z; refine go 2 ?_; intro a S)
   refine wpc_sp S rfl ?_ ?_ <;> intro h
   ·(revert S a; refine go 5 ?_; intro a S)
    refine wp_ret (fr1 S Tryz.results143 ?_)
    exact zzDeK0
   (revert S a; revert hZ Z; refine go 6 ?_; intro a S)
   change ∃ m', _ ∧ _
   exact zzDeK1
  refine wp_skip ?_
  (refine hZ _ _ ?_; clear hZ Z)
  (refine wp_seq_k ?_; intro Z hZ)
  (have hz1 : exprE css x.1 x.2.len = 0 := (by first | (exact exprE_no (by omega)) | (rw [exprE_some (by omega) (some_of hy (by assumption)), if_neg (by omega)])))
  (revert S a; refine go 4 ?_; intro a S)
  (refine wc0 S (ih x.2.size (by omega) x.2 _ (Nat.le_refl _) hT1) ?_; clear S a; intro v9 a w hv S)
  (revert S a; revert hZ Z; refine go 5 ?_; intro Z hZ a S)
  (refine wv S (sv_neErr S rfl rfl hv) ?_; clear S a; intro a S)
  (revert S a; revert hZ Z; refine go 2 ?_; intro a S)
  refine wpc_sp S rfl ?_ ?_ <;> intro h
  ·(revert S a; refine go 5 ?_; intro a S)
   refine wp_ret (fr1 S Tryz.results143 ?_)
   exact zzDeK0
  (revert S a; revert hZ Z; refine go 6 ?_; intro a S)
  change ∃ m', _ ∧ _
  exact zzDeK1
 (refine wp_exit ?_; conv => whnf)
 clear hZ Z
 (revert S a; revert hZ Z; refine go 5 ?_; intro a S)
 refine wp_ret (fr1 S Tryz.results143 ?_)
 exact zzDeK0
theorem bodyE_cons (css : List KC) (rs : List RD) (x : LT) (r : List LT) : bodyE css rs (x :: r) = if litE rs x ≠ 0 then litE rs x else if exprsE css x.args ≠ 0 then exprsE css x.args else bodyE css rs r := rfl
theorem zzDeL0 {p : Prop} (h : p := by (first | (have hz : bodyE css rs l = 0 := (by rw [hfe, List.drop_eq_nil_of_le (by omega)]; rfl); rw [hz]; exact errV_0) | (have h9 := hz1; have hne : exprsE css x.args ≠ 0 := (by first | assumption | simpa using h); have e9 : bodyE css rs l = exprsE css x.args := (by rw [hfe, drop_at hx, bodyE_cons, if_neg (fun h => h hz1), if_pos hne]); rw [e9]; exact hv) | (have hz1 : litE rs x = 63 := litE_none (by omega) (none_of (by assumption)); have e9 : bodyE css rs l = 63 := (by rw [hfe, drop_at hx, bodyE_cons, hz1]; rfl); rw [e9]; exact errV_of (by decide)) | (have hz1 : litE rs x = 70 := (by rw [litE_some (by omega) (some_of hy (by assumption)), if_pos (by omega)]); have e9 : bodyE css rs l = 70 := (by rw [hfe, drop_at hx, bodyE_cons, hz1]; rfl); rw [e9]; exact errV_of (by decide)) | trace_state)) : p := h
theorem zzDeL1 {p : Prop} (h : p := by (rw [← hao] at S; (first | (replace S := S.drop1.drop1) | (replace S := S.drop1)); have hz2 : exprsE css x.args = 0 := (by first | assumption | omega | (simp_all; done)); refine ⟨l.length - (k + 1), by omega, k + 1, rfl, by omega, by rw [hfe, drop_at hx, bodyE_cons, if_neg (fun h => h hz1), if_neg (fun h => h hz2)], ?_⟩; refine S.keep ?_; exact zk)) : p := h
theorem bodyCt (F : Heap) (tb m1 m2 m3 : Nat) (ts : List TD) (css : List KC) (rs : List RD) (hT : TabS F tb m1 m2 m3 ts css rs) (l : List LT) (v : Value) (h : LiM F 5 LtR v l) :
  Ct Tryz.prog 98 [.pointer (some ⟨tb, 0, none⟩), v] F [] (fun _ _ u => ErrV (bodyE css rs l) u) := by
 obtain ⟨ao, cap, rfl, hcap, hpos⟩ := h
 have hcc : Cel F tb 2 (.map (some m3)) := hT.c 2 _ rfl
 obtain ⟨es, hes, hm⟩ := hT.r
 refine Ct.enter Tryz.func98 rfl Tryz.ntmps98 rfl fun w0 a S => ?_
 (revert S a; refine go 12 ?_; intro Z hZ a S)
 refine wpc_loop (fun m a w' => ∃ (k : Nat), m = l.length - k ∧ k ≤ l.length ∧ bodyE css rs l = bodyE css rs (l.drop k) ∧ St 61 [(0, ptr tb), (10, .slice ao l.length cap), (11, .int .i64 l.length), (12, .int .i64 k)] w0 F [] F [] a w') ?_ ?_
 ·(refine ⟨l.length, 0, by omega, Nat.zero_le _, rfl, ?_⟩; refine S.keep ?_; exact zk)
 (clear S; rintro m a w ⟨k, rfl, hkl, hfe, S⟩)
 (revert S a; refine go 5 ?_; intro Z hZ a S)
 refine wpc_sp S rfl ?_ ?_ <;> intro h
 ·(revert S a; revert hZ Z; refine go 4 ?_; intro Z hZ a S)
  (refine wp_seq_k ?_; intro Z hZ)
  (obtain ⟨b8, o8, hao, x, cs1, hx, hc1, ⟨v1, rfl, hT1⟩⟩ := LiM.pos hpos (k := k) (by omega); rw [hao] at S; have hT1c := hT1; obtain ⟨a91, c91, rfl, -⟩ := hT1c)
  (revert S a; refine go 3 ?_; intro a S)
  (refine wpl_alloc S rfl rfl rfl rfl ?_; clear S a; intro b6 a w S)
  (refine wso S rfl rfl ?_; clear S; intro w S)
  (revert S a; revert hZ Z; refine go 8 ?_; intro Z hZ Z hZ a S)
  refine wgd S ?_ ?_
  ·(clear S; intro h S)
   (revert S a; revert hZ Z; refine go 8 ?_; intro a S)
   refine wpc_sp S rfl ?_ ?_ <;> intro h
   ·(refine wp_seq_k ?_; intro Z hZ)
    (refine wpc_mixM [0, 1, 2, 3, 4, 5, 6, 7, 8, 9] [3, 5, 6] [] (.one 0 (.one 1 (.one 2 (.one 3 (.one 4 (.one 5 (.one 6 (.one 7 (.one 8 (.one 9 (.one 10 (.one 11 (.one 12 .nil))))))))))))) [b6] S mixed (by kernel_rfl) ?_; clear S; intro w S)
    (revert S a; refine go 3 ?_; intro a S)
    (refine wlF S rfl (fun w' S => sv_loadF S rfl rfl hcc) ?_; clear S a; intro a S)
    (revert S a; refine go 2 ?_; intro a S)
    (refine wlF S rfl (fun w' S => sv_lookupF (enc := kS) S rfl rfl rfl hes) ?_; clear S a; intro a S)
    (obtain ⟨y, ac, cc, hgd, hfs, hy, his⟩ := get_rd hm x.rel; rw [if_pos rfl, hgd, his] at S)
    (revert S a; refine go 4 ?_; intro a S)
    (refine wpl_alloc S rfl rfl rfl rfl ?_; clear S a; intro b7 a w S)
    (revert S a; refine go 2 ?_; intro a S)
    (refine wso S rfl rfl ?_; clear S; intro w S)
    (revert S a; revert hZ Z; refine go 13 ?_; intro a S)
    refine wpc_sp S rfl ?_ ?_ <;> intro h
    ·(revert S a; refine go 8 ?_; intro a S)
     refine wp_ret (fr1 S Tryz.results98 ?_)
     exact zzDeL0
    (revert S a; refine go 11 ?_; intro a S)
    refine wpc_sp S rfl ?_ ?_ <;> intro h
    ·(revert S a; refine go 8 ?_; intro a S)
     refine wp_ret (fr1 S Tryz.results98 ?_)
     exact zzDeL0
    (revert S a; revert hZ Z; refine go 2 ?_; intro a S)
    (refine wp_seq_k ?_; intro Z hZ)
    (have hz1 : litE rs x = 0 := (by first | (exact litE_no (by omega)) | (rw [litE_some (by omega) (some_of hy (by assumption)), if_neg (by omega)])))
    (revert S a; refine go 4 ?_; intro a S)
    (refine wc0 S (exprsCt F tb m1 m2 m3 ts css rs hT x.args.size x.args _ (Nat.le_refl _) hT1) ?_; clear S a; intro v9 a w hv S)
    (revert S a; revert hZ Z; refine go 5 ?_; intro Z hZ a S)
    (refine wv S (sv_neErr S rfl rfl hv) ?_; clear S a; intro a S)
    (revert S a; revert hZ Z; refine go 2 ?_; intro a S)
    refine wpc_sp S rfl ?_ ?_ <;> intro h
    ·(revert S a; refine go 5 ?_; intro a S)
     refine wp_ret (fr1 S Tryz.results98 ?_)
     exact zzDeL0
    (revert S a; revert hZ Z; refine go 6 ?_; intro a S)
    change ∃ m', _ ∧ _
    exact zzDeL1
   (revert S a; revert hZ Z; refine go 2 ?_; intro a S)
   (refine wp_seq_k ?_; intro Z hZ)
   (have hz1 : litE rs x = 0 := (by first | (exact litE_no (by omega)) | (rw [litE_some (by omega) (some_of hy (by assumption)), if_neg (by omega)])))
   (revert S a; refine go 4 ?_; intro a S)
   (refine wc0 S (exprsCt F tb m1 m2 m3 ts css rs hT x.args.size x.args _ (Nat.le_refl _) hT1) ?_; clear S a; intro v9 a w hv S)
   (revert S a; revert hZ Z; refine go 5 ?_; intro Z hZ a S)
   (refine wv S (sv_neErr S rfl rfl hv) ?_; clear S a; intro a S)
   (revert S a; revert hZ Z; refine go 2 ?_; intro a S)
   refine wpc_sp S rfl ?_ ?_ <;> intro h
   ·(revert S a; refine go 5 ?_; intro a S)
    refine wp_ret (fr1 S Tryz.results98 ?_)
    exact zzDeL0
   (revert S a; revert hZ Z; refine go 6 ?_; intro a S)
   change ∃ m', _ ∧ _
   exact zzDeL1
  (clear S a; intro h a S)
  (revert S a; revert hZ Z; refine go 5 ?_; intro a S)
  refine wpc_true S rfl ?_
  (refine wp_seq_k ?_; intro Z hZ)
  (refine wpc_mixM [0, 1, 2, 3, 4, 5, 6, 7, 8, 9] [3, 5, 6] [] (.one 0 (.one 1 (.one 2 (.one 3 (.one 4 (.one 5 (.one 6 (.one 7 (.one 8 (.one 9 (.one 10 (.one 11 (.one 12 .nil))))))))))))) [b6] S mixed (by kernel_rfl) ?_; clear S; intro w S)
  (revert S a; refine go 3 ?_; intro a S)
  (refine wlF S rfl (fun w' S => sv_loadF S rfl rfl hcc) ?_; clear S a; intro a S)
  (revert S a; refine go 2 ?_; intro a S)
  (refine wlF S rfl (fun w' S => sv_lookupF (enc := kS) S rfl rfl rfl hes) ?_; clear S a; intro a S)
  (obtain ⟨y, ac, cc, hgd, hfs, hy, his⟩ := get_rd hm x.rel; rw [if_pos rfl, hgd, his] at S)
  (revert S a; refine go 4 ?_; intro a S)
  (refine wpl_alloc S rfl rfl rfl rfl ?_; clear S a; intro b7 a w S)
  (revert S a; refine go 2 ?_; intro a S)
  (refine wso S rfl rfl ?_; clear S; intro w S)
  (revert S a; revert hZ Z; refine go 13 ?_; intro a S)
  refine wpc_sp S rfl ?_ ?_ <;> intro h
  ·(revert S a; refine go 8 ?_; intro a S)
   refine wp_ret (fr1 S Tryz.results98 ?_)
   exact zzDeL0
  (revert S a; refine go 11 ?_; intro a S)
  refine wpc_sp S rfl ?_ ?_ <;> intro h
  ·(revert S a; refine go 8 ?_; intro a S)
   refine wp_ret (fr1 S Tryz.results98 ?_)
   exact zzDeL0
  refine wp_skip ?_
  (refine hZ _ _ ?_; clear hZ Z)
  (refine wp_seq_k ?_; intro Z hZ)
  (have hz1 : litE rs x = 0 := (by first | (exact litE_no (by omega)) | (rw [litE_some (by omega) (some_of hy (by assumption)), if_neg (by omega)])))
  (revert S a; refine go 4 ?_; intro a S)
  (refine wc0 S (exprsCt F tb m1 m2 m3 ts css rs hT x.args.size x.args _ (Nat.le_refl _) hT1) ?_; clear S a; intro v9 a w hv S)
  (revert S a; revert hZ Z; refine go 5 ?_; intro Z hZ a S)
  (refine wv S (sv_neErr S rfl rfl hv) ?_; clear S a; intro a S)
  (revert S a; revert hZ Z; refine go 2 ?_; intro a S)
  refine wpc_sp S rfl ?_ ?_ <;> intro h
  ·(revert S a; refine go 5 ?_; intro a S)
   refine wp_ret (fr1 S Tryz.results98 ?_)
   exact zzDeL0
  (revert S a; revert hZ Z; refine go 6 ?_; intro a S)
  change ∃ m', _ ∧ _
  exact zzDeL1
 (refine wp_exit ?_; conv => whnf)
 clear hZ Z
 (revert S a; revert hZ Z; refine go 5 ?_; intro a S)
 refine wp_ret (fr1 S Tryz.results98 ?_)
 exact zzDeL0
theorem zzDeL2 {p : Prop} (h : p := by (first | (rw [ruleE_none (none_of (by assumption))]; exact errV_of (by decide)) | (rw [ruleE_some (some_of hy (by assumption))]; first | (rw [if_pos (by assumption)]; exact errV_of (by decide)) | (rw [if_neg (by simp [*]), if_pos (by omega)]; exact errV_of (by decide)) | (rw [if_neg (by simp [*]), if_neg (by omega), if_pos (by omega)]; exact errV_of (by decide)) | (have hne : exprsE css x.args ≠ 0 := (by first | assumption | simpa using h); rw [if_neg (by simp [*]), if_neg (by omega), if_neg (by omega), if_pos hne]; exact hv) | (have hz : exprsE css x.args = 0 := (by first | assumption | simpa using h); rw [if_neg (by simp [*]), if_neg (by omega), if_neg (by omega), if_neg (fun h => h hz)]; exact hv8)) | trace_state)) : p := h
theorem ruleCt (F : Heap) (tb m1 m2 m3 : Nat) (ts : List TD) (css : List KC) (rs : List RD) (hT : TabS F tb m1 m2 m3 ts css rs) (x : RU) (cs : List Value) (h : RuR F x cs) :
  Ct Tryz.prog 97 [.pointer (some ⟨tb, 0, none⟩), .agg ⟨cs⟩] F [] (fun _ _ u => ErrV (ruleE css rs x) u) := by
 obtain ⟨v1, v2, v3, rfl, h1, h2, h3⟩ := h
 have h1c := h1
 obtain ⟨a1, c1, rfl, -, -⟩ := h1c
 obtain ⟨a2, c2, rfl, -, -⟩ := h2
 have h3c := h3
 obtain ⟨a3, c3, rfl, -, -⟩ := h3c
 have hcc : Cel F tb 2 (.map (some m3)) := hT.c 2 _ rfl
 obtain ⟨es, hes, hm⟩ := hT.r
 refine Ct.enter Tryz.func97 rfl Tryz.ntmps97 rfl fun w0 a S => ?_
 refine wp_sr fun Z hZ => ?_
 (refine wbx S ?_; clear S a; intro b3 a w S)
 (revert S a; revert hZ Z; refine go 3 ?_; intro a S)
 (refine wp_seq_k ?_; intro Z hZ)
 (refine wpc_mixM [0, 1, 2, 3, 4, 5, 6, 7, 8, 9] [3, 5, 6] [] (.one 0 (.one 1 (.one 2 (.one 3 (.one 4 (.one 5 (.one 6 (.one 7 (.one 8 (.one 9 (.one 10 (.one 11 (.one 12 .nil))))))))))))) [b3] S mixed (by kernel_rfl) ?_; clear S; intro w S)
 (revert S a; refine go 3 ?_; intro a S)
 (refine wlF S rfl (fun w' S => sv_loadF S rfl rfl hcc) ?_; clear S a; intro a S)
 (revert S a; refine go 2 ?_; intro a S)
 (refine wlF S rfl (fun w' S => sv_lookupF (enc := kS) S rfl rfl rfl hes) ?_; clear S a; intro a S)
 (obtain ⟨y, ac, cc, hgd, hfs, hy, his⟩ := get_rd hm x.rel; rw [if_pos rfl, hgd, his] at S)
 (revert S a; refine go 4 ?_; intro a S)
 (refine wpl_alloc S rfl rfl rfl rfl ?_; clear S a; intro b5 a w S)
 (revert S a; refine go 2 ?_; intro a S)
 (refine wso S rfl rfl ?_; clear S; intro w S)
 (revert S a; revert hZ Z; refine go 14 ?_; intro Z hZ a S)
 refine wpc_sp S rfl ?_ ?_ <;> intro h
 ·(revert S a; refine go 8 ?_; intro a S)
  refine wp_ret (fr1 S Tryz.results97 ?_)
  exact zzDeL2
 (revert S a; refine go 6 ?_; intro a S)
 refine wpc_sp S rfl ?_ ?_ <;> intro h
 ·(revert S a; refine go 8 ?_; intro a S)
  refine wp_ret (fr1 S Tryz.results97 ?_)
  exact zzDeL2
 (revert S a; refine go 11 ?_; intro a S)
 refine wpc_sp S rfl ?_ ?_ <;> intro h
 ·(revert S a; refine go 8 ?_; intro a S)
  refine wp_ret (fr1 S Tryz.results97 ?_)
  exact zzDeL2
 (revert S a; refine go 11 ?_; intro a S)
 refine wpc_sp S rfl ?_ ?_ <;> intro h
 ·(revert S a; refine go 8 ?_; intro a S)
  refine wp_ret (fr1 S Tryz.results97 ?_)
  exact zzDeL2
 (revert S a; revert hZ Z; refine go 7 ?_; intro Z hZ Z hZ a S)
 (refine wc0 S (exprsCt F tb m1 m2 m3 ts css rs hT x.args.size x.args _ (Nat.le_refl _) h1) ?_; clear S a; intro v9 a w hv S)
 (revert S a; revert hZ Z; refine go 5 ?_; intro Z hZ a S)
 (refine wv S (sv_neErr S rfl rfl hv) ?_; clear S a; intro a S)
 (revert S a; revert hZ Z; refine go 2 ?_; intro a S)
 refine wpc_sp S rfl ?_ ?_ <;> intro h
 ·(revert S a; refine go 5 ?_; intro a S)
  refine wp_ret (fr1 S Tryz.results97 ?_)
  exact zzDeL2
 (revert S a; revert hZ Z; refine go 6 ?_; intro Z hZ a S)
 (refine wc0 S (bodyCt F tb m1 m2 m3 ts css rs hT x.body _ h3) ?_; clear S a; intro v8 a w hv8 S)
 (revert S a; revert hZ Z; refine go 3 ?_; intro a S)
 refine wp_ret (fr1 S Tryz.results97 ?_)
 exact zzDeL2
theorem related1Ct (F : Heap) : CbS F 142 [] [] (fun _ => true) := by
 unfold CbS
 intro F' s hF
 refine Ct.enter Tryz.func142 rfl Tryz.ntmps142 rfl fun w0 a S => ?_
 (revert S a; refine go 8 ?_; intro a S)
 refine wp_ret (fr1 S Tryz.results142 ?_)
 rfl
theorem relatedE_cons (ts : List TD) (seen : List (List UInt8)) (x : RD) (r : List RD) : relatedE ts seen (x :: r) = if x.nm ∈ seen ∨ twiceD x.fs = true then 6 else if fieldsE ts (fun _ => true) x.fs ≠ 0 then fieldsE ts (fun _ => true) x.fs else relatedE ts (seen ++ [x.nm]) r := rfl
theorem zzDeM0 {p : Prop} (h : p := by (first | (have hii : k = l.length := (by omega); have hz : relatedE ts [] l = 0 := (by rw [hfe, List.drop_eq_nil_of_le (by omega)]; rfl); rw [hz]; exact ⟨errV_0, fun _ => ⟨es, rfl, by rw [List.take_of_length_le (by omega)] at hm; exact hm⟩⟩) | (have h9 := hnb; have hne : fieldsE ts (fun _ => true) x.fs ≠ 0 := (by first | assumption | simpa using h); have e9 : relatedE ts [] l = fieldsE ts (fun _ => true) x.fs := (by rw [hfe, drop_at hx, relatedE_cons, if_neg hnb, if_pos hne]); rw [e9]; exact ⟨hv, fun h9 => absurd h9 hne⟩) | (have hb : x.nm ∈ (l.take k).map RD.nm ∨ twiceD x.fs = true := (by simp_all); have e9 : relatedE ts [] l = 6 := (by rw [hfe, drop_at hx, relatedE_cons, if_pos hb]); rw [e9]; exact ⟨errV_of (by decide), fun h9 => absurd h9 (by decide)⟩) | trace_state)) : p := h
theorem relatedCt (F : Heap) (tb m1 m3 : Nat) (ts : List TD) (hT : TyS F tb m1 ts) (hcc : Cel F tb 2 (.map (some m3))) (l : List RD) (v : Value) (h : LiM F 6 RdR v l) (hsz : ∀ x ∈ l, FSz x.fs ∧ x.fs.length ≤ 2000000) :
  Ct Tryz.prog 96 [.pointer (some ⟨tb, 0, none⟩), v] F [[(m3, mObj kS [])]] (fun _ G' u => ErrV (relatedE ts [] l) u ∧ (relatedE ts [] l = 0 → ∃ es, G' = [[(m3, mObj kS es)]] ∧ MapM F RdR RD.nm es l)) := by
 obtain ⟨ao, cap, rfl, hcap, hpos⟩ := h
 refine Ct.enter Tryz.func96 rfl Tryz.ntmps96 rfl fun w0 a S => ?_
 (revert S a; refine go 12 ?_; intro Z hZ a S)
 refine wpc_loop (fun m a w' => ∃ (k : Nat) (es : List (List UInt8 × Value)), m = l.length - k ∧ k ≤ l.length ∧ MapM F RdR RD.nm es (l.take k) ∧ relatedE ts [] l = relatedE ts ((l.take k).map RD.nm) (l.drop k) ∧ St 53 [(0, ptr tb), (10, .slice ao l.length cap), (11, .int .i64 l.length), (12, .int .i64 k)] w0 F [m3] F [[(m3, mObj kS es)]] a w') ?_ ?_
 ·(refine ⟨l.length, 0, [], by omega, Nat.zero_le _, trivial, rfl, ?_⟩; refine S.keep ?_; exact zk)
 (clear S; rintro m a w ⟨k, es, rfl, hkl, hm, hfe, S⟩)
 (revert S a; refine go 5 ?_; intro Z hZ a S)
 refine wpc_sp S rfl ?_ ?_ <;> intro h
 ·(revert S a; revert hZ Z; refine go 4 ?_; intro Z hZ a S)
  (refine wp_seq_k ?_; intro Z hZ)
  (obtain ⟨b8, o8, hao, x, cs1, hx, hc1, ⟨v1, rfl, hT1⟩⟩ := LiM.pos hpos (k := k) (by omega); rw [hao] at S; have hT1c := hT1; obtain ⟨a91, c91, rfl, -⟩ := hT1c; have hxsz := hsz x (List.mem_of_getElem? hx); have htk : l.take (k + 1) = l.take k ++ [x] := (by rw [List.take_add_one, hx]; rfl))
  (revert S a; refine go 3 ?_; intro a S)
  (refine wpl_alloc S rfl rfl rfl rfl ?_; clear S a; intro b6 a w S)
  (refine wso S rfl rfl ?_; clear S; intro w S)
  (revert S a; revert hZ Z; refine go 3 ?_; intro Z hZ a S)
  (refine wp_seq_k ?_; intro Z hZ)
  (refine wpc_mixM [0, 1, 2, 3, 4, 5, 6, 7, 8, 9] [3, 5, 6] [] (.one 0 (.one 1 (.one 2 (.one 3 (.one 4 (.one 5 (.one 6 (.one 7 (.one 8 (.one 9 (.one 10 (.one 11 (.one 12 .nil))))))))))))) [b6, m3] S mixed (by kernel_rfl) ?_; clear S; intro w S)
  (revert S a; refine go 3 ?_; intro a S)
  (refine wlF S rfl (fun w' S => sv_loadF S rfl rfl hcc) ?_; clear S a; intro a S)
  (revert S a; refine go 2 ?_; intro a S)
  (refine wpm_lateO m3 S rfl rfl rfl (want_none _ rfl) rfl rfl (fun w' S => sv_lookupO (enc := kS) S rfl rfl rfl) ?_; clear S a; intro a S)
  (obtain ⟨y, ac, cc, hgd, -, -, -⟩ := get_rd hm x.nm; rw [if_pos rfl, hgd, hm.mem x.nm] at S)
  (revert S a; refine go 4 ?_; intro a S)
  (refine wpl_alloc S rfl rfl rfl rfl ?_; clear S a; intro b7 a w S)
  (revert S a; refine go 2 ?_; intro a S)
  (refine wso S rfl rfl ?_; clear S; intro w S)
  (revert S a; revert hZ Z; refine go 9 ?_; intro Z hZ a S)
  refine wgd S ?_ ?_
  ·(clear S; intro h S)
   (revert S a; refine go 4 ?_; intro a S)
   (refine wc0 S (twiceCt F x.fs _ hT1 hxsz.2) ?_; clear S a; intro v9 a w hv S; subst hv)
   (revert S a; revert hZ Z; refine go 3 ?_; intro a S)
   refine wpc_sp S rfl ?_ ?_ <;> intro h
   ·(revert S a; refine go 8 ?_; intro a S)
    refine wp_ret ?_
    (first | (have h9 := hnb; replace S := S.drop1.drop1) | (have h9 := hx; replace S := S.drop1.drop1) | skip)
    refine fin_ret S (results1 Tryz.results96 (RV.tmp S rfl)) ?_
    exact zzDeM0
   (revert S a; revert hZ Z; refine go 2 ?_; intro a S)
   (refine wp_seq_k ?_; intro Z hZ)
   (have hnb : ¬ (x.nm ∈ (l.take k).map RD.nm ∨ twiceD x.fs = true) := (by rintro (h9 | h9) <;> simp_all); have hms : mSet es x.nm (.agg ⟨[.int .i64 x.l, .int .i64 x.c, .bool x.pub, .bool x.inp, .string (bs x.nm), .slice a91 x.fs.length c91]⟩) = es ++ [(x.nm, .agg ⟨[.int .i64 x.l, .int .i64 x.c, .bool x.pub, .bool x.inp, .string (bs x.nm), .slice a91 x.fs.length c91]⟩)] := mSet_new (by have h9 := hm.mem x.nm; rw [decide_eq_false (fun h8 => hnb (.inl h8))] at h9; exact none_of h9))
   (refine wpc_mixM [0, 1, 2, 3, 4, 5, 6] [3, 5, 6] [] (.one 0 (.one 1 (.one 2 (.one 3 (.one 4 (.one 5 (.one 6 (.one 7 .nil)))))))) [b6] S mixed (by kernel_rfl) ?_; clear S; intro w S)
   (revert S a; refine go 3 ?_; intro a S)
   (refine wlF S rfl (fun w' S => sv_loadF S rfl rfl hcc) ?_; clear S a; intro a S)
   (revert S a; refine go 4 ?_; intro a S)
   (refine wpl_mapSet (enc := kS) S rfl rfl rfl rfl rfl rfl ?_; clear S; intro w S)
   (revert S a; revert hZ Z; refine go 3 ?_; intro a S)
   (refine wp_seq_k ?_; intro Z hZ)
   (replace S : St _ _ _ _ _ F [_, _, [(m3, mObj kS (mSet es x.nm (.agg ⟨[.int .i64 x.l, .int .i64 x.c, .bool x.pub, .bool x.inp, .string (bs x.nm), .slice a91 x.fs.length c91]⟩)))]] _ _ := S; rw [hms] at S)
   (revert S a; refine go 6 ?_; intro a S)
   (refine wc0 S (fieldsCt F tb m1 ts hT x.fs _ hT1 hxsz.1 x.l x.c (fun _ => true) 142 [] [] (related1Ct F)) ?_; clear S a; intro v9 a w hv S)
   (revert S a; revert hZ Z; refine go 5 ?_; intro Z hZ a S)
   (refine wv S (sv_neErr S rfl rfl hv) ?_; clear S a; intro a S)
   (revert S a; revert hZ Z; refine go 2 ?_; intro a S)
   refine wpc_sp S rfl ?_ ?_ <;> intro h
   ·(revert S a; refine go 5 ?_; intro a S)
    refine wp_ret ?_
    (first | (have h9 := hnb; replace S := S.drop1.drop1) | (have h9 := hx; replace S := S.drop1.drop1) | skip)
    refine fin_ret S (results1 Tryz.results96 (RV.tmp S rfl)) ?_
    exact zzDeM0
   (revert S a; revert hZ Z; refine go 6 ?_; intro a S)
   change ∃ m', _ ∧ _
   (rw [← hao] at S; replace S := S.drop1.drop1; have hz2 : fieldsE ts (fun _ => true) x.fs = 0 := (by first | assumption | omega | (simp_all; done)); refine ⟨l.length - (k + 1), by omega, k + 1, _, rfl, by omega, (by rw [htk]; exact hm.app ⟨_, rfl, hT1⟩), (by rw [hfe, drop_at hx, relatedE_cons, if_neg hnb, if_neg (fun h => h hz2), htk, List.map_append]; rfl), ?_⟩; refine S.keep ?_; exact zk)
  (clear S a; intro h a S)
  (revert S a; revert hZ Z; refine go 5 ?_; intro a S)
  refine wpc_true S rfl ?_
  (revert S a; refine go 8 ?_; intro a S)
  refine wp_ret ?_
  (first | (have h9 := hnb; replace S := S.drop1.drop1) | (have h9 := hx; replace S := S.drop1.drop1) | skip)
  refine fin_ret S (results1 Tryz.results96 (RV.tmp S rfl)) ?_
  exact zzDeM0
 (refine wp_exit ?_; conv => whnf)
 clear hZ Z
 (revert S a; revert hZ Z; refine go 5 ?_; intro a S)
 refine wp_ret ?_
 (first | (have h9 := hnb; replace S := S.drop1.drop1) | (have h9 := hx; replace S := S.drop1.drop1) | skip)
 refine fin_ret S (results1 Tryz.results96 (RV.tmp S rfl)) ?_
 exact zzDeM0
end Go.Proofs.YtgefmjghdijbfaaGreatDoor
