/- Walks. -/
import Derived.Test.YtgefmjghdijbfaaGreatDoorKEvalValuesUpto05
import Derived.Test.YtgefmjghdijbfaaGreatDoorKEvalValuesUpto02
import Derived.Test.YtgefmjghdijbfaaGreatDoorKEvalValuesUptoTy
import Derived.WalkKit
import Derived.LaidEql
import Derived.Stop.Asserts
import Derived.RowKitTokens
import Derived.Test.YtgefmjghdijbfaaGreatDoorQ12
set_option maxHeartbeats 64000000
set_option maxRecDepth 20000
namespace Go.Proofs.YtgefmjghdijbfaaGreatDoor
open Go Go.Wk Go.Un Go.De Go.RowKit Go.Extern.Stop Go.Stop Go.Extern
set_option linter.unusedSimpArgs false
set_option linter.unusedVariables false
attribute [local irreducible] Go.wpList Go.Code.wp Go.wpStill Go.Wk.wpPre Go.bodyPost Go.Calls Go.Wk.Ct Go.Wk.OwnS Go.Wk.wpG Go.Wk.wpM
theorem rulesE_cons (css : List KC) (rs : List RD) (x : RU) (r : List RU) : rulesE css rs (x :: r) = if ruleE css rs x ≠ 0 then ruleE css rs x else rulesE css rs r := rfl
theorem neversE_cons (css : List KC) (rs : List RD) (x : NV) (r : List NV) : neversE css rs (x :: r) = if bodyE css rs x.body ≠ 0 then bodyE css rs x.body else neversE css rs r := rfl
def RSz (l : List RD) : Prop := ∀ x ∈ l, FSz x.fs ∧ x.fs.length ≤ 2000000
theorem zzDeQ0 {p : Prop} (h : p := by (first | (have h9 := hfe2; have hzr : rulesE (consOf M.ts) M.rs M.ru = 0 := (by rw [hfe, List.drop_eq_nil_of_le (by omega)]; rfl); first | (have hne : bodyE (consOf M.ts) M.rs x.body ≠ 0 := (by first | assumption | simpa using h); have e1 : neversE (consOf M.ts) M.rs M.nv = bodyE (consOf M.ts) M.rs x.body := (by rw [hfe2, drop_at hx, neversE_cons, if_pos hne]); have e9 : takeE M = bodyE (consOf M.ts) M.rs x.body := (by unfold takeE; rw [if_neg (fun h => h hz1), if_neg (fun h => h hz2), if_neg (fun h => h hzr), e1]); rw [e9]; exact ⟨hv9, fun h9 => absurd h9 hne⟩) | (have e1 : neversE (consOf M.ts) M.rs M.nv = 0 := (by rw [hfe2, List.drop_eq_nil_of_le (by omega)]; rfl); have e9 : takeE M = 0 := (by unfold takeE; rw [if_neg (fun h => h hz1), if_neg (fun h => h hz2), if_neg (fun h => h hzr), e1]); rw [e9]; exact ⟨errV_0, fun _ => hT⟩)) | (have h9 := hfe; have hne : ruleE (consOf M.ts) M.rs x ≠ 0 := (by first | assumption | simpa using h); have e1 : rulesE (consOf M.ts) M.rs M.ru = ruleE (consOf M.ts) M.rs x := (by rw [hfe, drop_at hx, rulesE_cons, if_pos hne]); have e9 : takeE M = ruleE (consOf M.ts) M.rs x := (by unfold takeE; rw [if_neg (fun h => h hz1), if_neg (fun h => h hz2), if_pos (by rw [e1]; exact hne), e1]); rw [e9]; exact ⟨hv9, fun h9 => absurd h9 hne⟩) | (have h9 := hTy; have hne : relatedE M.ts [] M.rs ≠ 0 := (by first | assumption | simpa using h); have e9 : takeE M = relatedE M.ts [] M.rs := (by unfold takeE; rw [if_neg (fun h => h hz1), if_pos hne]); rw [e9]; exact ⟨hv2.1, fun h9 => absurd h9 hne⟩) | (have hne : typedE M.ts ≠ 0 := (by first | assumption | simpa using h); have e9 : takeE M = typedE M.ts := (by unfold takeE; rw [if_pos hne]); rw [e9]; exact ⟨hv.1, fun h9 => absurd h9 hne⟩) | trace_state)) : p := h
theorem takeCt (F : Heap) (tb m1 m2 m3 : Nat) (hcc : Cels F tb 0 [.map (some m1), .map (some m2), .map (some m3)]) (M : MD) (cs : List Value) (h : MdR F M cs) (hts : TSz M.ts) (hrs : RSz M.rs) :
  Ct Tryz.prog 51 [.pointer (some ⟨tb, 0, none⟩), .agg ⟨cs⟩] F [[(m1, mObj kS [])], [(m2, mObj kS [])], [(m3, mObj kS [])]] (fun F' G' u => ErrV (takeE M) u ∧ (takeE M = 0 → TabS F' tb m1 m2 m3 M.ts (consOf M.ts) M.rs)) := by
 obtain ⟨i1, i2, i3, v1, v2, v3, v4, rfl, h1, h2, h3, h4⟩ := h
 have h1c := h1
 obtain ⟨ao1, cap1, rfl, -, -⟩ := h1c
 have h2c := h2
 obtain ⟨ao2, cap2, rfl, -, -⟩ := h2c
 obtain ⟨ao3, cap3, rfl, hcap3, hpos3⟩ := h3
 obtain ⟨ao4, cap4, rfl, hcap4, hpos4⟩ := h4
 have hc3 : Cel F tb 2 (.map (some m3)) := hcc 2 _ rfl
 refine Ct.enter Tryz.func51 rfl Tryz.ntmps51 rfl fun w0 a S => ?_
 refine wp_sr fun Z hZ => ?_
 (refine wbx S ?_; clear S a; intro b3 a w S)
 (revert S a; revert hZ Z; refine go 8 ?_; intro Z hZ Z hZ a S)
 (refine wpl_call (Gs := [[(m1, mObj kS [])], [(m2, mObj kS [])]]) (Gr := [[(m3, mObj kS [])], [(b3, _)]]) S rfl rfl rfl rfl rfl rfl (typedCt F tb m1 m2 m3 hcc M.ts _ h1 hts) rfl (by exact List.perm_append_comm (l₁ := [_]) (l₂ := [_, _, _])) ?_; clear S a; intro u9 F1 G1 a w hv hF1 S; replace S : St _ _ _ _ _ F1 ([(m3, mObj kS [])] :: [(b3, _)] :: G1) _ _ := St.rotG S)
 (revert S a; revert hZ Z; refine go 5 ?_; intro Z hZ a S)
 (refine wv S (sv_neErr S rfl rfl hv.1) ?_; clear S a; intro a S)
 (revert S a; revert hZ Z; refine go 2 ?_; intro a S)
 refine wpc_sp S rfl ?_ ?_ <;> intro h
 ·(revert S a; refine go 5 ?_; intro a S)
  refine wp_ret (fr1 S Tryz.results51 ?_)
  exact zzDeQ0
 (revert S a; revert hZ Z; refine go 3 ?_; intro Z hZ a S)
 (refine wp_seq_k ?_; intro Z hZ)
 (have hz1 : typedE M.ts = 0 := (by first | assumption | simpa using h); obtain ⟨rfl, hM1, hM2⟩ := hv.2 hz1; have hTy : TyS F1 tb m1 M.ts := ⟨(hcc 0 _ rfl : Cel F tb 0 _).mono hF1, hM1⟩)
 (revert S a; refine go 4 ?_; intro a S)
 (refine wpl_call (Gs := [[(m3, mObj kS [])]]) (Gr := [[(b3, _)]]) S rfl rfl rfl rfl rfl rfl (relatedCt F1 tb m1 m3 M.ts hTy (hc3.mono hF1) M.rs _ (h2.mono hF1) hrs) rfl (by exact List.Perm.refl _) ?_; clear S a; intro u8 F2 G2 a w hv2 hF2 S; replace S : St _ _ _ _ _ F2 ([(b3, _)] :: G2) _ _ := St.rotG S)
 (revert S a; revert hZ Z; refine go 5 ?_; intro Z hZ a S)
 (refine wv S (sv_neErr S rfl rfl hv2.1) ?_; clear S a; intro a S)
 (revert S a; revert hZ Z; refine go 2 ?_; intro a S)
 refine wpc_sp S rfl ?_ ?_ <;> intro h
 ·(revert S a; refine go 5 ?_; intro a S)
  refine wp_ret (fr1 S Tryz.results51 ?_)
  exact zzDeQ0
 (revert S a; revert hZ Z; refine go 3 ?_; intro Z hZ a S)
 (refine wp_seq_k ?_; intro Z hZ)
 (have hz2 : relatedE M.ts [] M.rs = 0 := (by first | assumption | simpa using h); obtain ⟨es3, rfl, hM3⟩ := hv2.2 hz2; replace S : St _ _ _ _ _ F2 [[(m3, mObj kS es3)], [(b3, .cells ⟨[.string (bs M.nm), .slice i1 i2 i3, .slice ao1 M.ts.length cap1, .slice ao2 M.rs.length cap2, .slice ao3 M.ru.length cap3, .slice ao4 M.nv.length cap4]⟩ 28 (0, 0))]] _ _ := St.permI S 2 rfl [1, 0] (by decide); have hle3 := add_le (G1 := []) S; replace S := St.freeze (G1 := []) S; (try simp only [List.nil_append] at S hle3); have hm3 : (F2.add [(m3, mObj kS es3)]) m3 = some (mObj kS es3) := Heap.add_new (p := (m3, _)) (List.mem_singleton.2 rfl) (by simp); generalize (F2.add [(m3, mObj kS es3)]) = F3 at S hle3 hm3; have hF13 : ∀ b o, F1 b = some o → F3 b = some o := (fun b o h => hle3 _ _ (hF2 _ _ h)); have hF03 : ∀ b o, F b = some o → F3 b = some o := (fun b o h => hF13 _ _ (hF1 _ _ h)); have hT : TabS F3 tb m1 m2 m3 M.ts (consOf M.ts) M.rs := ⟨Cels.mono hF03 hcc, hM1.mono hF13, hM2.mono hF13, ⟨es3, hm3, hM3.mono hF13⟩⟩)
 (revert S a; revert hZ Z; refine go 8 ?_; intro a S)
 refine wpc_loop (fun m a w' => ∃ (k : Nat), m = M.ru.length - k ∧ k ≤ M.ru.length ∧ rulesE (consOf M.ts) M.rs M.ru = rulesE (consOf M.ts) M.rs (M.ru.drop k) ∧ St 56 [(0, ptr tb), (3, ptr b3), (28, .slice ao3 M.ru.length cap3), (29, .int .i64 M.ru.length), (30, .int .i64 k)] w0 F [m1, m2, m3] F3 [[(b3, .cells ⟨[.string (bs M.nm), .slice i1 i2 i3, .slice ao1 M.ts.length cap1, .slice ao2 M.rs.length cap2, .slice ao3 M.ru.length cap3, .slice ao4 M.nv.length cap4]⟩ 28 (0, 0))]] a w') ?_ ?_
 ·(refine ⟨M.ru.length, 0, by omega, Nat.zero_le _, rfl, ?_⟩; refine S.keep ?_; exact zk)
 (clear S; rintro m a w ⟨k, rfl, hkl, hfe, S⟩)
 (revert S a; refine go 5 ?_; intro Z hZ a S)
 refine wpc_sp S rfl ?_ ?_ <;> intro h
 ·(revert S a; revert hZ Z; refine go 4 ?_; intro Z hZ a S)
  (refine wp_seq_k ?_; intro Z hZ)
  (obtain ⟨bq, oq, hao, x, cs1, hx, hd1, ⟨w1, w2, w3, rfl, hx1, hx2, hx3⟩⟩ := LiM.pos hpos3 (k := k) (by omega); rw [hao] at S; replace hd1 := Cels.mono hF03 hd1; replace hx1 := hx1.mono hF03; replace hx2 := hx2.mono hF03; replace hx3 := hx3.mono hF03; have y1 := hx1; have y2 := hx2; have y3 := hx3; obtain ⟨p1, q1, rfl, -, -⟩ := y1; obtain ⟨p2, q2, rfl, -, -⟩ := y2; obtain ⟨p3, q3, rfl, -, -⟩ := y3)
  (revert S a; refine go 3 ?_; intro a S)
  (refine wpl_alloc S rfl rfl rfl rfl ?_; clear S a; intro b8 a w S)
  (refine wso S rfl rfl ?_; clear S; intro w S)
  (revert S a; revert hZ Z; refine go 5 ?_; intro Z hZ a S)
  (refine wc0 S (ruleCt F3 tb m1 m2 m3 M.ts (consOf M.ts) M.rs hT x _ ⟨_, _, _, rfl, hx1, hx2, hx3⟩) ?_; clear S a; intro v9 a w hv9 S)
  (revert S a; revert hZ Z; refine go 5 ?_; intro Z hZ a S)
  (refine wv S (sv_neErr S rfl rfl hv9) ?_; clear S a; intro a S)
  (revert S a; revert hZ Z; refine go 2 ?_; intro a S)
  refine wpc_sp S rfl ?_ ?_ <;> intro h
  ·(revert S a; refine go 5 ?_; intro a S)
   refine wp_ret (fr1 S Tryz.results51 ?_)
   exact zzDeQ0
  (revert S a; revert hZ Z; refine go 6 ?_; intro a S)
  change ∃ m', _ ∧ _
  (have hz : ruleE (consOf M.ts) M.rs x = 0 := (by first | assumption | (simp_all; done)); rw [← hao] at S; replace S := S.drop1; refine ⟨M.ru.length - (k + 1), by omega, k + 1, rfl, by omega, (by rw [hfe, drop_at hx, rulesE_cons, if_neg (fun h => h hz)]), ?_⟩; refine S.keep ?_; exact zk)
 (refine wp_exit ?_; conv => whnf)
 clear hZ Z
 (revert S a; revert hZ Z; refine go 10 ?_; intro Z hZ a S)
 refine wpc_loop (fun m a w' => ∃ (k : Nat), m = M.nv.length - k ∧ k ≤ M.nv.length ∧ neversE (consOf M.ts) M.rs M.nv = neversE (consOf M.ts) M.rs (M.nv.drop k) ∧ St 56 [(0, ptr tb), (42, .slice ao4 M.nv.length cap4), (43, .int .i64 M.nv.length), (44, .int .i64 k)] w0 F [m1, m2, m3] F3 [] a w') ?_ ?_
 ·(have hzr : rulesE (consOf M.ts) M.rs M.ru = 0 := (by rw [hfe, List.drop_eq_nil_of_le (by omega)]; rfl); replace S := S.drop1; refine ⟨M.nv.length, 0, by omega, Nat.zero_le _, rfl, ?_⟩; refine S.keep ?_; exact zk)
 (clear S; rintro m a w ⟨k2, rfl, hkl2, hfe2, S⟩)
 (revert S a; refine go 5 ?_; intro Z hZ a S)
 refine wpc_sp S rfl ?_ ?_ <;> intro h
 ·(revert S a; revert hZ Z; refine go 4 ?_; intro Z hZ a S)
  (refine wp_seq_k ?_; intro Z hZ)
  (obtain ⟨bq, oq, hao, x, cs1, hx, hd1, ⟨w3, rfl, hx3⟩⟩ := LiM.pos hpos4 (k := k2) (by omega); rw [hao] at S; replace hd1 := Cels.mono hF03 hd1; replace hx3 := hx3.mono hF03; have y3 := hx3; obtain ⟨p3, q3, rfl, -, -⟩ := y3)
  (revert S a; refine go 3 ?_; intro a S)
  (refine wpl_alloc S rfl rfl rfl rfl ?_; clear S a; intro b11 a w S)
  (refine wso S rfl rfl ?_; clear S; intro w S)
  (revert S a; revert hZ Z; refine go 6 ?_; intro Z hZ a S)
  (refine wc0 S (bodyCt F3 tb m1 m2 m3 M.ts (consOf M.ts) M.rs hT x.body _ hx3) ?_; clear S a; intro v9 a w hv9 S)
  (revert S a; revert hZ Z; refine go 5 ?_; intro Z hZ a S)
  (refine wv S (sv_neErr S rfl rfl hv9) ?_; clear S a; intro a S)
  (revert S a; revert hZ Z; refine go 2 ?_; intro a S)
  refine wpc_sp S rfl ?_ ?_ <;> intro h
  ·(revert S a; refine go 5 ?_; intro a S)
   refine wp_ret (fr1 S Tryz.results51 ?_)
   exact zzDeQ0
  (revert S a; revert hZ Z; refine go 6 ?_; intro a S)
  change ∃ m', _ ∧ _
  (have hz : bodyE (consOf M.ts) M.rs x.body = 0 := (by first | assumption | (simp_all; done)); rw [← hao] at S; replace S := S.drop1; refine ⟨M.nv.length - (k2 + 1), by omega, k2 + 1, rfl, by omega, (by rw [hfe2, drop_at hx, neversE_cons, if_neg (fun h => h hz)]), ?_⟩; refine S.keep ?_; exact zk)
 (refine wp_exit ?_; conv => whnf)
 clear hZ Z
 (revert S a; revert hZ Z; refine go 5 ?_; intro a S)
 refine wp_ret (fr1 S Tryz.results51 ?_)
 exact zzDeQ0
theorem asNil (t : Value) (w : World) : Calls Tryz.prog 50 #[.nilIface, t] w fun e w' => e = .returned (.bool false) ∧ w' = w := by
 go_enter Tryz.func50, Tryz.ntmps50
 go_wp2
 go_ret
 exact ⟨rfl, rfl⟩
theorem valueOfP (t : Addr) (w : World) : (ReflectliteValue.unpack (.iface 121 (.pointer (some t)))).run Tryz.prog w
  = .ok (.agg #[hd 121, .pointer (some ⟨w.heap.size, 0, none⟩), .int .u64 150]) (w.alloc (.cells #[.pointer (some t)] 121)) := by kernel_rfl
theorem typeP (a : Addr) (w : World) : (ReflectliteValue.methodAny (ReflectliteValue.valueError "reflectlite.Value.Type" 0) (fun t _ _ _ => ReflectliteType.toType t) #[.agg #[hd 121, .pointer (some a), .int .u64 150]]).run Tryz.prog w
  = .ok (.iface 208 (.agg #[hd 121])) w := by kernel_rfl
theorem mKind (h : Value) (w : World) : (Go.method 463 208 (.agg #[h]) "Kind").run Tryz.prog w = .ok (288, h) w := by kernel_rfl
theorem kindP (w : World) : ((ReflectliteType.abiMethod fun t => (fun a : Nat => Value.int IntKind.u8 (a : Int)) <$> Rtype.kind t) #[hd 121]).run Tryz.prog w = .ok (.int .u8 22) w := by kernel_rfl
theorem kindS (w : World) : ((ReflectliteType.abiMethod fun t => (fun a : Nat => Value.int IntKind.u8 (a : Int)) <$> Rtype.kind t) #[hd 116]).run Tryz.prog w = .ok (.int .u8 25) w := by kernel_rfl
theorem rlm (z : Sem Value) (f : TypeId → Addr → Nat → Nat → Sem Value) (v : Value) :
  ReflectliteValue.method z f #[v] = (do match ← ReflectliteValue.parts v with | none => z | some (t, a, fl) => f t a fl (fl % 32)) := rfl
theorem partsP (a : Addr) (w : World) : (ReflectliteValue.parts (.agg #[hd 121, .pointer (some a), .int .u64 150])).run Tryz.prog w = .ok (some (121, a, 150)) w := by kernel_rfl
theorem isNilP (a p : Addr) (W : World) (ha : W.cell? a = some (.pointer (some p))) :
  (ReflectliteValue.method (ReflectliteValue.valueError "reflectlite.Value.IsNil" 0) ReflectliteValue.isNil #[.agg #[hd 121, .pointer (some a), .int .u64 150]]).run Tryz.prog W = .ok (.bool false) W := by
 rw [rlm]
 simp only [Sem.run_bind, partsP, Result.andThen]
 simp [ReflectliteValue.isNil, loadVar, isAgg, underlying, Tryz.underlying121, ha, Result.andThen]
theorem mElem (h : Value) (w : World) : (Go.method 463 208 (.agg #[h]) "Elem").run Tryz.prog w = .ok (300, .agg #[h]) w := by kernel_rfl
theorem mImplements (h : Value) (w : World) : (Go.method 463 208 (.agg #[h]) "Implements").run Tryz.prog w = .ok (301, .agg #[h]) w := by kernel_rfl
theorem mAssignableTo (h : Value) (w : World) : (Go.method 463 208 (.agg #[h]) "AssignableTo").run Tryz.prog w = .ok (298, .agg #[h]) w := by kernel_rfl
theorem elemP (w : World) : (ReflectliteType.method ReflectliteType.elem #[.agg #[hd 121]]).run Tryz.prog w = .ok (.iface 208 (.agg #[hd 116])) w := by kernel_rfl
theorem implementsS (w : World) : (ReflectliteType.relation "Implements" ReflectliteType.implements_ #[.agg #[hd 116], .iface 208 (.agg #[hd 119])]).run Tryz.prog w = .ok (.bool true) w := by kernel_rfl
theorem typeOfS (v : Value) (w : World) : (ReflectliteType.typeOf #[.iface 116 v]).run Tryz.prog w = .ok (.iface 208 (.agg #[hd 116])) w := by kernel_rfl
theorem assignableS (w : World) : (ReflectliteType.relation "AssignableTo" ReflectliteType.assignableTo #[.agg #[hd 116], .iface 208 (.agg #[hd 116])]).run Tryz.prog w = .ok (.bool true) w := by kernel_rfl
theorem valueOfS (l c e : Int) (w : World) : (ReflectliteValue.unpack (.iface 116 (.agg #[.int .i64 l, .int .i64 c, .int .i64 e]))).run Tryz.prog w
  = .ok (.agg #[hd 116, .pointer (some ⟨w.heap.size, 0, none⟩), .int .u64 153]) (w.alloc (.cells #[.int .i64 l, .int .i64 c, .int .i64 e] 116)) := by kernel_rfl
theorem elemOfP (w : World) : (Rtype.elem? 121).run Tryz.prog w = .ok (some 116) w := by kernel_rfl
theorem mkS (p : Addr) (w : World) : (ReflectliteValue.mk 116 p ReflectliteValue.flagAddr).run Tryz.prog w = .ok (.agg #[hd 116, .pointer (some p), .int .u64 409]) w := by kernel_rfl
theorem elemV (a p : Addr) (W : World) (ha : W.cell? a = some (.pointer (some p))) :
  (ReflectliteValue.method (ReflectliteValue.valueError "reflectlite.Value.Elem" 0) ReflectliteValue.elem #[.agg #[hd 121, .pointer (some a), .int .u64 150]]).run Tryz.prog W
   = .ok (.agg #[hd 116, .pointer (some p), .int .u64 409]) W := by
 rw [rlm]
 simp only [Sem.run_bind, partsP, Result.andThen]
 simp [ReflectliteValue.elem, loadVar, isAgg, underlying, Tryz.underlying121, ha, Result.andThen, elemOfP, mkS]
theorem rls (v x : Value) : ReflectliteValue.set #[v, x] = (do
  let (some (dst, a, fl), some (src, b, _)) := (← ReflectliteValue.parts v, ← ReflectliteValue.parts x)
   | unsupported (.noEntry "extern/(internal/reflectlite.Value).Set.zeroValue")
  if fl / ReflectliteValue.flagAddr % 2 == 0 then unsupported (.noEntry "extern/(internal/reflectlite.Value).Set.unaddressable")
  let val ← loadVar src b
  if ← Rtype.directlyAssignable dst src then storeVar dst a val
  else if ← Rtype.implements dst src then
   if (← Rtype.kind src) == 20 then
    match val with
    | .nilIface => unsupported (.noEntry "extern/reflectlite: a nil value of one interface type handed on as a value of another")
    | _ => storeVar dst a val
   else storeVar dst a (.iface src val)
  else panicString ("reflectlite.Set: value of type " ++ (← Rtype.spelt src) ++ " is not assignable to type " ++ (← Rtype.spelt dst))
  pure (.tuple #[])) := rfl
theorem partsSa (a : Addr) (w : World) : (ReflectliteValue.parts (.agg #[hd 116, .pointer (some a), .int .u64 409])).run Tryz.prog w = .ok (some (116, a, 409)) w := by kernel_rfl
theorem partsS (a : Addr) (w : World) : (ReflectliteValue.parts (.agg #[hd 116, .pointer (some a), .int .u64 153])).run Tryz.prog w = .ok (some (116, a, 153)) w := by kernel_rfl
theorem directS (w : World) : (Rtype.directlyAssignable 116 116).run Tryz.prog w = .ok true w := by kernel_rfl
theorem sizeS (w : World) : (sizeOf 116).run Tryz.prog w = .ok 3 w := by kernel_rfl
theorem isAggS (w : World) : (isAgg 116).run Tryz.prog w = .ok true w := by kernel_rfl
theorem setS (bw b : Nat) (l c e : Int) (x y z : Value) (W : World) (hb : ∀ j u, [Value.int .i64 l, .int .i64 c, .int .i64 e][j]? = some u → W.cell? ⟨b, j, none⟩ = some u) (ht : W.heap[bw]? = some (.cells ⟨[x, y, z]⟩ 116 (0, 0))) :
  (ReflectliteValue.set #[.agg #[hd 116, .pointer (some ⟨bw, 0, none⟩), .int .u64 409], .agg #[hd 116, .pointer (some ⟨b, 0, none⟩), .int .u64 153]]).run Tryz.prog W
   = .ok (.tuple #[]) (W.setRow bw ⟨[.int .i64 l, .int .i64 c, .int .i64 e]⟩) := by
 rw [rls]
 simp only [Sem.run_bind, partsSa, partsS, Result.andThen]
 have h1 : (loadVar 116 ⟨b, 0, none⟩).run Tryz.prog W = .ok (.agg ⟨[.int .i64 l, .int .i64 c, .int .i64 e]⟩) W := by
  have h0 := hb 0 _ rfl
  have h1 := hb 1 _ rfl
  have h2 := hb 2 _ rfl
  simp [loadVar, isAggS, sizeS, loadCells, loadCellsFrom, Addr.add, h0, h1, h2, Result.andThen]
 have h2 := run_storeCells_at Tryz.prog bw 0 116 [Value.int .i64 l, .int .i64 c, .int .i64 e] 0 ⟨[x, y, z]⟩ W ht (by simp) (fun u hu => by
  rcases List.mem_cons.1 hu with rfl | hu
  ·rfl
  rcases List.mem_cons.1 hu with rfl | hu
  ·rfl
  rw [List.mem_singleton] at hu; subst hu; rfl)
 have h3 : (storeCells ⟨bw, 0, none⟩ [Value.int .i64 l, Value.int .i64 c, Value.int .i64 e]).run Tryz.prog W = .ok () (W.setRow bw ⟨[.int .i64 l, .int .i64 c, .int .i64 e]⟩) := by simpa using h2
 simp [ReflectliteValue.flagAddr, h1, Result.andThen, directS, storeVar, Value.cells, sizeS, h3]
def asWorld (w : World) (bw : Nat) (l c e : Int) : World := ((((w.alloc (.cells #[.pointer (some ⟨bw, 0, none⟩)] 121)).alloc (.cells #[hd 121, .pointer (some ⟨w.heap.size, 0, none⟩), .int .u64 150] 154)).alloc (.cells #[hd 121, .pointer (some ⟨w.heap.size, 0, none⟩), .int .u64 150] 154)).alloc (.cells #[.int .i64 l, .int .i64 c, .int .i64 e] 116)).setRow bw ⟨[.int .i64 l, .int .i64 c, .int .i64 e]⟩
theorem asHit (l c e : Int) (bw : Nat) (x y z : Value) (w : World) (hg : w.cell? ⟨0, 0, none⟩ = some (.iface 208 (.agg #[hd 119]))) (ht : w.heap[bw]? = some (.cells ⟨[x, y, z]⟩ 116 (0, 0))) :
  Calls Tryz.prog 50 #[.iface 116 (.agg #[.int .i64 l, .int .i64 c, .int .i64 e]), .iface 121 (.pointer (some ⟨bw, 0, none⟩))] w fun ev w' => ev = .returned (.bool true) ∧ w' = asWorld w bw l c e := by
 have h6 := @run_callFunc_extern Tryz.prog 91 _ (fun args => ReflectliteValue.unpack (args.getD 0 (.tuple #[]))) Tryz.func91 (by kernel_rfl) (by kernel_rfl) (by kernel_rfl) (by kernel_rfl)
 have h7 := @run_callFunc_extern Tryz.prog 92 _ (ReflectliteValue.methodAny (ReflectliteValue.valueError "reflectlite.Value.Type" 0) (fun t _ _ _ => ReflectliteType.toType t)) Tryz.func92 (by kernel_rfl) (by kernel_rfl) (by kernel_rfl) (by kernel_rfl)
 have h8 := @run_callFunc_extern Tryz.prog 93 _ (ReflectliteValue.method (ReflectliteValue.valueError "reflectlite.Value.IsNil" 0) ReflectliteValue.isNil) Tryz.func93 (by kernel_rfl) (by kernel_rfl) (by kernel_rfl) (by kernel_rfl)
 have h27 := @run_callFunc_extern Tryz.prog 288 _ (ReflectliteType.abiMethod fun t => do pure (.int .u8 (← Rtype.kind t))) Tryz.func288 (by kernel_rfl) (by kernel_rfl) (by kernel_rfl) (by kernel_rfl)
 have h37 := @run_callFunc_extern Tryz.prog 300 _ (ReflectliteType.method ReflectliteType.elem) Tryz.func300 (by kernel_rfl) (by kernel_rfl) (by kernel_rfl) (by kernel_rfl)
 have h38 := @run_callFunc_extern Tryz.prog 301 _ (ReflectliteType.relation "Implements" ReflectliteType.implements_) Tryz.func301 (by kernel_rfl) (by kernel_rfl) (by kernel_rfl) (by kernel_rfl)
 have h10 := @run_callFunc_extern Tryz.prog 133 _ ReflectliteType.typeOf Tryz.func133 (by kernel_rfl) (by kernel_rfl) (by kernel_rfl) (by kernel_rfl)
 have h35 := @run_callFunc_extern Tryz.prog 298 _ (ReflectliteType.relation "AssignableTo" ReflectliteType.assignableTo) Tryz.func298 (by kernel_rfl) (by kernel_rfl) (by kernel_rfl) (by kernel_rfl)
 have h11 := @run_callFunc_extern Tryz.prog 134 _ (ReflectliteValue.method (ReflectliteValue.valueError "reflectlite.Value.Elem" 0) ReflectliteValue.elem) Tryz.func134 (by kernel_rfl) (by kernel_rfl) (by kernel_rfl) (by kernel_rfl)
 have h12 := @run_callFunc_extern Tryz.prog 135 _ ReflectliteValue.set Tryz.func135 (by kernel_rfl) (by kernel_rfl) (by kernel_rfl) (by kernel_rfl)
 have tO := typeOfS
 have mA := mAssignableTo
 have aS := assignableS
 have vS := valueOfS
 have f6 := valueOfP
 have f7 := typeP
 have mK := mKind
 have mE := mElem
 have mI := mImplements
 have kP := kindP
 have kS := kindS
 have eP := elemP
 have iS := implementsS
 have hlt : bw < w.heap.size := by
  rcases Nat.lt_or_ge bw w.heap.size with h | h
  ·exact h
  ·rw [Array.getElem?_eq_none h] at ht; cases ht
 have hgl : 0 < w.heap.size := by
  rcases Nat.lt_or_ge 0 w.heap.size with h | h
  ·exact h
  ·simp [World.cell?, Array.getElem?_eq_none h] at hg
 have n8 := isNilP ⟨w.heap.size, 0, none⟩ ⟨bw, 0, none⟩ ((w.alloc (.cells #[.pointer (some ⟨bw, 0, none⟩)] 121)).alloc (.cells #[hd 121, .pointer (some ⟨w.heap.size, 0, none⟩), .int .u64 150] 154)) (by simp)
 have hg2 : ((w.alloc (.cells #[.pointer (some ⟨bw, 0, none⟩)] 121)).alloc (.cells #[hd 121, .pointer (some ⟨w.heap.size, 0, none⟩), .int .u64 150] 154)).cell? ⟨0, 0, none⟩ = some (.iface 208 (.agg #[hd 119])) := by
  rw [World.cell?_alloc_lt _ _ ⟨0, 0, none⟩ (by simp), World.cell?_alloc_lt _ _ ⟨0, 0, none⟩ hgl]; exact hg
 have el := elemV ⟨w.heap.size, 0, none⟩ ⟨bw, 0, none⟩ (((w.alloc (.cells #[.pointer (some ⟨bw, 0, none⟩)] 121)).alloc (.cells #[hd 121, .pointer (some ⟨w.heap.size, 0, none⟩), .int .u64 150] 154)).alloc (.cells #[hd 121, .pointer (some ⟨w.heap.size, 0, none⟩), .int .u64 150] 154)) (by rw [World.cell?_alloc_lt _ _ ⟨w.heap.size, 0, none⟩ (by simp; omega)]; simp)
 have st := setS bw (w.heap.size + 1 + 1 + 1) l c e x y z ((((w.alloc (.cells #[.pointer (some ⟨bw, 0, none⟩)] 121)).alloc (.cells #[hd 121, .pointer (some ⟨w.heap.size, 0, none⟩), .int .u64 150] 154)).alloc (.cells #[hd 121, .pointer (some ⟨w.heap.size, 0, none⟩), .int .u64 150] 154)).alloc (.cells #[.int .i64 l, .int .i64 c, .int .i64 e] 116))
  (fun j u hj => by
   rw [World.cell?_alloc_at _ _ _ _ (by simp)]
   rcases j with - | j
   ·cases hj; rfl
   rcases j with - | j
   ·cases hj; rfl
   rcases j with - | j
   ·cases hj; rfl
   ·simp at hj)
  (by
   have e1 : ∀ (v : World) (o : Obj), bw < v.heap.size → (v.alloc o).heap[bw]? = v.heap[bw]? := fun v o hv => by
    rw [show (v.alloc o).heap = v.heap.push o from rfl, Array.getElem?_push_lt hv, Array.getElem?_eq_getElem hv]
   rw [e1 _ _ (by simp; omega), e1 _ _ (by simp; omega), e1 _ _ (by simp; omega), e1 _ _ hlt]
   exact ht)
 go_enter Tryz.func50, Tryz.ntmps50
 go_wp2
 refine wp_loop_rounds 1 ?_
 rw [rounds_succ]
 go_wp2
 go_ret
 exact ⟨rfl, rfl⟩
theorem asNilCt (F : Heap) (t : Value) : Ct Tryz.prog 50 [.nilIface, t] F [] (fun _ _ u => u = .bool false) := by
 unfold Ct
 intro w hw
 refine (asNil t w).mono fun e w' ⟨h1, h2⟩ => ?_
 subst h2
 exact ⟨_, F, [], h1, hw.tr, rfl⟩
theorem tr_setRow {w0 W : World} {F0 F : Heap} {K0 : List Nat} {G1 G2 : List Grp} {b : Nat} {row row' : Array Value} {e : TypeId} (h : Tr w0 F0 K0 W F (G1 ++ [(b, .cells row e (0, 0))] :: G2)) : Tr w0 F0 K0 (W.setRow b row') F (G1 ++ [(b, .cells row' e (0, 0))] :: G2) := by
 have t5 := Tr.get h
 exact Tr.write h rfl rfl rfl (by simp [World.setRow]) (setRow_heap W b _ row' e _ t5) (fun k hk => setRow_other W b k _ hk)
theorem asHitCt (F : Heap) (hE : ErrT F) (l c e : Int) (bw : Nat) (x y z : Value) : Ct Tryz.prog 50 [.iface 116 (.agg ⟨[.int .i64 l, .int .i64 c, .int .i64 e]⟩), .iface 121 (.pointer (some ⟨bw, 0, none⟩))] F [[(bw, .cells ⟨[x, y, z]⟩ 116 (0, 0))]]
  (fun _ G' u => u = .bool true ∧ G' = [[(bw, .cells ⟨[.int .i64 l, .int .i64 c, .int .i64 e]⟩ 116 (0, 0))]]) := by
 unfold Ct
 intro w hw
 have hbw : w.heap[bw]? = some (.cells ⟨[x, y, z]⟩ 116 (0, 0)) := (hw.own (bw, _) (by simp)).1
 refine (asHit l c e bw x y z w (hw.cel hE) hbw).mono fun ev w' ⟨h1, h2⟩ => ?_
 subst h2
 refine ⟨_, F, _, h1, ?_, rfl, rfl⟩
 have t1 := hw.tr.alloc (.cells #[.pointer (some ⟨bw, 0, none⟩)] 121)
 have t2 := t1.alloc (.cells #[hd 121, .pointer (some ⟨w.heap.size, 0, none⟩), .int .u64 150] 154)
 have t3 := t2.alloc (.cells #[hd 121, .pointer (some ⟨w.heap.size, 0, none⟩), .int .u64 150] 154)
 have t4 := t3.alloc (.cells #[.int .i64 l, .int .i64 c, .int .i64 e] 116)
 have t6 := tr_setRow (G1 := [_, _, _, _]) (G2 := []) (row' := ⟨[.int .i64 l, .int .i64 c, .int .i64 e]⟩) t4
 exact t6.sub (by simp)
theorem asErrCt (F : Heap) (hE : ErrT F) (e : Int) (u : Value) (he : ErrV e u) (bw : Nat) : Ct Tryz.prog 50 [u, .iface 121 (.pointer (some ⟨bw, 0, none⟩))] F [[(bw, .cells ⟨[.int .i64 0, .int .i64 0, .int .i64 0]⟩ 116 (0, 0))]]
  (fun _ G' r => ∃ l c d : Int, r = .bool (decide (e ≠ 0)) ∧ G' = [[(bw, .cells ⟨[.int .i64 l, .int .i64 c, .int .i64 d]⟩ 116 (0, 0))]] ∧ (e ≠ 0 → d = e)) := by
 unfold ErrV at he
 split at he
 ·rename_i h
  subst he
  refine Ct.mono (Ct.lend (asNilCt _ _)) fun F' G' r hr => ?_
  obtain ⟨rfl, rfl⟩ := hr
  exact ⟨0, 0, 0, by rw [h]; rfl, rfl, fun h9 => absurd h h9⟩
 ·rename_i h
  obtain ⟨l, c, rfl⟩ := he
  refine Ct.mono (asHitCt F hE l c e bw _ _ _) fun F' G' r hr => ?_
  obtain ⟨rfl, rfl⟩ := hr
  exact ⟨l, c, e, by rw [decide_eq_true h], rfl, fun _ => rfl⟩
section
variable {P : Program} {n : Sz} {L : List (Nat × Value)} {w0 : World} {F0 : Heap} {K0 : List Nat} {F : Heap} {G : List Grp} {a : Act} {w : World} {ops : Array Oper} {Q : Exit → Act → World → Prop} {rest : List Oper} {o : Oper}
theorem wpl_callNew {d : Nat} {x : Operand} {xs : Array Operand} {ts : Array TypeId} {f : FuncId} {fi ca vs args : List Value} {Post : List Grp → Value → Prop} [hf : HasFn P f] (S : St n L w0 F0 K0 F G a w) (hg : o.guard = none) (hd : o.dst = some d) (hn : Nat.blt d n.sz = true)
  (ho : o.op = .call { callee := .value x, args := xs, argTypes := ts }) (hx : ev L x = some (.func (.func f) ⟨fi⟩ ⟨ca⟩)) (hxs : evs L xs.toList = some vs) (C : Ct P f args F [] (fun _ G' u => Post G' u)) (ha : fi ++ vs ++ ca = args)
  (k : ∀ v G' a' w', Post G' v → St n ((d, v) :: L) w0 F0 K0 F (G' ++ G) a' w' → wpList P ops Q rest a' w') : wpList P ops Q (o :: rest) a w :=
 wpl_callOwn (Gs := []) (Gr := G) S hg hd hn ho hx hxs C ha (by simp) k
theorem sv_loadAOc {x : Operand} {t : TypeId} {z : Value} {sz by_ b off : Nat} {c vs : List Value} {e f R} [ht : Ag P t] [hi : Inf P t z sz by_] [hh : Has G b (.cells ⟨c⟩ e f) R] (S : St n L w0 F0 K0 F G a w) (ho : o.op = .load t x) (hx : ev L x = some (.pointer (some ⟨b, off, none⟩)))
  (hc : ∀ j u, vs[j]? = some u → c[off + j]? = some u) (hl : vs.length = sz) : SV P o a w (.agg ⟨vs⟩) :=
 sv_loadA S ho hx hl fun j v hj => cell_of_heap (S.has hh) (by simpa using hc j v hj)
end
def MSz (M : MD) : Prop := TSz M.ts ∧ RSz M.rs ∧ M.ts.length ≤ 2000000 ∧ M.rs.length ≤ 2000000
theorem FSz.thin {l : List FD} (h : FSz l) : FThin l := fun x hx => by
 have h1 := h x hx
 have h2 : ∀ l : Fo, l.size ≤ 2000000 → Thin l := by
  intro l
  induction l with
  | nil => intro _; trivial
  | cons nm ar r ih1 ih2 =>
   intro h
   simp only [Fo.size] at h
   have := Fo.len_size ar
   exact ⟨by omega, ih1 (by omega), ih2 (by omega)⟩
 have := Fo.len_size x.ta
 exact ⟨by omega, h2 _ h1⟩
theorem newCt (F : Heap) (hE : ErrT F) (M : MD) (cs : List Value) (h : MdR F M cs) (hsz : MSz M) :
    Ct Tryz.prog 26 [.agg ⟨cs⟩] F [] (fun F' _ u => (takeE M = 0 → ∃ tb m1 m2 m3, u = .tuple ⟨[.pointer (some ⟨tb, 0, none⟩), .agg ⟨[.int .i64 0, .int .i64 0]⟩, .int .i64 0]⟩ ∧ TabS F' tb m1 m2 m3 M.ts (consOf M.ts) M.rs) ∧ (takeE M ≠ 0 → ∃ l c : Int, u = .tuple ⟨[.pointer none, .agg ⟨[.int .i64 l, .int .i64 c]⟩, .int .i64 (takeE M)]⟩)) := by
  obtain ⟨hsT, hsR, hnT, hnR⟩ := hsz
  obtain ⟨i1, i2, i3, v1, v2, v3, v4, rfl, h1, h2, h3, h4⟩ := h
  have h1c := h1
  obtain ⟨ao1, cap1, rfl, -, -⟩ := h1c
  have h2c := h2
  obtain ⟨ao2, cap2, rfl, -, -⟩ := h2c
  have h3c := h3
  obtain ⟨ao3, cap3, rfl, -, -⟩ := h3c
  have h4c := h4
  obtain ⟨ao4, cap4, rfl, -, -⟩ := h4c
  refine Ct.enter Tryz.func26 rfl Tryz.ntmps26 rfl fun w0 a S => ?_
  refine wp_sr fun Z hZ => ?_
  (refine wbx S ?_; clear S a; intro b1 a w S)
  (revert S a; refine go 1 ?_; intro a S)
  (refine wpl_alloc S rfl rfl rfl rfl ?_; clear S a; intro b3 a w S)
  (revert S a; revert hZ Z; refine go 4 ?_; intro Z hZ a S)
  (refine wpl_makeMap kS S rfl rfl rfl rfl ?_; clear S a; intro b13 a w S)
  (refine wpl_makeMap kS S rfl rfl rfl rfl ?_; clear S a; intro b14 a w S)
  (refine wpl_makeMap kS S rfl rfl rfl rfl ?_; clear S a; intro b15 a w S)
  (revert S a; refine go 1 ?_; intro a S)
  (refine wbx S ?_; clear S a; intro b17 a w S)
  (revert S a; revert hZ Z; refine go 3 ?_; intro a S)
  (refine wp_seq_k ?_; intro Z hZ)
  replace hZ : ∀ (a' : Act) (w' : World), (∃ (vT vR : Value) (gT gR : Grp) (xT xR : List Value), OwnS 97 6 vT M.ts.length xT gT ∧ LiC F 6 TdR xT M.ts ∧ OwnS 111 6 vR M.rs.length xR gR ∧ LiC F 6 RdR xR M.rs ∧ St 100 [(1, ptr b1), (3, ptr b3), (5, ptr b17)] w0 F [] F [[(b1, .cells ⟨[.string (bs M.nm), .slice i1 i2 i3, vT, vR, .slice ao3 M.ru.length cap3, .slice ao4 M.nv.length cap4]⟩ 28 (0, 0))], gT, gR, [(b17, .cells ⟨[.map (some b13), .map (some b14), .map (some b15)]⟩ 107 (0, 0))], [(b15, mObj kS [])], [(b14, mObj kS [])], [(b13, mObj kS [])], [(b3, .cells ⟨[.int .i64 0, .int .i64 0]⟩ 30 (0, 0))]] a' w') → Z a' w' := (by
   (intro a w hM; refine hZ _ _ ?_; clear hZ Z; clear S; obtain ⟨vT, vR, gT, gR, xT, xR, hownT, hxT, hownR, hxR, S⟩ := hM)
   iterate 2 (refine wp_seq_k ?_; intro Z hZ)
   (have vTat := hownT.at; obtain ⟨aT0, cT0, rfl, -, -, -⟩ := vTat)
   (revert S a; revert hZ Z; refine go 8 ?_; intro a S)
   refine wpc_loop (fun m a w' => ∃ (i : Nat) (vT : Value) (gT : Grp) (xT : List Value) (F3 : Heap), m = M.ts.length - i ∧ i ≤ M.ts.length ∧ (∀ b o, F b = some o → F3 b = some o) ∧ OwnS 97 6 vT M.ts.length xT gT ∧ LiC F3 6 TdR xT M.ts ∧ St 100 [(1, ptr b1), (3, ptr b3), (5, ptr b17), (27, vT), (28, .int .i64 M.ts.length), (29, .int .i64 i)] w0 F [] F3 [[(b1, .cells ⟨[.string (bs M.nm), .slice i1 i2 i3, vT, vR, .slice ao3 M.ru.length cap3, .slice ao4 M.nv.length cap4]⟩ 28 (0, 0))], gT, gR, [(b17, .cells ⟨[.map (some b13), .map (some b14), .map (some b15)]⟩ 107 (0, 0))], [(b15, mObj kS [])], [(b14, mObj kS [])], [(b13, mObj kS [])], [(b3, .cells ⟨[.int .i64 0, .int .i64 0]⟩ 30 (0, 0))]] a w') ?_ ?_
   · (refine ⟨M.ts.length, 0, _, gT, xT, F, by omega, Nat.zero_le _, fun _ _ h => h, hownT, hxT, ?_⟩; refine S.keep ?_; exact zk)
   (clear S hownT hxT; rintro m a w ⟨i, vT, gT, xT, F3, rfl, hil, hF3, hownT, hxT, S⟩)
   (revert S a; refine go 5 ?_; intro Z hZ a S)
   refine wpc_sp S rfl ?_ ?_ <;> intro h
   · (revert S a; revert hZ Z; refine go 4 ?_; intro Z hZ a S)
     (refine wp_seq_k ?_; intro Z hZ)
     (obtain ⟨bT, capT, exT, rfl, rfl, hcq, hcm, hxl, hxe⟩ := ownS_blkN hownT (by omega); obtain ⟨x, hx⟩ : ∃ x, M.ts[i]? = some x := ⟨_, List.getElem?_eq_getElem (by omega)⟩; obtain ⟨xa, cs1, xb, rfl, hxal, -, ⟨vp0, vc0, rfl, hps, hcs⟩, hla, hlb⟩ := hxT.split hx; have hpsc := hps; have hcsc := hcs; obtain ⟨ap, cp, rfl, -, -⟩ := hpsc; obtain ⟨ac, cc, rfl, hcc9, hposc⟩ := hcsc; have hxsz := hsT x (List.mem_of_getElem? hx))
     (revert S a; refine go 3 ?_; intro a S)
     (refine wv S (sv_loadAOc (vs := [.int .i64 x.l, .int .i64 x.c, .bool x.pub, .string (bs x.nm), .slice ap x.ps.length cp, .slice ac x.cs.length cc]) S rfl rfl (fun j u hj => get_mid hxal hj) rfl) ?_; clear S a; intro a S)
     (refine wpl_alloc S rfl rfl rfl rfl ?_; clear S a; intro b7 a w S)
     (revert S a; refine go 1 ?_; intro a S)
     (refine wso S rfl rfl ?_; clear S; intro w S)
     (revert S a; revert hZ Z; refine go 2 ?_; intro a S)
     (refine wp_seq_k ?_; intro Z hZ)
     replace hZ : ∀ (a' : Act) (w' : World), (∃ (vP vC : Value) (gP gC : Grp) (xP xC : List Value), OwnS 9 1 vP x.ps.length xP gP ∧ LiC F3 1 StR xP x.ps ∧ OwnS 93 2 vC x.cs.length xC gC ∧ LiC F3 2 CdR xC x.cs ∧ St 100 [(1, ptr b1), (3, ptr b3), (5, ptr b17), (6, .int .i64 i), (7, ptr b7), (27, .slice (some ⟨bT, 0, none⟩) M.ts.length capT), (28, .int .i64 M.ts.length), (29, .int .i64 i)] w0 F [] F3 [gP, gC, [(b7, .cells ⟨[.int .i64 x.l, .int .i64 x.c, .bool x.pub, .string (bs x.nm), .slice ap x.ps.length cp, .slice ac x.cs.length cc]⟩ 97 (0, 0))], [(b1, .cells ⟨[.string (bs M.nm), .slice i1 i2 i3, .slice (some ⟨bT, 0, none⟩) M.ts.length capT, vR, .slice ao3 M.ru.length cap3, .slice ao4 M.nv.length cap4]⟩ 28 (0, 0))], [(bT, .cells ⟨(xa ++ [.int .i64 x.l, .int .i64 x.c, .bool x.pub, .string (bs x.nm), vP, vC] ++ xb) ++ exT⟩ 97 (0, 0))], gR, [(b17, .cells ⟨[.map (some b13), .map (some b14), .map (some b15)]⟩ 107 (0, 0))], [(b15, mObj kS [])], [(b14, mObj kS [])], [(b13, mObj kS [])], [(b3, .cells ⟨[.int .i64 0, .int .i64 0]⟩ 30 (0, 0))]] a' w') → Z a' w' := (by
      (intro a w hM; refine hZ _ _ ?_; clear hZ Z; clear S; obtain ⟨vP, vC, gP, gC, xP, xC, hownP, hxP, hownC, hxC, S⟩ := hM)
      (refine wp_seq_k ?_; intro Z hZ)
      (have hF4 := add_le (G1 := []) S; replace S := St.freeze (G1 := []) S; (try simp only [List.nil_append] at S hF4); have hvP : LiM (F3.add gP) 1 StR vP x.ps := LiC.lim hownP hxP rfl hF4 (by omega); generalize F3.add gP = F4 at S hF4 hvP)
      (revert S a; revert hZ Z; refine go 8 ?_; intro a S)
      refine wpc_loop (fun m a w' => ∃ (k : Nat) (vC : Value) (gC : Grp) (xC : List Value) (F5 : Heap), m = x.cs.length - k ∧ k ≤ x.cs.length ∧ (∀ b o, F4 b = some o → F5 b = some o) ∧ OwnS 93 2 vC x.cs.length xC gC ∧ LiC F5 2 CdR xC x.cs ∧ St 100 [(1, ptr b1), (3, ptr b3), (5, ptr b17), (6, .int .i64 i), (7, ptr b7), (27, .slice (some ⟨bT, 0, none⟩) M.ts.length capT), (28, .int .i64 M.ts.length), (29, .int .i64 i), (51, .slice ac x.cs.length cc), (52, .int .i64 x.cs.length), (53, .int .i64 k)] w0 F [] F5 [gC, [(b7, .cells ⟨[.int .i64 x.l, .int .i64 x.c, .bool x.pub, .string (bs x.nm), .slice ap x.ps.length cp, .slice ac x.cs.length cc]⟩ 97 (0, 0))], [(b1, .cells ⟨[.string (bs M.nm), .slice i1 i2 i3, .slice (some ⟨bT, 0, none⟩) M.ts.length capT, vR, .slice ao3 M.ru.length cap3, .slice ao4 M.nv.length cap4]⟩ 28 (0, 0))], [(bT, .cells ⟨(xa ++ [.int .i64 x.l, .int .i64 x.c, .bool x.pub, .string (bs x.nm), vP, vC] ++ xb) ++ exT⟩ 97 (0, 0))], gR, [(b17, .cells ⟨[.map (some b13), .map (some b14), .map (some b15)]⟩ 107 (0, 0))], [(b15, mObj kS [])], [(b14, mObj kS [])], [(b13, mObj kS [])], [(b3, .cells ⟨[.int .i64 0, .int .i64 0]⟩ 30 (0, 0))]] a w') ?_ ?_
      · (refine ⟨x.cs.length, 0, vC, gC, xC, F4, by omega, Nat.zero_le _, fun _ _ h => h, hownC, hxC.mono hF4, ?_⟩; refine S.keep ?_; exact zk)
      (clear S hownC hxC; rintro m a w ⟨k, vC, gC, xC, F5, rfl, hkl, hF5, hownC, hxC, S⟩)
      (revert S a; refine go 5 ?_; intro Z hZ a S)
      refine wpc_sp S rfl ?_ ?_ <;> intro h
      · (revert S a; revert hZ Z; refine go 4 ?_; intro Z hZ a S)
        (refine wp_seq_k ?_; intro Z hZ)
        (obtain ⟨bC, capC, exC, rfl, rfl, hcq2, hcm2, hyl, hye⟩ := ownS_blkN hownC (by omega); obtain ⟨bq, oq, hao2, y, cs2, hy, hd1, ⟨w3, rfl, hfs⟩⟩ := LiM.pos hposc (k := k) (by omega); obtain ⟨ya, cs3, yb, rfl, hyal, -, ⟨w4, rfl, hfs4⟩, hya, hyb⟩ := hxC.split hy; rw [hao2] at S; have hF35 : ∀ b o, F3 b = some o → F5 b = some o := (fun b o h => hF5 _ _ (hF4 _ _ h)); replace hd1 := Cels.mono hF35 hd1; replace hfs := hfs.mono hF35; have hfsc := hfs; obtain ⟨af, cf, rfl, -, -⟩ := hfsc; have hysz := hxsz.2.2 y (List.mem_of_getElem? hy))
        (revert S a; refine go 4 ?_; intro a S)
        (refine wpl_alloc S rfl rfl rfl rfl ?_; clear S a; intro b9 a w S)
        (revert S a; refine go 1 ?_; intro a S)
        (refine wso S rfl rfl ?_; clear S; intro w S)
        (revert S a; revert hZ Z; refine go 2 ?_; intro a S)
        (refine wpc_mixM [0, 1, 2, 3, 4, 5, 6, 7, 8, 10, 11] [1, 5, 8] [] (.one 0 (.one 1 (.one 2 (.one 3 (.one 4 (.one 5 (.one 6 (.one 7 (.one 8 (.one 9 (.one 10 (.one 11 (.one 12 .nil))))))))))))) [b1, bT, b9] S mixed (by kernel_rfl) ?_; clear S; intro w S)
        (revert S a; refine go 5 ?_; intro a S)
        (refine wpm_lateO bT S rfl rfl rfl (want_none _ rfl) rfl rfl (fun w' S => sv_loadO S rfl rfl (get_mid (j := 5) (cs := [.int .i64 x.l, .int .i64 x.c, .bool x.pub, .string (bs x.nm), vP, .slice (some ⟨bC, 0, none⟩) x.cs.length capC]) hxal rfl)) ?_; clear S a; intro a S)
        (revert S a; refine go 4 ?_; intro a S)
        (refine wcF S (ownedCt F5 y.fs _ hfs hysz.2 hysz.1.thin) ?_; clear S a; intro vf6 F6 a w hvf6 hF6 S)
        (revert S a; refine go 4 ?_; intro a S)
        (refine wpl_store1 S rfl rfl rfl rfl rfl (lim_one hvf6) (by simp only [List.length_append, List.length_cons, List.length_nil]; omega) ?_; clear S; intro w S; rw [set_mid _ hyal (by simp)] at S)
        (revert S a; revert hZ Z; refine go 7 ?_; intro a S)
        change ∃ m', _ ∧ _
        (rw [← hao2] at S; replace S := S.drop1; refine ⟨x.cs.length - (k + 1), by omega, k + 1, .slice (some ⟨bC, 0, none⟩) x.cs.length capC, _, _, F6, rfl, by omega, fun b o h => hF6 _ _ (hF5 _ _ h), ownS_mkN (b := bC) (cap := capC) (xs := ya ++ [.string (bs y.nm), vf6] ++ yb) (ex := exC) (by simp only [List.length_append, List.length_cons, List.length_nil] at hyl ⊢; omega) hcq2 hcm2 (by simp only [List.length_append, List.length_cons, List.length_nil] at hye ⊢; omega), LiC.join hy (hya.mono hF6) rfl ⟨_, rfl, hvf6⟩ (hyb.mono hF6), ?_⟩; refine S.keep ?_; exact zk)
      (refine wp_exit ?_; conv => whnf)
      clear hZ Z
      (revert S a; revert hZ Z; refine go 5 ?_; intro a S)
      change ∃ m', _ ∧ _
      (replace S : St _ _ _ _ _ F5 [gC, _, _, _, _, _, _, _, _, _] _ _ := S; have hle5 := add_le (G1 := []) S; replace S := St.freeze (G1 := []) S; (try simp only [List.nil_append] at S hle5); have hvC : LiM (F5.add gC) 2 CdR vC x.cs := LiC.lim hownC hxC rfl hle5 (by omega); generalize F5.add gC = F6 at S hle5 hvC; replace S := S.drop1; have hF36 : ∀ b o, F3 b = some o → F6 b = some o := (fun b o h => hle5 _ _ (hF5 _ _ (hF4 _ _ h))); refine ⟨M.ts.length - (i + 1), by omega, i + 1, .slice (some ⟨bT, 0, none⟩) M.ts.length capT, _, _, F6, rfl, by omega, fun b o h => hF36 _ _ (hF3 _ _ h), ownS_mkN (b := bT) (cap := capT) (xs := xa ++ [.int .i64 x.l, .int .i64 x.c, .bool x.pub, .string (bs x.nm), vP, vC] ++ xb) (ex := exT) (by simp only [List.length_append, List.length_cons, List.length_nil] at hxl ⊢; omega) hcq hcm (by simp only [List.length_append, List.length_cons, List.length_nil] at hxe ⊢; omega), LiC.join hx (hla.mono hF36) rfl ⟨_, _, rfl, hvP.mono (fun b o h => hle5 _ _ (hF5 _ _ h)), hvC⟩ (hlb.mono hF36), ?_⟩; refine S.keep ?_; exact zk))
     (refine wpc_mixM [0, 1, 2, 3, 4, 5, 6, 7, 9, 10, 12, 13, 15, 16] [1, 4, 7, 10] [] (.one 0 (.one 1 (.one 2 (.one 3 (.one 4 (.one 5 (.one 6 (.one 7 (.one 9 (.one 10 (.one 8 (.one 11 (.one 12 (.one 13 (.one 14 (.one 15 (.one 16 (.one 17 .nil)))))))))))))))))) [b1, b7] S mixed (by kernel_rfl) ?_; clear S; intro w S)
     (revert S a; refine go 11 ?_; intro a S)
     (refine wpl_callNew S rfl rfl rfl rfl rfl rfl (cloneSCt F3 _ x.ps hps hxsz.2.1) rfl ?_; clear S a; intro vP G9 a w hv S; obtain ⟨gP, xP, rfl, hownP, hxP⟩ := hv; (simp only [List.singleton_append] at S))
     (revert S a; refine go 2 ?_; intro a S)
     (refine wpl_callNew S rfl rfl rfl rfl rfl rfl (cloneCCt F3 _ x.cs hcs hxsz.1) rfl ?_; clear S a; intro vC G9 a w hv S; obtain ⟨gC, xC, rfl, hownC, hxC⟩ := hv; (simp only [List.singleton_append] at S))
     (revert S a; refine go 4 ?_; intro a S)
     (refine wpl_store1 S rfl rfl rfl rfl rfl hownP.oneCell (by simp only [List.length_append, List.length_cons, List.length_nil]; omega) ?_; clear S; intro w S; rw [set_mid _ hxal (by simp)] at S)
     (revert S a; refine go 4 ?_; intro a S)
     (refine wpl_store1 S rfl rfl rfl rfl rfl hownC.oneCell (by simp only [List.length_append, List.length_set, List.length_cons, List.length_nil]; omega) ?_; clear S; intro w S; rw [set_mid _ hxal (by simp)] at S)
     (revert S a; refine go 2 ?_; intro a S)
     (refine hZ _ _ ?_)
     (refine ⟨vP, vC, gP, gC, xP, xC, hownP, hxP, hownC, hxC, ?_⟩; first | (replace S : St _ _ _ _ _ F3 [gP, gC, _, _, _, _, _, _, _, _, _] _ _ := S; (refine S.keep ?_; exact zk); done) | (replace S : St _ _ _ _ _ F3 [gP, gC, _, _, _, _, _, _, _, _, _] _ _ := St.permI S 11 rfl [1, 0, 2, 3, 4, 5, 6, 7, 8, 9, 10] (by decide); (refine S.keep ?_; exact zk); done) | trace_state)
   (refine wp_exit ?_; conv => whnf)
   clear hZ Z
   (revert S a; revert hZ Z; refine go 2 ?_; intro Z hZ a S)
   (refine wp_seq_k ?_; intro Z hZ)
   (have vRat := hownR.at; obtain ⟨aR0, cR0, rfl, -, -, -⟩ := vRat)
   (revert S a; revert hZ Z; refine go 8 ?_; intro a S)
   refine wpc_loop (fun m a w' => ∃ (i : Nat) (vR : Value) (gR : Grp) (xR : List Value) (F7 : Heap), m = M.rs.length - i ∧ i ≤ M.rs.length ∧ (∀ b o, F3 b = some o → F7 b = some o) ∧ OwnS 111 6 vR M.rs.length xR gR ∧ LiC F7 6 RdR xR M.rs ∧ St 100 [(1, ptr b1), (3, ptr b3), (5, ptr b17), (73, vR), (74, .int .i64 M.rs.length), (75, .int .i64 i)] w0 F [] F7 [[(b1, .cells ⟨[.string (bs M.nm), .slice i1 i2 i3, vT, vR, .slice ao3 M.ru.length cap3, .slice ao4 M.nv.length cap4]⟩ 28 (0, 0))], gT, gR, [(b17, .cells ⟨[.map (some b13), .map (some b14), .map (some b15)]⟩ 107 (0, 0))], [(b15, mObj kS [])], [(b14, mObj kS [])], [(b13, mObj kS [])], [(b3, .cells ⟨[.int .i64 0, .int .i64 0]⟩ 30 (0, 0))]] a w') ?_ ?_
   · (refine ⟨M.rs.length, 0, _, gR, xR, F3, by omega, Nat.zero_le _, fun _ _ h => h, hownR, hxR.mono hF3, ?_⟩; refine S.keep ?_; exact zk)
   (clear S hownR hxR; rintro m a w ⟨i, vR, gR, xR, F7, rfl, hil, hF7, hownR, hxR, S⟩)
   (revert S a; refine go 5 ?_; intro Z hZ a S)
   refine wpc_sp S rfl ?_ ?_ <;> intro h
   · (revert S a; revert hZ Z; refine go 4 ?_; intro Z hZ a S)
     (refine wp_seq_k ?_; intro Z hZ)
     (obtain ⟨bR, capR, exR, rfl, rfl, hcq2, hcm2, hyl, hye⟩ := ownS_blkN hownR (by omega); obtain ⟨x, hx⟩ : ∃ x, M.rs[i]? = some x := ⟨_, List.getElem?_eq_getElem (by omega)⟩; obtain ⟨ya, cs1, yb, rfl, hyal, -, ⟨vf0, rfl, hfs⟩, hya, hyb⟩ := hxR.split hx; have hfsc := hfs; obtain ⟨af, cf, rfl, -, -⟩ := hfsc; have hxsz := hsR x (List.mem_of_getElem? hx))
     (revert S a; refine go 3 ?_; intro a S)
     (refine wv S (sv_loadAOc (vs := [.int .i64 x.l, .int .i64 x.c, .bool x.pub, .bool x.inp, .string (bs x.nm), .slice af x.fs.length cf]) S rfl rfl (fun j u hj => get_mid hyal hj) rfl) ?_; clear S a; intro a S)
     (refine wpl_alloc S rfl rfl rfl rfl ?_; clear S a; intro b11 a w S)
     (revert S a; refine go 1 ?_; intro a S)
     (refine wso S rfl rfl ?_; clear S; intro w S)
     (revert S a; revert hZ Z; refine go 2 ?_; intro a S)
     (refine wpc_mixM [0, 1, 2, 3, 4, 6, 7] [1, 4] [] (.one 0 (.one 1 (.one 2 (.one 3 (.one 4 (.one 5 (.one 6 (.one 7 (.one 8 .nil))))))))) [b1, b11] S mixed (by kernel_rfl) ?_; clear S; intro w S)
     (revert S a; refine go 6 ?_; intro a S)
     (refine wcF S (ownedCt F7 x.fs _ hfs hxsz.2 hxsz.1.thin) ?_; clear S a; intro vf8 F8 a w hvf8 hF8 S)
     (revert S a; refine go 4 ?_; intro a S)
     (refine wpl_store1 S rfl rfl rfl rfl rfl (lim_one hvf8) (by simp only [List.length_append, List.length_cons, List.length_nil]; omega) ?_; clear S; intro w S; rw [set_mid _ hyal (by simp)] at S)
     (revert S a; revert hZ Z; refine go 7 ?_; intro a S)
     change ∃ m', _ ∧ _
     (replace S := S.drop1; refine ⟨M.rs.length - (i + 1), by omega, i + 1, .slice (some ⟨bR, 0, none⟩) M.rs.length capR, _, _, F8, rfl, by omega, fun b o h => hF8 _ _ (hF7 _ _ h), ownS_mkN (b := bR) (cap := capR) (xs := ya ++ [.int .i64 x.l, .int .i64 x.c, .bool x.pub, .bool x.inp, .string (bs x.nm), vf8] ++ yb) (ex := exR) (by simp only [List.length_append, List.length_cons, List.length_nil] at hyl ⊢; omega) hcq2 hcm2 (by simp only [List.length_append, List.length_cons, List.length_nil] at hye ⊢; omega), LiC.join hx (hya.mono hF8) rfl ⟨_, rfl, hvf8⟩ (hyb.mono hF8), ?_⟩; refine S.keep ?_; exact zk)
   (refine wp_exit ?_; conv => whnf)
   clear hZ Z
   (revert S a; revert hZ Z; refine go 2 ?_; intro Z hZ a S)
   (refine wpl_alloc S rfl rfl rfl rfl ?_; clear S a; intro b12 a w S)
   (revert S a; revert hZ Z; refine go 3 ?_; intro Z hZ a S)
   (refine wp_seq_k ?_; intro Z hZ)
   (replace S : St _ _ _ _ _ F7 [gT, gR, [(b17, .cells ⟨[.map (some b13), .map (some b14), .map (some b15)]⟩ 107 (0, 0))], [(b13, mObj kS [])], [(b14, mObj kS [])], [(b15, mObj kS [])], [(b12, .cells ⟨[.int .i64 0, .int .i64 0, .int .i64 0]⟩ 116 (0, 0))], [(b1, .cells ⟨[.string (bs M.nm), .slice i1 i2 i3, vT, vR, .slice ao3 M.ru.length cap3, .slice ao4 M.nv.length cap4]⟩ 28 (0, 0))], [(b3, .cells ⟨[.int .i64 0, .int .i64 0]⟩ 30 (0, 0))]] _ _ := St.permI S 9 rfl [2, 3, 4, 7, 6, 5, 0, 1, 8] (by decide); have hle1 := add_le (G1 := []) S; replace S := St.freeze (G1 := []) S; (try simp only [List.nil_append] at S hle1); have hvT : LiM (F7.add gT) 6 TdR vT M.ts := LiC.lim hownT (hxT.mono hF7) rfl hle1 (by omega); generalize F7.add gT = F8 at S hle1 hvT; have hle2 := add_le (G1 := []) S; replace S := St.freeze (G1 := []) S; (try simp only [List.nil_append] at S hle2); have hvR : LiM (F8.add gR) 6 RdR vR M.rs := LiC.lim hownR (hxR.mono hle1) rfl hle2 (by omega); generalize F8.add gR = F9 at S hle2 hvR; have hle3 := add_le (G1 := []) S; replace S := St.freeze (G1 := []) S; (try simp only [List.nil_append] at S hle3); have hcc : Cels (F9.add [(b17, .cells ⟨[.map (some b13), .map (some b14), .map (some b15)]⟩ 107 (0, 0))]) b17 0 [.map (some b13), .map (some b14), .map (some b15)] := (fun j u hj => ⟨_, _, _, Heap.add_new (p := (b17, _)) (List.mem_singleton.2 rfl) (by simp), by simpa using hj⟩); generalize (F9.add [(b17, .cells ⟨[.map (some b13), .map (some b14), .map (some b15)]⟩ 107 (0, 0))]) = F10 at S hle3 hcc; have hF10 : ∀ b o, F b = some o → F10 b = some o := (fun b o h => hle3 _ _ (hle2 _ _ (hle1 _ _ (hF7 _ _ (hF3 _ _ h))))); have hMd : MdR F10 M [.string (bs M.nm), .slice i1 i2 i3, vT, vR, .slice ao3 M.ru.length cap3, .slice ao4 M.nv.length cap4] := ⟨_, _, _, _, _, _, _, rfl, hvT.mono (fun b o h => hle3 _ _ (hle2 _ _ h)), hvR.mono hle3, h3.mono hF10, h4.mono hF10⟩)
   (revert S a; refine go 3 ?_; intro a S)
   (refine wpl_call (Gs := [[(b13, mObj kS [])], [(b14, mObj kS [])], [(b15, mObj kS [])]]) (Gr := [[(b12, .cells ⟨[.int .i64 0, .int .i64 0, .int .i64 0]⟩ 116 (0, 0))], [(b1, .cells ⟨[.string (bs M.nm), .slice i1 i2 i3, vT, vR, .slice ao3 M.ru.length cap3, .slice ao4 M.nv.length cap4]⟩ 28 (0, 0))], [(b3, .cells ⟨[.int .i64 0, .int .i64 0]⟩ 30 (0, 0))]]) S rfl rfl rfl rfl rfl rfl (takeCt F10 b17 b13 b14 b15 hcc M _ hMd hsT hsR) rfl (by exact List.Perm.refl _) ?_; clear S a; intro u9 F11 G9 a w hv hF11 S; replace S := St.rotG S)
   (revert S a; refine go 1 ?_; intro a S)
   (refine wpl_callOwn (Gs := [[(b12, .cells ⟨[.int .i64 0, .int .i64 0, .int .i64 0]⟩ 116 (0, 0))]]) (Gr := _ :: _ :: G9) S rfl rfl rfl rfl rfl rfl (asErrCt F11 (hE.mono (fun b o h => hF11 _ _ (hF10 _ _ h))) (takeE M) u9 hv.1 b12) rfl (by exact List.Perm.refl _) ?_; clear S a; intro r9 G8 a w hv9 S; obtain ⟨wl, wc, wd, rfl, rfl, hwd⟩ := hv9; (simp only [List.singleton_append] at S))
   (revert S a; revert hZ Z; refine go 2 ?_; intro a S)
   refine wpc_sp S rfl ?_ ?_ <;> intro h
   · (refine wp_seq_k ?_; intro Z hZ)
     (refine wpc_mixM [0, 1, 2, 3] [1, 3] [] (.one 0 (.one 1 (.one 2 (.one 3 (.one 4 (.one 5 (.one 6 .nil))))))) [b12] S mixed (by kernel_rfl) ?_; clear S; intro w S)
     (revert S a; refine go 8 ?_; intro a S)
     (refine wso S rfl rfl ?_; clear S; intro w S)
     (revert S a; revert hZ Z; refine go 6 ?_; intro a S)
     refine wp_ret (fin_ret S (results3 Tryz.results26 (RV.tmp S rfl) (RV.cellO S rfl (by rfl)) (RV.tmp S rfl)) ?_)
     (first | (have hne : takeE M ≠ 0 := (by first | assumption | simpa using h); have hwd2 := hwd hne; subst hwd2; exact ⟨fun h9 => absurd h9 hne, fun _ => ⟨_, _, rfl⟩⟩) | (have hz : takeE M = 0 := (by first | assumption | simpa using h); exact ⟨fun _ => ⟨b17, b13, b14, b15, rfl, hv.2 hz⟩, fun h9 => absurd hz h9⟩) | trace_state)
   (revert S a; revert hZ Z; refine go 6 ?_; intro Z hZ a S)
   (refine wso S rfl rfl ?_; clear S; intro w S)
   (revert S a; revert hZ Z; refine go 3 ?_; intro a S)
   refine wp_ret (fin_ret S (results3 Tryz.results26 (RV.tmp S rfl) (RV.cellO S rfl (by rfl)) (RV.tmp S rfl)) ?_)
   (first | (have hne : takeE M ≠ 0 := (by first | assumption | simpa using h); have hwd2 := hwd hne; subst hwd2; exact ⟨fun h9 => absurd h9 hne, fun _ => ⟨_, _, rfl⟩⟩) | (have hz : takeE M = 0 := (by first | assumption | simpa using h); exact ⟨fun _ => ⟨b17, b13, b14, b15, rfl, hv.2 hz⟩, fun h9 => absurd hz h9⟩) | trace_state))
  (refine wpc_mixM [0, 1, 3, 4, 6, 8] [1, 4] [7, 9] (.one 0 (.one 1 (.one 3 (.one 4 (.one 2 (.one 6 (.one 5 (.one 7 (.one 8 (.one 9 .nil)))))))))) [b1] S mixed (by kernel_rfl) ?_; clear S; intro w S)
  (revert S a; refine go 5 ?_; intro a S)
  (refine wpl_callNew S rfl rfl rfl rfl rfl rfl (cloneTCt F _ M.ts h1 hnT) rfl ?_; clear S a; intro vT G9 a w hv S; obtain ⟨gT, xT, rfl, hownT, hxT⟩ := hv; (simp only [List.singleton_append] at S))
  (revert S a; refine go 3 ?_; intro a S)
  (refine wpl_callNew S rfl rfl rfl rfl rfl rfl (cloneRCt F _ M.rs h2 hnR) rfl ?_; clear S a; intro vR G9 a w hv S; obtain ⟨gR, xR, rfl, hownR, hxR⟩ := hv; (simp only [List.singleton_append] at S))
  (revert S a; refine go 2 ?_; intro a S)
  (refine wpl_store1 S rfl rfl rfl rfl rfl hownT.oneCell (by first | (simp; done) | (simp [Value.cells]; done) | exact Nat.le_of_ble_eq_true rfl) ?_; clear S; intro w S)
  (revert S a; refine go 2 ?_; intro a S)
  refine wpm_eff rfl rfl (fun h => absurd h (by decide)) ?_
  (refine wpl_store1 S rfl rfl rfl rfl rfl hownR.oneCell (by first | (simp; done) | (simp [Value.cells]; done) | exact Nat.le_of_ble_eq_true rfl) ?_; clear S; intro w S)
  refine wpList_nil ?_
  refine wpm_nil (fun h => absurd h (by decide)) ?_
  (refine hZ _ _ ?_)
  (refine ⟨vT, vR, gT, gR, xT, xR, hownT, hxT, hownR, hxR, ?_⟩; first | (replace S : St _ _ _ _ _ F [_, gT, gR, _, _, _, _, _] _ _ := St.permI S 8 rfl [7, 1, 0, 2, 3, 4, 5, 6] (by decide); (refine S.keep ?_; exact zk); done) | (replace S : St _ _ _ _ _ F [_, gT, gR, _, _, _, _, _] _ _ := St.permI S 8 rfl [7, 0, 1, 2, 3, 4, 5, 6] (by decide); (refine S.keep ?_; exact zk); done) | trace_state)
end Go.Proofs.YtgefmjghdijbfaaGreatDoor
