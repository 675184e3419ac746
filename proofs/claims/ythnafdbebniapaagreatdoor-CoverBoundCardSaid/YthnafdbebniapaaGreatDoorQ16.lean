/- Walks. -/
import Derived.Test.YthnafdbebniapaaGreatDoorQ15
import Derived.Test.YthnafdbebniapaaGreatDoorQ08
import Derived.Test.YthnafdbebniapaaGreatDoorQTy
import Derived.WalkKit
import Derived.LaidEql
import Derived.Stop.Asserts
import Derived.RowKitTokens
set_option maxHeartbeats 32000000
set_option maxRecDepth 20000
namespace Go.Proofs.YthnafdbebniapaaGreatDoor
open Go Go.Wk Go.Un Go.De
set_option linter.unusedSimpArgs false
set_option linter.unusedVariables false
attribute [local irreducible] Go.wpList Go.Code.wp Go.wpStill Go.Wk.wpPre Go.bodyPost Go.Calls Go.Wk.Ct Go.Wk.OwnS
attribute [local irreducible] Go.Wk.wpG Go.Wk.wpM
theorem rulesE_cons (css : List KC) (rs : List RD) (x : RU) (r : List RU) : rulesE css rs (x :: r) = if ruleE css rs x ≠ 0 then ruleE css rs x else rulesE css rs r := rfl
theorem neversE_cons (css : List KC) (rs : List RD) (x : NV) (r : List NV) : neversE css rs (x :: r) = if bodyE css rs x.body ≠ 0 then bodyE css rs x.body else neversE css rs r := rfl
def RSz (l : List RD) : Prop := ∀ x ∈ l, FSz x.fs ∧ x.fs.length ≤ 1000000
theorem zzDeQ0 {p : Prop} (h : p := by (first | (have h9 := hfe2; have hzr : rulesE (consOf M.ts) M.rs M.ru = 0 := (by rw [hfe, List.drop_eq_nil_of_le (by omega)]; rfl); first | (have hne : bodyE (consOf M.ts) M.rs x.body ≠ 0 := (by first | assumption | simpa using h); have e1 : neversE (consOf M.ts) M.rs M.nv = bodyE (consOf M.ts) M.rs x.body := (by rw [hfe2, drop_at hx, neversE_cons, if_pos hne]); have e9 : takeE M = bodyE (consOf M.ts) M.rs x.body := (by unfold takeE; rw [if_neg (fun h => h hz1), if_neg (fun h => h hz2), if_neg (fun h => h hzr), e1]); rw [e9]; exact ⟨hv9, fun h9 => absurd h9 hne⟩) | (have e1 : neversE (consOf M.ts) M.rs M.nv = 0 := (by rw [hfe2, List.drop_eq_nil_of_le (by omega)]; rfl); have e9 : takeE M = 0 := (by unfold takeE; rw [if_neg (fun h => h hz1), if_neg (fun h => h hz2), if_neg (fun h => h hzr), e1]); rw [e9]; exact ⟨errV_0, fun _ => hT⟩)) | (have h9 := hfe; have hne : ruleE (consOf M.ts) M.rs x ≠ 0 := (by first | assumption | simpa using h); have e1 : rulesE (consOf M.ts) M.rs M.ru = ruleE (consOf M.ts) M.rs x := (by rw [hfe, drop_at hx, rulesE_cons, if_pos hne]); have e9 : takeE M = ruleE (consOf M.ts) M.rs x := (by unfold takeE; rw [if_neg (fun h => h hz1), if_neg (fun h => h hz2), if_pos (by rw [e1]; exact hne), e1]); rw [e9]; exact ⟨hv9, fun h9 => absurd h9 hne⟩) | (have h9 := hTy; have hne : relatedE M.ts [] M.rs ≠ 0 := (by first | assumption | simpa using h); have e9 : takeE M = relatedE M.ts [] M.rs := (by unfold takeE; rw [if_neg (fun h => h hz1), if_pos hne]); rw [e9]; exact ⟨hv2.1, fun h9 => absurd h9 hne⟩) | (have hne : typedE M.ts ≠ 0 := (by first | assumption | simpa using h); have e9 : takeE M = typedE M.ts := (by unfold takeE; rw [if_pos hne]); rw [e9]; exact ⟨hv.1, fun h9 => absurd h9 hne⟩) | trace_state)) : p := h
theorem takeCt (F : Heap) (tb m1 m2 m3 : Nat) (hcc : Cels F tb 0 [.map (some m1), .map (some m2), .map (some m3)]) (M : MD) (cs : List Value) (h : MdR F M cs) (hts : TSz M.ts) (hrs : RSz M.rs) :
    Ct Tryz.prog 52 [.pointer (some ⟨tb, 0, none⟩), .agg ⟨cs⟩] F [[(m1, mObj kS [])], [(m2, mObj kS [])], [(m3, mObj kS [])]] (fun F' G' u => ErrV (takeE M) u ∧ (takeE M = 0 → TabS F' tb m1 m2 m3 M.ts (consOf M.ts) M.rs)) := by
 obtain ⟨i1, i2, i3, v1, v2, v3, v4, rfl, h1, h2, h3, h4⟩ := h
 have h1c := h1
 obtain ⟨ao1, cap1, rfl, -, -⟩ := h1c
 have h2c := h2
 obtain ⟨ao2, cap2, rfl, -, -⟩ := h2c
 obtain ⟨ao3, cap3, rfl, hcap3, hpos3⟩ := h3
 obtain ⟨ao4, cap4, rfl, hcap4, hpos4⟩ := h4
 have hc3 : Cel F tb 2 (.map (some m3)) := hcc 2 _ rfl
 refine Ct.enter Tryz.func52 rfl Tryz.ntmps52 rfl fun w0 a S => ?_
 refine wp_sr fun Z hZ => ?_
 (refine wpl_box S rfl rfl rfl rfl rfl ?_; clear S a; intro b3 a w S)
 (revert S a; revert hZ Z; refine go12 8 ?_; intro Z hZ Z hZ a S)
 (refine wpl_call (Gs := [[(m1, mObj kS [])], [(m2, mObj kS [])]]) (Gr := [[(m3, mObj kS [])], [(b3, _)]]) S rfl rfl rfl rfl rfl rfl (typedCt F tb m1 m2 m3 hcc M.ts _ h1 hts) rfl (by exact List.perm_append_comm (l₁ := [_]) (l₂ := [_, _, _])) ?_; clear S a; intro u9 F1 G1 a w hv hF1 S; replace S : St _ _ _ _ _ F1 ([(m3, mObj kS [])] :: [(b3, _)] :: G1) _ _ := St.rotG S)
 (revert S a; revert hZ Z; refine go11 5 ?_; intro Z hZ a S)
 (refine wpl_v S rfl rfl rfl (sv_neErr S rfl rfl hv.1) ?_; clear S a; intro a S)
 (refine wpList_nil (hZ _ _ ?_); clear hZ Z)
 refine wpc_sp S rfl ?_ ?_ <;> intro h
 ·(revert S a; refine go00 5 ?_; intro a S)
  refine wp_ret (fr1 S Tryz.results52 ?_)
  exact zzDeQ0
 (revert S a; revert hZ Z; refine go11 3 ?_; intro Z hZ a S)
 (refine wp_seq_k ?_; intro Z hZ)
 (have hz1 : typedE M.ts = 0 := (by first | assumption | simpa using h); obtain ⟨rfl, hM1, hM2⟩ := hv.2 hz1; have hTy : TyS F1 tb m1 M.ts := ⟨(hcc 0 _ rfl : Cel F tb 0 _).mono hF1, hM1⟩)
 (revert S a; refine go00 4 ?_; intro a S)
 (refine wpl_call (Gs := [[(m3, mObj kS [])]]) (Gr := [[(b3, _)]]) S rfl rfl rfl rfl rfl rfl (relatedCt F1 tb m1 m3 M.ts hTy (hc3.mono hF1) M.rs _ (h2.mono hF1) hrs) rfl (by exact List.Perm.refl _) ?_; clear S a; intro u8 F2 G2 a w hv2 hF2 S; replace S : St _ _ _ _ _ F2 ([(b3, _)] :: G2) _ _ := St.rotG S)
 (revert S a; revert hZ Z; refine go11 5 ?_; intro Z hZ a S)
 (refine wpl_v S rfl rfl rfl (sv_neErr S rfl rfl hv2.1) ?_; clear S a; intro a S)
 (refine wpList_nil (hZ _ _ ?_); clear hZ Z)
 refine wpc_sp S rfl ?_ ?_ <;> intro h
 ·(revert S a; refine go00 5 ?_; intro a S)
  refine wp_ret (fr1 S Tryz.results52 ?_)
  exact zzDeQ0
 (revert S a; revert hZ Z; refine go11 3 ?_; intro Z hZ a S)
 (refine wp_seq_k ?_; intro Z hZ)
 (have hz2 : relatedE M.ts [] M.rs = 0 := (by first | assumption | simpa using h); obtain ⟨es3, rfl, hM3⟩ := hv2.2 hz2; replace S : St _ _ _ _ _ F2 [[(m3, mObj kS es3)], [(b3, .cells ⟨[.string (bs M.nm), .slice i1 i2 i3, .slice ao1 M.ts.length cap1, .slice ao2 M.rs.length cap2, .slice ao3 M.ru.length cap3, .slice ao4 M.nv.length cap4]⟩ 76 (0, 0))]] _ _ := St.permI S 2 rfl [1, 0] (by decide); have hle3 := add_le (G1 := []) S; replace S := St.freeze (G1 := []) S; (try simp only [List.nil_append] at S hle3); have hm3 : (F2.add [(m3, mObj kS es3)]) m3 = some (mObj kS es3) := Heap.add_new (p := (m3, _)) (List.mem_singleton.2 rfl) (by simp); generalize (F2.add [(m3, mObj kS es3)]) = F3 at S hle3 hm3; have hF13 : ∀ b o, F1 b = some o → F3 b = some o := (fun b o h => hle3 _ _ (hF2 _ _ h)); have hF03 : ∀ b o, F b = some o → F3 b = some o := (fun b o h => hF13 _ _ (hF1 _ _ h)); have hT : TabS F3 tb m1 m2 m3 M.ts (consOf M.ts) M.rs := ⟨Cels.mono hF03 hcc, hM1.mono hF13, hM2.mono hF13, ⟨es3, hm3, hM3.mono hF13⟩⟩)
 (revert S a; revert hZ Z; refine go10 8 ?_; intro a S)
 refine wpc_loop (fun m a w' => ∃ (k : Nat), m = M.ru.length - k ∧ k ≤ M.ru.length ∧ rulesE (consOf M.ts) M.rs M.ru = rulesE (consOf M.ts) M.rs (M.ru.drop k) ∧ St 56 [(0, ptr tb), (3, ptr b3), (28, .slice ao3 M.ru.length cap3), (29, .int .i64 M.ru.length), (30, .int .i64 k)] w0 F [m1, m2, m3] F3 [[(b3, .cells ⟨[.string (bs M.nm), .slice i1 i2 i3, .slice ao1 M.ts.length cap1, .slice ao2 M.rs.length cap2, .slice ao3 M.ru.length cap3, .slice ao4 M.nv.length cap4]⟩ 76 (0, 0))]] a w') ?_ ?_
 ·(refine ⟨M.ru.length, 0, by omega, Nat.zero_le _, rfl, ?_⟩; refine S.keep ?_; exact zk)
 (clear S; rintro m a w ⟨k, rfl, hkl, hfe, S⟩)
 (revert S a; refine go01 5 ?_; intro Z hZ a S)
 refine wpc_sp S rfl ?_ ?_ <;> intro h
 ·(revert S a; revert hZ Z; refine go11 4 ?_; intro Z hZ a S)
  (refine wp_seq_k ?_; intro Z hZ)
  (obtain ⟨bq, oq, hao, x, cs1, hx, hd1, ⟨w1, w2, w3, rfl, hx1, hx2, hx3⟩⟩ := LiM.pos hpos3 (k := k) (by omega); rw [hao] at S; replace hd1 := Cels.mono hF03 hd1; replace hx1 := hx1.mono hF03; replace hx2 := hx2.mono hF03; replace hx3 := hx3.mono hF03; have y1 := hx1; have y2 := hx2; have y3 := hx3; obtain ⟨p1, q1, rfl, -, -⟩ := y1; obtain ⟨p2, q2, rfl, -, -⟩ := y2; obtain ⟨p3, q3, rfl, -, -⟩ := y3)
  (revert S a; refine go00 3 ?_; intro a S)
  (refine wpl_alloc S rfl rfl rfl rfl ?_; clear S a; intro b8 a w S)
  (refine wpl_storeO S rfl rfl rfl rfl rfl (by rfl) (by simp [Value.cells, Value.oneCell', splice]) (by rfl) ?_; clear S; intro w S)
  (revert S a; revert hZ Z; refine go11 5 ?_; intro Z hZ a S)
  (refine wpl_call0 S rfl rfl rfl rfl rfl rfl (ruleCt F3 tb m1 m2 m3 M.ts (consOf M.ts) M.rs hT x _ ⟨_, _, _, rfl, hx1, hx2, hx3⟩) rfl ?_; clear S a; intro v9 a w hv9 S)
  (revert S a; revert hZ Z; refine go11 5 ?_; intro Z hZ a S)
  (refine wpl_v S rfl rfl rfl (sv_neErr S rfl rfl hv9) ?_; clear S a; intro a S)
  (revert S a; revert hZ Z; refine go10 2 ?_; intro a S)
  refine wpc_sp S rfl ?_ ?_ <;> intro h
  ·(revert S a; refine go00 5 ?_; intro a S)
   refine wp_ret (fr1 S Tryz.results52 ?_)
   exact zzDeQ0
  (revert S a; revert hZ Z; refine go10 6 ?_; intro a S)
  change ∃ m', _ ∧ _
  (have hz : ruleE (consOf M.ts) M.rs x = 0 := (by first | assumption | (simp_all; done)); rw [← hao] at S; replace S := S.drop1; refine ⟨M.ru.length - (k + 1), by omega, k + 1, rfl, by omega, (by rw [hfe, drop_at hx, rulesE_cons, if_neg (fun h => h hz)]), ?_⟩; refine S.keep ?_; exact zk)
 (refine wp_exit ?_; conv => whnf)
 clear hZ Z
 (revert S a; revert hZ Z; refine go11 10 ?_; intro Z hZ a S)
 refine wpc_loop (fun m a w' => ∃ (k : Nat), m = M.nv.length - k ∧ k ≤ M.nv.length ∧ neversE (consOf M.ts) M.rs M.nv = neversE (consOf M.ts) M.rs (M.nv.drop k) ∧ St 56 [(0, ptr tb), (42, .slice ao4 M.nv.length cap4), (43, .int .i64 M.nv.length), (44, .int .i64 k)] w0 F [m1, m2, m3] F3 [] a w') ?_ ?_
 ·(have hzr : rulesE (consOf M.ts) M.rs M.ru = 0 := (by rw [hfe, List.drop_eq_nil_of_le (by omega)]; rfl); replace S := S.drop1; refine ⟨M.nv.length, 0, by omega, Nat.zero_le _, rfl, ?_⟩; refine S.keep ?_; exact zk)
 (clear S; rintro m a w ⟨k2, rfl, hkl2, hfe2, S⟩)
 (revert S a; refine go01 5 ?_; intro Z hZ a S)
 refine wpc_sp S rfl ?_ ?_ <;> intro h
 ·(revert S a; revert hZ Z; refine go11 4 ?_; intro Z hZ a S)
  (refine wp_seq_k ?_; intro Z hZ)
  (obtain ⟨bq, oq, hao, x, cs1, hx, hd1, ⟨w3, rfl, hx3⟩⟩ := LiM.pos hpos4 (k := k2) (by omega); rw [hao] at S; replace hd1 := Cels.mono hF03 hd1; replace hx3 := hx3.mono hF03; have y3 := hx3; obtain ⟨p3, q3, rfl, -, -⟩ := y3)
  (revert S a; refine go00 3 ?_; intro a S)
  (refine wpl_alloc S rfl rfl rfl rfl ?_; clear S a; intro b11 a w S)
  (refine wpl_storeO S rfl rfl rfl rfl rfl (by rfl) (by simp [Value.cells, Value.oneCell', splice]) (by rfl) ?_; clear S; intro w S)
  (revert S a; revert hZ Z; refine go11 6 ?_; intro Z hZ a S)
  (refine wpl_call0 S rfl rfl rfl rfl rfl rfl (bodyCt F3 tb m1 m2 m3 M.ts (consOf M.ts) M.rs hT x.body _ hx3) rfl ?_; clear S a; intro v9 a w hv9 S)
  (revert S a; revert hZ Z; refine go11 5 ?_; intro Z hZ a S)
  (refine wpl_v S rfl rfl rfl (sv_neErr S rfl rfl hv9) ?_; clear S a; intro a S)
  (revert S a; revert hZ Z; refine go10 2 ?_; intro a S)
  refine wpc_sp S rfl ?_ ?_ <;> intro h
  ·(revert S a; refine go00 5 ?_; intro a S)
   refine wp_ret (fr1 S Tryz.results52 ?_)
   exact zzDeQ0
  (revert S a; revert hZ Z; refine go10 6 ?_; intro a S)
  change ∃ m', _ ∧ _
  (have hz : bodyE (consOf M.ts) M.rs x.body = 0 := (by first | assumption | (simp_all; done)); rw [← hao] at S; replace S := S.drop1; refine ⟨M.nv.length - (k2 + 1), by omega, k2 + 1, rfl, by omega, (by rw [hfe2, drop_at hx, neversE_cons, if_neg (fun h => h hz)]), ?_⟩; refine S.keep ?_; exact zk)
 (refine wp_exit ?_; conv => whnf)
 clear hZ Z
 (revert S a; revert hZ Z; refine go10 5 ?_; intro a S)
 refine wp_ret (fr1 S Tryz.results52 ?_)
 exact zzDeQ0
end Go.Proofs.YthnafdbebniapaaGreatDoor
namespace Go.Proofs.YthnafdbebniapaaGreatDoor
open Go Go.Wk Go.RowKit Go.Extern.Stop Go.Stop Go.Extern
set_option linter.unusedSimpArgs false
set_option linter.unusedVariables false
theorem asNil (t : Value) (w : World) : Calls Tryz.prog 51 #[.nilIface, t] w fun e w' => e = .returned (.bool false) ∧ w' = w := by
  go_enter Tryz.func51, Tryz.ntmps51
  go_wp2
  go_ret
  exact ⟨rfl, rfl⟩
abbrev hd (t : Nat) : Value := .pointer (some ⟨7, t, none⟩)
theorem valueOfP (t : Addr) (w : World) : (ReflectliteValue.unpack (.iface 117 (.pointer (some t)))).run Tryz.prog w
    = .ok (.agg #[hd 117, .pointer (some ⟨w.heap.size, 0, none⟩), .int .u64 150]) (w.alloc (.cells #[.pointer (some t)] 117)) := by kernel_rfl
theorem typeP (a : Addr) (w : World) : (ReflectliteValue.methodAny (ReflectliteValue.valueError "reflectlite.Value.Type" 0) (fun t _ _ _ => ReflectliteType.toType t) #[.agg #[hd 117, .pointer (some a), .int .u64 150]]).run Tryz.prog w
    = .ok (.iface 212 (.agg #[hd 117])) w := by kernel_rfl
theorem mKind (h : Value) (w : World) : (Go.method 448 212 (.agg #[h]) "Kind").run Tryz.prog w = .ok (286, h) w := by kernel_rfl
theorem kindP (w : World) : ((ReflectliteType.abiMethod fun t => (fun a : Nat => Value.int IntKind.u8 (a : Int)) <$> Rtype.kind t) #[hd 117]).run Tryz.prog w = .ok (.int .u8 22) w := by kernel_rfl
theorem kindS (w : World) : ((ReflectliteType.abiMethod fun t => (fun a : Nat => Value.int IntKind.u8 (a : Int)) <$> Rtype.kind t) #[hd 112]).run Tryz.prog w = .ok (.int .u8 25) w := by kernel_rfl
theorem rlm (z : Sem Value) (f : TypeId → Addr → Nat → Nat → Sem Value) (v : Value) :
    ReflectliteValue.method z f #[v] = (do match ← ReflectliteValue.parts v with | none => z | some (t, a, fl) => f t a fl (fl % 32)) := rfl
theorem partsP (a : Addr) (w : World) : (ReflectliteValue.parts (.agg #[hd 117, .pointer (some a), .int .u64 150])).run Tryz.prog w = .ok (some (117, a, 150)) w := by kernel_rfl
theorem isNilP (a p : Addr) (W : World) (ha : W.cell? a = some (.pointer (some p))) :
    (ReflectliteValue.method (ReflectliteValue.valueError "reflectlite.Value.IsNil" 0) ReflectliteValue.isNil #[.agg #[hd 117, .pointer (some a), .int .u64 150]]).run Tryz.prog W = .ok (.bool false) W := by
  rw [rlm]
  simp only [Sem.run_bind, partsP, Result.andThen]
  simp [ReflectliteValue.isNil, loadVar, isAgg, underlying, Tryz.underlying117, ha, Result.andThen]
theorem mElem (h : Value) (w : World) : (Go.method 448 212 (.agg #[h]) "Elem").run Tryz.prog w = .ok (297, .agg #[h]) w := by kernel_rfl
theorem mImplements (h : Value) (w : World) : (Go.method 448 212 (.agg #[h]) "Implements").run Tryz.prog w = .ok (298, .agg #[h]) w := by kernel_rfl
theorem mAssignableTo (h : Value) (w : World) : (Go.method 448 212 (.agg #[h]) "AssignableTo").run Tryz.prog w = .ok (295, .agg #[h]) w := by kernel_rfl
theorem elemP (w : World) : (ReflectliteType.method ReflectliteType.elem #[.agg #[hd 117]]).run Tryz.prog w = .ok (.iface 212 (.agg #[hd 112])) w := by kernel_rfl
theorem implementsS (w : World) : (ReflectliteType.relation "Implements" ReflectliteType.implements_ #[.agg #[hd 112], .iface 212 (.agg #[hd 115])]).run Tryz.prog w = .ok (.bool true) w := by kernel_rfl
theorem typeOfS (v : Value) (w : World) : (ReflectliteType.typeOf #[.iface 112 v]).run Tryz.prog w = .ok (.iface 212 (.agg #[hd 112])) w := by kernel_rfl
theorem assignableS (w : World) : (ReflectliteType.relation "AssignableTo" ReflectliteType.assignableTo #[.agg #[hd 112], .iface 212 (.agg #[hd 112])]).run Tryz.prog w = .ok (.bool true) w := by kernel_rfl
theorem valueOfS (l c e : Int) (w : World) : (ReflectliteValue.unpack (.iface 112 (.agg #[.int .i64 l, .int .i64 c, .int .i64 e]))).run Tryz.prog w
    = .ok (.agg #[hd 112, .pointer (some ⟨w.heap.size, 0, none⟩), .int .u64 153]) (w.alloc (.cells #[.int .i64 l, .int .i64 c, .int .i64 e] 112)) := by kernel_rfl
theorem elemOfP (w : World) : (Rtype.elem? 117).run Tryz.prog w = .ok (some 112) w := by kernel_rfl
theorem mkS (p : Addr) (w : World) : (ReflectliteValue.mk 112 p ReflectliteValue.flagAddr).run Tryz.prog w = .ok (.agg #[hd 112, .pointer (some p), .int .u64 409]) w := by kernel_rfl
theorem elemV (a p : Addr) (W : World) (ha : W.cell? a = some (.pointer (some p))) :
    (ReflectliteValue.method (ReflectliteValue.valueError "reflectlite.Value.Elem" 0) ReflectliteValue.elem #[.agg #[hd 117, .pointer (some a), .int .u64 150]]).run Tryz.prog W
      = .ok (.agg #[hd 112, .pointer (some p), .int .u64 409]) W := by
  rw [rlm]
  simp only [Sem.run_bind, partsP, Result.andThen]
  simp [ReflectliteValue.elem, loadVar, isAgg, underlying, Tryz.underlying117, ha, Result.andThen, elemOfP, mkS]
theorem rls (v x : Value) : ReflectliteValue.set #[v, x] = (do
    let (some (dst, a, fl), some (src, b, _)) := (← ReflectliteValue.parts v, ← ReflectliteValue.parts x)
      | unsupported (.noEntry "extern/(internal/reflectlite.Value).Set.zeroValue")
    if fl / ReflectliteValue.flagAddr % 2 == 0 then unsupported (.noEntry "extern/(internal/reflectlite.Value).Set.unaddressable")
    let val ← loadVar src b
    if ← Rtype.directlyAssignable dst src then storeVar dst a val
    else if ← Rtype.implements dst src then
      if (← Rtype.kind src) == 20 then
        match val with
        | .nilIface => unsupported (.noEntry "extern/reflectlite: a nil value of one interface type handed on as a value of another")
        | _ => storeVar dst a val
      else storeVar dst a (.iface src val)
    else panicString ("reflectlite.Set: value of type " ++ (← Rtype.spelt src) ++ " is not assignable to type " ++ (← Rtype.spelt dst))
    pure (.tuple #[])) := rfl
theorem partsSa (a : Addr) (w : World) : (ReflectliteValue.parts (.agg #[hd 112, .pointer (some a), .int .u64 409])).run Tryz.prog w = .ok (some (112, a, 409)) w := by kernel_rfl
theorem partsS (a : Addr) (w : World) : (ReflectliteValue.parts (.agg #[hd 112, .pointer (some a), .int .u64 153])).run Tryz.prog w = .ok (some (112, a, 153)) w := by kernel_rfl
theorem directS (w : World) : (Rtype.directlyAssignable 112 112).run Tryz.prog w = .ok true w := by kernel_rfl
theorem sizeS (w : World) : (sizeOf 112).run Tryz.prog w = .ok 3 w := by kernel_rfl
theorem isAggS (w : World) : (isAgg 112).run Tryz.prog w = .ok true w := by kernel_rfl
theorem setS (bw b : Nat) (l c e : Int) (x y z : Value) (W : World) (hb : ∀ j u, [Value.int .i64 l, .int .i64 c, .int .i64 e][j]? = some u → W.cell? ⟨b, j, none⟩ = some u) (ht : W.heap[bw]? = some (.cells ⟨[x, y, z]⟩ 112 (0, 0))) :
    (ReflectliteValue.set #[.agg #[hd 112, .pointer (some ⟨bw, 0, none⟩), .int .u64 409], .agg #[hd 112, .pointer (some ⟨b, 0, none⟩), .int .u64 153]]).run Tryz.prog W
      = .ok (.tuple #[]) (W.setRow bw ⟨[.int .i64 l, .int .i64 c, .int .i64 e]⟩) := by
  rw [rls]
  simp only [Sem.run_bind, partsSa, partsS, Result.andThen]
  have h1 : (loadVar 112 ⟨b, 0, none⟩).run Tryz.prog W = .ok (.agg ⟨[.int .i64 l, .int .i64 c, .int .i64 e]⟩) W := by
    have h0 := hb 0 _ rfl
    have h1 := hb 1 _ rfl
    have h2 := hb 2 _ rfl
    simp [loadVar, isAggS, sizeS, loadCells, loadCellsFrom, Addr.add, h0, h1, h2, Result.andThen]
  have h2 := run_storeCells_at Tryz.prog bw 0 112 [Value.int .i64 l, .int .i64 c, .int .i64 e] 0 ⟨[x, y, z]⟩ W ht (by simp) (fun u hu => by
    rcases List.mem_cons.1 hu with rfl | hu
    · rfl
    rcases List.mem_cons.1 hu with rfl | hu
    · rfl
    rw [List.mem_singleton] at hu; subst hu; rfl)
  have h3 : (storeCells ⟨bw, 0, none⟩ [Value.int .i64 l, Value.int .i64 c, Value.int .i64 e]).run Tryz.prog W = .ok () (W.setRow bw ⟨[.int .i64 l, .int .i64 c, .int .i64 e]⟩) := by simpa using h2
  simp [ReflectliteValue.flagAddr, h1, Result.andThen, directS, storeVar, Value.cells, sizeS, h3]
def asWorld (w : World) (bw : Nat) (l c e : Int) : World := ((((w.alloc (.cells #[.pointer (some ⟨bw, 0, none⟩)] 117)).alloc (.cells #[hd 117, .pointer (some ⟨w.heap.size, 0, none⟩), .int .u64 150] 159)).alloc (.cells #[hd 117, .pointer (some ⟨w.heap.size, 0, none⟩), .int .u64 150] 159)).alloc (.cells #[.int .i64 l, .int .i64 c, .int .i64 e] 112)).setRow bw ⟨[.int .i64 l, .int .i64 c, .int .i64 e]⟩
theorem asHit (l c e : Int) (bw : Nat) (x y z : Value) (w : World) (hg : w.cell? ⟨0, 0, none⟩ = some (.iface 212 (.agg #[hd 115]))) (ht : w.heap[bw]? = some (.cells ⟨[x, y, z]⟩ 112 (0, 0))) :
    Calls Tryz.prog 51 #[.iface 112 (.agg #[.int .i64 l, .int .i64 c, .int .i64 e]), .iface 117 (.pointer (some ⟨bw, 0, none⟩))] w fun ev w' => ev = .returned (.bool true) ∧ w' = asWorld w bw l c e := by
  have h6 := @run_callFunc_extern Tryz.prog 81 _ (fun args => ReflectliteValue.unpack (args.getD 0 (.tuple #[]))) Tryz.func81 (by kernel_rfl) (by kernel_rfl) (by kernel_rfl) (by kernel_rfl)
  have h7 := @run_callFunc_extern Tryz.prog 82 _ (ReflectliteValue.methodAny (ReflectliteValue.valueError "reflectlite.Value.Type" 0) (fun t _ _ _ => ReflectliteType.toType t)) Tryz.func82 (by kernel_rfl) (by kernel_rfl) (by kernel_rfl) (by kernel_rfl)
  have h8 := @run_callFunc_extern Tryz.prog 83 _ (ReflectliteValue.method (ReflectliteValue.valueError "reflectlite.Value.IsNil" 0) ReflectliteValue.isNil) Tryz.func83 (by kernel_rfl) (by kernel_rfl) (by kernel_rfl) (by kernel_rfl)
  have h27 := @run_callFunc_extern Tryz.prog 286 _ (ReflectliteType.abiMethod fun t => do pure (.int .u8 (← Rtype.kind t))) Tryz.func286 (by kernel_rfl) (by kernel_rfl) (by kernel_rfl) (by kernel_rfl)
  have h37 := @run_callFunc_extern Tryz.prog 297 _ (ReflectliteType.method ReflectliteType.elem) Tryz.func297 (by kernel_rfl) (by kernel_rfl) (by kernel_rfl) (by kernel_rfl)
  have h38 := @run_callFunc_extern Tryz.prog 298 _ (ReflectliteType.relation "Implements" ReflectliteType.implements_) Tryz.func298 (by kernel_rfl) (by kernel_rfl) (by kernel_rfl) (by kernel_rfl)
  have h10 := @run_callFunc_extern Tryz.prog 133 _ ReflectliteType.typeOf Tryz.func133 (by kernel_rfl) (by kernel_rfl) (by kernel_rfl) (by kernel_rfl)
  have h35 := @run_callFunc_extern Tryz.prog 295 _ (ReflectliteType.relation "AssignableTo" ReflectliteType.assignableTo) Tryz.func295 (by kernel_rfl) (by kernel_rfl) (by kernel_rfl) (by kernel_rfl)
  have h11 := @run_callFunc_extern Tryz.prog 134 _ (ReflectliteValue.method (ReflectliteValue.valueError "reflectlite.Value.Elem" 0) ReflectliteValue.elem) Tryz.func134 (by kernel_rfl) (by kernel_rfl) (by kernel_rfl) (by kernel_rfl)
  have h12 := @run_callFunc_extern Tryz.prog 135 _ ReflectliteValue.set Tryz.func135 (by kernel_rfl) (by kernel_rfl) (by kernel_rfl) (by kernel_rfl)
  have tO := typeOfS
  have mA := mAssignableTo
  have aS := assignableS
  have vS := valueOfS
  have f6 := valueOfP
  have f7 := typeP
  have mK := mKind
  have mE := mElem
  have mI := mImplements
  have kP := kindP
  have kS := kindS
  have eP := elemP
  have iS := implementsS
  have hlt : bw < w.heap.size := by
    rcases Nat.lt_or_ge bw w.heap.size with h | h
    · exact h
    · rw [Array.getElem?_eq_none h] at ht; cases ht
  have hgl : 0 < w.heap.size := by
    rcases Nat.lt_or_ge 0 w.heap.size with h | h
    · exact h
    · simp [World.cell?, Array.getElem?_eq_none h] at hg
  have n8 := isNilP ⟨w.heap.size, 0, none⟩ ⟨bw, 0, none⟩ ((w.alloc (.cells #[.pointer (some ⟨bw, 0, none⟩)] 117)).alloc (.cells #[hd 117, .pointer (some ⟨w.heap.size, 0, none⟩), .int .u64 150] 159)) (by simp)
  have hg2 : ((w.alloc (.cells #[.pointer (some ⟨bw, 0, none⟩)] 117)).alloc (.cells #[hd 117, .pointer (some ⟨w.heap.size, 0, none⟩), .int .u64 150] 159)).cell? ⟨0, 0, none⟩ = some (.iface 212 (.agg #[hd 115])) := by
    rw [World.cell?_alloc_lt _ _ ⟨0, 0, none⟩ (by simp), World.cell?_alloc_lt _ _ ⟨0, 0, none⟩ hgl]; exact hg
  have el := elemV ⟨w.heap.size, 0, none⟩ ⟨bw, 0, none⟩ (((w.alloc (.cells #[.pointer (some ⟨bw, 0, none⟩)] 117)).alloc (.cells #[hd 117, .pointer (some ⟨w.heap.size, 0, none⟩), .int .u64 150] 159)).alloc (.cells #[hd 117, .pointer (some ⟨w.heap.size, 0, none⟩), .int .u64 150] 159)) (by rw [World.cell?_alloc_lt _ _ ⟨w.heap.size, 0, none⟩ (by simp; omega)]; simp)
  have st := setS bw (w.heap.size + 1 + 1 + 1) l c e x y z ((((w.alloc (.cells #[.pointer (some ⟨bw, 0, none⟩)] 117)).alloc (.cells #[hd 117, .pointer (some ⟨w.heap.size, 0, none⟩), .int .u64 150] 159)).alloc (.cells #[hd 117, .pointer (some ⟨w.heap.size, 0, none⟩), .int .u64 150] 159)).alloc (.cells #[.int .i64 l, .int .i64 c, .int .i64 e] 112))
    (fun j u hj => by
      rw [World.cell?_alloc_at _ _ _ _ (by simp)]
      rcases j with - | j
      · cases hj; rfl
      rcases j with - | j
      · cases hj; rfl
      rcases j with - | j
      · cases hj; rfl
      · simp at hj)
    (by
      have e1 : ∀ (v : World) (o : Obj), bw < v.heap.size → (v.alloc o).heap[bw]? = v.heap[bw]? := fun v o hv => by
        rw [show (v.alloc o).heap = v.heap.push o from rfl, Array.getElem?_push_lt hv, Array.getElem?_eq_getElem hv]
      rw [e1 _ _ (by simp; omega), e1 _ _ (by simp; omega), e1 _ _ (by simp; omega), e1 _ _ hlt]
      exact ht)
  go_enter Tryz.func51, Tryz.ntmps51
  go_wp2
  refine wp_loop_rounds 1 ?_
  rw [rounds_succ]
  go_wp2
  go_ret
  exact ⟨rfl, rfl⟩
end Go.Proofs.YthnafdbebniapaaGreatDoor
namespace Go.Proofs.YthnafdbebniapaaGreatDoor
open Go Go.Wk Go.Un Go.De
set_option linter.unusedSimpArgs false
set_option linter.unusedVariables false
theorem asNilCt (F : Heap) (t : Value) : Ct Tryz.prog 51 [.nilIface, t] F [] (fun _ _ u => u = .bool false) := by
  intro w hw
  refine (asNil t w).mono fun e w' ⟨h1, h2⟩ => ?_
  subst h2
  exact ⟨_, F, [], h1, hw.tr, rfl⟩
def ErrT (F : Heap) : Prop := Cel F 0 0 (.iface 212 (.agg #[hd 115]))
theorem tr_setRow {w0 W : World} {F0 F : Heap} {K0 : List Nat} {G1 G2 : List Grp} {b : Nat} {row row' : Array Value} {e : TypeId} (h : Tr w0 F0 K0 W F (G1 ++ [(b, .cells row e (0, 0))] :: G2)) : Tr w0 F0 K0 (W.setRow b row') F (G1 ++ [(b, .cells row' e (0, 0))] :: G2) := by
  have t5 := Tr.get h
  exact Tr.write h rfl rfl rfl (by simp [World.setRow]) (setRow_heap W b _ row' e _ t5) (fun k hk => setRow_other W b k _ hk)
theorem asHitCt (F : Heap) (hE : ErrT F) (l c e : Int) (bw : Nat) (x y z : Value) : Ct Tryz.prog 51 [.iface 112 (.agg ⟨[.int .i64 l, .int .i64 c, .int .i64 e]⟩), .iface 117 (.pointer (some ⟨bw, 0, none⟩))] F [[(bw, .cells ⟨[x, y, z]⟩ 112 (0, 0))]]
    (fun _ G' u => u = .bool true ∧ G' = [[(bw, .cells ⟨[.int .i64 l, .int .i64 c, .int .i64 e]⟩ 112 (0, 0))]]) := by
  intro w hw
  have hbw : w.heap[bw]? = some (.cells ⟨[x, y, z]⟩ 112 (0, 0)) := (hw.own (bw, _) (by simp)).1
  refine (asHit l c e bw x y z w (hw.cel hE) hbw).mono fun ev w' ⟨h1, h2⟩ => ?_
  subst h2
  refine ⟨_, F, _, h1, ?_, rfl, rfl⟩
  have t1 := hw.tr.alloc (.cells #[.pointer (some ⟨bw, 0, none⟩)] 117)
  have t2 := t1.alloc (.cells #[hd 117, .pointer (some ⟨w.heap.size, 0, none⟩), .int .u64 150] 159)
  have t3 := t2.alloc (.cells #[hd 117, .pointer (some ⟨w.heap.size, 0, none⟩), .int .u64 150] 159)
  have t4 := t3.alloc (.cells #[.int .i64 l, .int .i64 c, .int .i64 e] 112)
  have t6 := tr_setRow (G1 := [_, _, _, _]) (G2 := []) (row' := ⟨[.int .i64 l, .int .i64 c, .int .i64 e]⟩) t4
  exact t6.sub (by simp)
theorem asErrCt (F : Heap) (hE : ErrT F) (e : Int) (u : Value) (he : ErrV e u) (bw : Nat) : Ct Tryz.prog 51 [u, .iface 117 (.pointer (some ⟨bw, 0, none⟩))] F [[(bw, .cells ⟨[.int .i64 0, .int .i64 0, .int .i64 0]⟩ 112 (0, 0))]]
    (fun _ G' r => ∃ l c d : Int, r = .bool (decide (e ≠ 0)) ∧ G' = [[(bw, .cells ⟨[.int .i64 l, .int .i64 c, .int .i64 d]⟩ 112 (0, 0))]] ∧ (e ≠ 0 → d = e)) := by
  unfold ErrV at he
  split at he
  · rename_i h
    subst he
    refine Ct.mono (Ct.lend (asNilCt _ _)) fun F' G' r hr => ?_
    obtain ⟨rfl, rfl⟩ := hr
    exact ⟨0, 0, 0, by rw [h]; rfl, rfl, fun h9 => absurd h h9⟩
  · rename_i h
    obtain ⟨l, c, rfl⟩ := he
    refine Ct.mono (asHitCt F hE l c e bw _ _ _) fun F' G' r hr => ?_
    obtain ⟨rfl, rfl⟩ := hr
    exact ⟨l, c, e, by rw [decide_eq_true h], rfl, fun _ => rfl⟩
end Go.Proofs.YthnafdbebniapaaGreatDoor
