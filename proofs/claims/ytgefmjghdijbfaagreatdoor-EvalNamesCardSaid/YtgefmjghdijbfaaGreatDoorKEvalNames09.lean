/- Walks. -/
import Derived.Test.YtgefmjghdijbfaaGreatDoorKEvalNames02
import Derived.Test.YtgefmjghdijbfaaGreatDoorKEvalNamesTy
import Derived.WalkKit
import Derived.LaidEql
import Derived.Stop.Asserts
import Derived.RowKitTokens
import Derived.Test.YtgefmjghdijbfaaGreatDoorQ26
import Derived.Test.YtgefmjghdijbfaaGreatDoorKEvalNames08
set_option maxHeartbeats 8000000
namespace Go.Proofs.YtgefmjghdijbfaaGreatDoor
open Go Go.Wk Go.RowKit Go.Extern.Stop Go.Stop Go.Extern Go.Un Go.De
set_option linter.unusedSimpArgs false
set_option linter.unusedVariables false
theorem asNil (t : Value) (w : World) : Calls Tryz.prog 50 #[.nilIface, t] w fun e w' => e = .returned (.bool false) ∧ w' = w := by
 go_enter Tryz.func50, Tryz.ntmps50
 go_wp2
 go_ret
 exact ⟨rfl, rfl⟩
theorem valueOfP (t : Addr) (w : World) : (ReflectliteValue.unpack (.iface 121 (.pointer (some t)))).run Tryz.prog w
  = .ok (.agg #[hd 121, .pointer (some ⟨w.heap.size, 0, none⟩), .int .u64 150]) (w.alloc (.cells #[.pointer (some t)] 121)) := by kernel_rfl
theorem typeP (a : Addr) (w : World) : (ReflectliteValue.methodAny (ReflectliteValue.valueError "reflectlite.Value.Type" 0) (fun t _ _ _ => ReflectliteType.toType t) #[.agg #[hd 121, .pointer (some a), .int .u64 150]]).run Tryz.prog w
  = .ok (.iface 208 (.agg #[hd 121])) w := by kernel_rfl
theorem mKind (h : Value) (w : World) : (Go.method 463 208 (.agg #[h]) "Kind").run Tryz.prog w = .ok (288, h) w := by kernel_rfl
theorem kindP (w : World) : ((ReflectliteType.abiMethod fun t => (fun a : Nat => Value.int IntKind.u8 (a : Int)) <$> Rtype.kind t) #[hd 121]).run Tryz.prog w = .ok (.int .u8 22) w := by kernel_rfl
theorem kindS (w : World) : ((ReflectliteType.abiMethod fun t => (fun a : Nat => Value.int IntKind.u8 (a : Int)) <$> Rtype.kind t) #[hd 116]).run Tryz.prog w = .ok (.int .u8 25) w := by kernel_rfl
theorem rlm (z : Sem Value) (f : TypeId → Addr → Nat → Nat → Sem Value) (v : Value) :
  ReflectliteValue.method z f #[v] = (do match ← ReflectliteValue.parts v with | none => z | some (t, a, fl) => f t a fl (fl % 32)) := rfl
theorem partsP (a : Addr) (w : World) : (ReflectliteValue.parts (.agg #[hd 121, .pointer (some a), .int .u64 150])).run Tryz.prog w = .ok (some (121, a, 150)) w := by kernel_rfl
theorem isNilP (a p : Addr) (W : World) (ha : W.cell? a = some (.pointer (some p))) :
  (ReflectliteValue.method (ReflectliteValue.valueError "reflectlite.Value.IsNil" 0) ReflectliteValue.isNil #[.agg #[hd 121, .pointer (some a), .int .u64 150]]).run Tryz.prog W = .ok (.bool false) W := by
 rw [rlm]
 simp only [Sem.run_bind, partsP, Result.andThen]
 simp [ReflectliteValue.isNil, loadVar, isAgg, underlying, Tryz.underlying121, ha, Result.andThen]
theorem mElem (h : Value) (w : World) : (Go.method 463 208 (.agg #[h]) "Elem").run Tryz.prog w = .ok (300, .agg #[h]) w := by kernel_rfl
theorem mImplements (h : Value) (w : World) : (Go.method 463 208 (.agg #[h]) "Implements").run Tryz.prog w = .ok (301, .agg #[h]) w := by kernel_rfl
theorem mAssignableTo (h : Value) (w : World) : (Go.method 463 208 (.agg #[h]) "AssignableTo").run Tryz.prog w = .ok (298, .agg #[h]) w := by kernel_rfl
theorem elemP (w : World) : (ReflectliteType.method ReflectliteType.elem #[.agg #[hd 121]]).run Tryz.prog w = .ok (.iface 208 (.agg #[hd 116])) w := by kernel_rfl
theorem implementsS (w : World) : (ReflectliteType.relation "Implements" ReflectliteType.implements_ #[.agg #[hd 116], .iface 208 (.agg #[hd 119])]).run Tryz.prog w = .ok (.bool true) w := by kernel_rfl
theorem typeOfS (v : Value) (w : World) : (ReflectliteType.typeOf #[.iface 116 v]).run Tryz.prog w = .ok (.iface 208 (.agg #[hd 116])) w := by kernel_rfl
theorem assignableS (w : World) : (ReflectliteType.relation "AssignableTo" ReflectliteType.assignableTo #[.agg #[hd 116], .iface 208 (.agg #[hd 116])]).run Tryz.prog w = .ok (.bool true) w := by kernel_rfl
theorem valueOfS (l c e : Int) (w : World) : (ReflectliteValue.unpack (.iface 116 (.agg #[.int .i64 l, .int .i64 c, .int .i64 e]))).run Tryz.prog w
  = .ok (.agg #[hd 116, .pointer (some ⟨w.heap.size, 0, none⟩), .int .u64 153]) (w.alloc (.cells #[.int .i64 l, .int .i64 c, .int .i64 e] 116)) := by kernel_rfl
theorem elemOfP (w : World) : (Rtype.elem? 121).run Tryz.prog w = .ok (some 116) w := by kernel_rfl
theorem mkS (p : Addr) (w : World) : (ReflectliteValue.mk 116 p ReflectliteValue.flagAddr).run Tryz.prog w = .ok (.agg #[hd 116, .pointer (some p), .int .u64 409]) w := by kernel_rfl
theorem elemV (a p : Addr) (W : World) (ha : W.cell? a = some (.pointer (some p))) :
  (ReflectliteValue.method (ReflectliteValue.valueError "reflectlite.Value.Elem" 0) ReflectliteValue.elem #[.agg #[hd 121, .pointer (some a), .int .u64 150]]).run Tryz.prog W
   = .ok (.agg #[hd 116, .pointer (some p), .int .u64 409]) W := by
 rw [rlm]
 simp only [Sem.run_bind, partsP, Result.andThen]
 simp [ReflectliteValue.elem, loadVar, isAgg, underlying, Tryz.underlying121, ha, Result.andThen, elemOfP, mkS]
theorem rls (v x : Value) : ReflectliteValue.set #[v, x] = (do
  let (some (dst, a, fl), some (src, b, _)) := (← ReflectliteValue.parts v, ← ReflectliteValue.parts x)
   | unsupported (.noEntry "extern/(internal/reflectlite.Value).Set.zeroValue")
  if fl / ReflectliteValue.flagAddr % 2 == 0 then unsupported (.noEntry "extern/(internal/reflectlite.Value).Set.unaddressable")
  let val ← loadVar src b
  if ← Rtype.directlyAssignable dst src then storeVar dst a val
  else if ← Rtype.implements dst src then
   if (← Rtype.kind src) == 20 then
    match val with
    | .nilIface => unsupported (.noEntry "extern/reflectlite: a nil value of one interface type handed on as a value of another")
    | _ => storeVar dst a val
   else storeVar dst a (.iface src val)
  else panicString ("reflectlite.Set: value of type " ++ (← Rtype.spelt src) ++ " is not assignable to type " ++ (← Rtype.spelt dst))
  pure (.tuple #[])) := rfl
theorem partsSa (a : Addr) (w : World) : (ReflectliteValue.parts (.agg #[hd 116, .pointer (some a), .int .u64 409])).run Tryz.prog w = .ok (some (116, a, 409)) w := by kernel_rfl
theorem partsS (a : Addr) (w : World) : (ReflectliteValue.parts (.agg #[hd 116, .pointer (some a), .int .u64 153])).run Tryz.prog w = .ok (some (116, a, 153)) w := by kernel_rfl
theorem directS (w : World) : (Rtype.directlyAssignable 116 116).run Tryz.prog w = .ok true w := by kernel_rfl
theorem sizeS (w : World) : (sizeOf 116).run Tryz.prog w = .ok 3 w := by kernel_rfl
theorem isAggS (w : World) : (isAgg 116).run Tryz.prog w = .ok true w := by kernel_rfl
theorem setS (bw b : Nat) (l c e : Int) (x y z : Value) (W : World) (hb : ∀ j u, [Value.int .i64 l, .int .i64 c, .int .i64 e][j]? = some u → W.cell? ⟨b, j, none⟩ = some u) (ht : W.heap[bw]? = some (.cells ⟨[x, y, z]⟩ 116 (0, 0))) :
  (ReflectliteValue.set #[.agg #[hd 116, .pointer (some ⟨bw, 0, none⟩), .int .u64 409], .agg #[hd 116, .pointer (some ⟨b, 0, none⟩), .int .u64 153]]).run Tryz.prog W
   = .ok (.tuple #[]) (W.setRow bw ⟨[.int .i64 l, .int .i64 c, .int .i64 e]⟩) := by
 rw [rls]
 simp only [Sem.run_bind, partsSa, partsS, Result.andThen]
 have h1 : (loadVar 116 ⟨b, 0, none⟩).run Tryz.prog W = .ok (.agg ⟨[.int .i64 l, .int .i64 c, .int .i64 e]⟩) W := by
  have h0 := hb 0 _ rfl
  have h1 := hb 1 _ rfl
  have h2 := hb 2 _ rfl
  simp [loadVar, isAggS, sizeS, loadCells, loadCellsFrom, Addr.add, h0, h1, h2, Result.andThen]
 have h2 := run_storeCells_at Tryz.prog bw 0 116 [Value.int .i64 l, .int .i64 c, .int .i64 e] 0 ⟨[x, y, z]⟩ W ht (by simp) (fun u hu => by
  rcases List.mem_cons.1 hu with rfl | hu
  ·rfl
  rcases List.mem_cons.1 hu with rfl | hu
  ·rfl
  rw [List.mem_singleton] at hu; subst hu; rfl)
 have h3 : (storeCells ⟨bw, 0, none⟩ [Value.int .i64 l, Value.int .i64 c, Value.int .i64 e]).run Tryz.prog W = .ok () (W.setRow bw ⟨[.int .i64 l, .int .i64 c, .int .i64 e]⟩) := by simpa using h2
 simp [ReflectliteValue.flagAddr, h1, Result.andThen, directS, storeVar, Value.cells, sizeS, h3]
def asWorld (w : World) (bw : Nat) (l c e : Int) : World := ((((w.alloc (.cells #[.pointer (some ⟨bw, 0, none⟩)] 121)).alloc (.cells #[hd 121, .pointer (some ⟨w.heap.size, 0, none⟩), .int .u64 150] 154)).alloc (.cells #[hd 121, .pointer (some ⟨w.heap.size, 0, none⟩), .int .u64 150] 154)).alloc (.cells #[.int .i64 l, .int .i64 c, .int .i64 e] 116)).setRow bw ⟨[.int .i64 l, .int .i64 c, .int .i64 e]⟩
theorem asHit (l c e : Int) (bw : Nat) (x y z : Value) (w : World) (hg : w.cell? ⟨0, 0, none⟩ = some (.iface 208 (.agg #[hd 119]))) (ht : w.heap[bw]? = some (.cells ⟨[x, y, z]⟩ 116 (0, 0))) :
  Calls Tryz.prog 50 #[.iface 116 (.agg #[.int .i64 l, .int .i64 c, .int .i64 e]), .iface 121 (.pointer (some ⟨bw, 0, none⟩))] w fun ev w' => ev = .returned (.bool true) ∧ w' = asWorld w bw l c e := by
 have h6 := @run_callFunc_extern Tryz.prog 91 _ (fun args => ReflectliteValue.unpack (args.getD 0 (.tuple #[]))) Tryz.func91 (by kernel_rfl) (by kernel_rfl) (by kernel_rfl) (by kernel_rfl)
 have h7 := @run_callFunc_extern Tryz.prog 92 _ (ReflectliteValue.methodAny (ReflectliteValue.valueError "reflectlite.Value.Type" 0) (fun t _ _ _ => ReflectliteType.toType t)) Tryz.func92 (by kernel_rfl) (by kernel_rfl) (by kernel_rfl) (by kernel_rfl)
 have h8 := @run_callFunc_extern Tryz.prog 93 _ (ReflectliteValue.method (ReflectliteValue.valueError "reflectlite.Value.IsNil" 0) ReflectliteValue.isNil) Tryz.func93 (by kernel_rfl) (by kernel_rfl) (by kernel_rfl) (by kernel_rfl)
 have h27 := @run_callFunc_extern Tryz.prog 288 _ (ReflectliteType.abiMethod fun t => do pure (.int .u8 (← Rtype.kind t))) Tryz.func288 (by kernel_rfl) (by kernel_rfl) (by kernel_rfl) (by kernel_rfl)
 have h37 := @run_callFunc_extern Tryz.prog 300 _ (ReflectliteType.method ReflectliteType.elem) Tryz.func300 (by kernel_rfl) (by kernel_rfl) (by kernel_rfl) (by kernel_rfl)
 have h38 := @run_callFunc_extern Tryz.prog 301 _ (ReflectliteType.relation "Implements" ReflectliteType.implements_) Tryz.func301 (by kernel_rfl) (by kernel_rfl) (by kernel_rfl) (by kernel_rfl)
 have h10 := @run_callFunc_extern Tryz.prog 133 _ ReflectliteType.typeOf Tryz.func133 (by kernel_rfl) (by kernel_rfl) (by kernel_rfl) (by kernel_rfl)
 have h35 := @run_callFunc_extern Tryz.prog 298 _ (ReflectliteType.relation "AssignableTo" ReflectliteType.assignableTo) Tryz.func298 (by kernel_rfl) (by kernel_rfl) (by kernel_rfl) (by kernel_rfl)
 have h11 := @run_callFunc_extern Tryz.prog 134 _ (ReflectliteValue.method (ReflectliteValue.valueError "reflectlite.Value.Elem" 0) ReflectliteValue.elem) Tryz.func134 (by kernel_rfl) (by kernel_rfl) (by kernel_rfl) (by kernel_rfl)
 have h12 := @run_callFunc_extern Tryz.prog 135 _ ReflectliteValue.set Tryz.func135 (by kernel_rfl) (by kernel_rfl) (by kernel_rfl) (by kernel_rfl)
 have tO := typeOfS
 have mA := mAssignableTo
 have aS := assignableS
 have vS := valueOfS
 have f6 := valueOfP
 have f7 := typeP
 have mK := mKind
 have mE := mElem
 have mI := mImplements
 have kP := kindP
 have kS := kindS
 have eP := elemP
 have iS := implementsS
 have hlt : bw < w.heap.size := by
  rcases Nat.lt_or_ge bw w.heap.size with h | h
  ·exact h
  ·rw [Array.getElem?_eq_none h] at ht; cases ht
 have hgl : 0 < w.heap.size := by
  rcases Nat.lt_or_ge 0 w.heap.size with h | h
  ·exact h
  ·simp [World.cell?, Array.getElem?_eq_none h] at hg
 have n8 := isNilP ⟨w.heap.size, 0, none⟩ ⟨bw, 0, none⟩ ((w.alloc (.cells #[.pointer (some ⟨bw, 0, none⟩)] 121)).alloc (.cells #[hd 121, .pointer (some ⟨w.heap.size, 0, none⟩), .int .u64 150] 154)) (by simp)
 have hg2 : ((w.alloc (.cells #[.pointer (some ⟨bw, 0, none⟩)] 121)).alloc (.cells #[hd 121, .pointer (some ⟨w.heap.size, 0, none⟩), .int .u64 150] 154)).cell? ⟨0, 0, none⟩ = some (.iface 208 (.agg #[hd 119])) := by
  rw [World.cell?_alloc_lt _ _ ⟨0, 0, none⟩ (by simp), World.cell?_alloc_lt _ _ ⟨0, 0, none⟩ hgl]; exact hg
 have el := elemV ⟨w.heap.size, 0, none⟩ ⟨bw, 0, none⟩ (((w.alloc (.cells #[.pointer (some ⟨bw, 0, none⟩)] 121)).alloc (.cells #[hd 121, .pointer (some ⟨w.heap.size, 0, none⟩), .int .u64 150] 154)).alloc (.cells #[hd 121, .pointer (some ⟨w.heap.size, 0, none⟩), .int .u64 150] 154)) (by rw [World.cell?_alloc_lt _ _ ⟨w.heap.size, 0, none⟩ (by simp; omega)]; simp)
 have st := setS bw (w.heap.size + 1 + 1 + 1) l c e x y z ((((w.alloc (.cells #[.pointer (some ⟨bw, 0, none⟩)] 121)).alloc (.cells #[hd 121, .pointer (some ⟨w.heap.size, 0, none⟩), .int .u64 150] 154)).alloc (.cells #[hd 121, .pointer (some ⟨w.heap.size, 0, none⟩), .int .u64 150] 154)).alloc (.cells #[.int .i64 l, .int .i64 c, .int .i64 e] 116))
  (fun j u hj => by
   rw [World.cell?_alloc_at _ _ _ _ (by simp)]
   rcases j with - | j
   ·cases hj; rfl
   rcases j with - | j
   ·cases hj; rfl
   rcases j with - | j
   ·cases hj; rfl
   ·simp at hj)
  (by
   have e1 : ∀ (v : World) (o : Obj), bw < v.heap.size → (v.alloc o).heap[bw]? = v.heap[bw]? := fun v o hv => by
    rw [show (v.alloc o).heap = v.heap.push o from rfl, Array.getElem?_push_lt hv, Array.getElem?_eq_getElem hv]
   rw [e1 _ _ (by simp; omega), e1 _ _ (by simp; omega), e1 _ _ (by simp; omega), e1 _ _ hlt]
   exact ht)
 go_enter Tryz.func50, Tryz.ntmps50
 go_wp2
 refine wp_loop_rounds 1 ?_
 rw [rounds_succ]
 go_wp2
 go_ret
 exact ⟨rfl, rfl⟩
theorem asNilCt (F : Heap) (t : Value) : Ct Tryz.prog 50 [.nilIface, t] F [] (fun _ _ u => u = .bool false) := by
 intro w hw
 refine (asNil t w).mono fun e w' ⟨h1, h2⟩ => ?_
 subst h2
 exact ⟨_, F, [], h1, hw.tr, rfl⟩
theorem tr_setRow {w0 W : World} {F0 F : Heap} {K0 : List Nat} {G1 G2 : List Grp} {b : Nat} {row row' : Array Value} {e : TypeId} (h : Tr w0 F0 K0 W F (G1 ++ [(b, .cells row e (0, 0))] :: G2)) : Tr w0 F0 K0 (W.setRow b row') F (G1 ++ [(b, .cells row' e (0, 0))] :: G2) := by
 have t5 := Tr.get h
 exact Tr.write h rfl rfl rfl (by simp [World.setRow]) (setRow_heap W b _ row' e _ t5) (fun k hk => setRow_other W b k _ hk)
theorem asHitCt (F : Heap) (hE : ErrT F) (l c e : Int) (bw : Nat) (x y z : Value) : Ct Tryz.prog 50 [.iface 116 (.agg ⟨[.int .i64 l, .int .i64 c, .int .i64 e]⟩), .iface 121 (.pointer (some ⟨bw, 0, none⟩))] F [[(bw, .cells ⟨[x, y, z]⟩ 116 (0, 0))]]
  (fun _ G' u => u = .bool true ∧ G' = [[(bw, .cells ⟨[.int .i64 l, .int .i64 c, .int .i64 e]⟩ 116 (0, 0))]]) := by
 intro w hw
 have hbw : w.heap[bw]? = some (.cells ⟨[x, y, z]⟩ 116 (0, 0)) := (hw.own (bw, _) (by simp)).1
 refine (asHit l c e bw x y z w (hw.cel hE) hbw).mono fun ev w' ⟨h1, h2⟩ => ?_
 subst h2
 refine ⟨_, F, _, h1, ?_, rfl, rfl⟩
 have t1 := hw.tr.alloc (.cells #[.pointer (some ⟨bw, 0, none⟩)] 121)
 have t2 := t1.alloc (.cells #[hd 121, .pointer (some ⟨w.heap.size, 0, none⟩), .int .u64 150] 154)
 have t3 := t2.alloc (.cells #[hd 121, .pointer (some ⟨w.heap.size, 0, none⟩), .int .u64 150] 154)
 have t4 := t3.alloc (.cells #[.int .i64 l, .int .i64 c, .int .i64 e] 116)
 have t6 := tr_setRow (G1 := [_, _, _, _]) (G2 := []) (row' := ⟨[.int .i64 l, .int .i64 c, .int .i64 e]⟩) t4
 exact t6.sub (by simp)
theorem asErrCt (F : Heap) (hE : ErrT F) (e : Int) (u : Value) (he : ErrV e u) (bw : Nat) : Ct Tryz.prog 50 [u, .iface 121 (.pointer (some ⟨bw, 0, none⟩))] F [[(bw, .cells ⟨[.int .i64 0, .int .i64 0, .int .i64 0]⟩ 116 (0, 0))]]
  (fun _ G' r => ∃ l c d : Int, r = .bool (decide (e ≠ 0)) ∧ G' = [[(bw, .cells ⟨[.int .i64 l, .int .i64 c, .int .i64 d]⟩ 116 (0, 0))]] ∧ (e ≠ 0 → d = e)) := by
 unfold ErrV at he
 split at he
 ·rename_i h
  subst he
  refine Ct.mono (Ct.lend (asNilCt _ _)) fun F' G' r hr => ?_
  obtain ⟨rfl, rfl⟩ := hr
  exact ⟨0, 0, 0, by rw [h]; rfl, rfl, fun h9 => absurd h h9⟩
 ·rename_i h
  obtain ⟨l, c, rfl⟩ := he
  refine Ct.mono (asHitCt F hE l c e bw _ _ _) fun F' G' r hr => ?_
  obtain ⟨rfl, rfl⟩ := hr
  exact ⟨l, c, e, by rw [decide_eq_true h], rfl, fun _ => rfl⟩
end Go.Proofs.YtgefmjghdijbfaaGreatDoor
