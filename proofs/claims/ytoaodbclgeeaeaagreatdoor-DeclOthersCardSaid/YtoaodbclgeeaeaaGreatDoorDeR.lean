/- errors.As at a target of the type decl.wrong: nil is none; a wrong is handed on. (After the kit's worked example of errors.As.) -/
import Derived.Test.YtoaodbclgeeaeaaGreatDoorWk14
import Derived.Test.YtoaodbclgeeaeaaGreatDoorTy
import Derived.WalkKit
import Derived.LaidEql
import Derived.Stop.Asserts
import Derived.RowKitTokens
namespace Go.Proofs.YtoaodbclgeeaeaaGreatDoor
open Go Go.Wk Go.RowKit Go.Extern.Stop Go.Stop Go.Extern
set_option linter.unusedSimpArgs false
set_option linter.unusedVariables false

theorem asNil (t : Value) (w : World) : Calls Tryz.prog 39 #[.nilIface, t] w fun e w' => e = .returned (.bool false) ∧ w' = w := by
  go_enter Tryz.func39, Tryz.ntmps39
  go_wp2
  go_ret
  exact ⟨rfl, rfl⟩
abbrev hd (t : Nat) : Value := .pointer (some ⟨4, t, none⟩)
theorem valueOfP (t : Addr) (w : World) : (ReflectliteValue.unpack (.iface 111 (.pointer (some t)))).run Tryz.prog w
    = .ok (.agg #[hd 111, .pointer (some ⟨w.heap.size, 0, none⟩), .int .u64 150]) (w.alloc (.cells #[.pointer (some t)] 111)) := by kernel_rfl
theorem typeP (a : Addr) (w : World) : (ReflectliteValue.methodAny (ReflectliteValue.valueError "reflectlite.Value.Type" 0) (fun t _ _ _ => ReflectliteType.toType t) #[.agg #[hd 111, .pointer (some a), .int .u64 150]]).run Tryz.prog w
    = .ok (.iface 141 (.agg #[hd 111])) w := by kernel_rfl
theorem mKind (h : Value) (w : World) : (Go.method 323 141 (.agg #[h]) "Kind").run Tryz.prog w = .ok (135, h) w := by kernel_rfl
theorem kindP (w : World) : ((ReflectliteType.abiMethod fun t => (fun a : Nat => Value.int IntKind.u8 (a : Int)) <$> Rtype.kind t) #[hd 111]).run Tryz.prog w = .ok (.int .u8 22) w := by kernel_rfl
theorem kindS (w : World) : ((ReflectliteType.abiMethod fun t => (fun a : Nat => Value.int IntKind.u8 (a : Int)) <$> Rtype.kind t) #[hd 106]).run Tryz.prog w = .ok (.int .u8 25) w := by kernel_rfl
theorem rlm (z : Sem Value) (f : TypeId → Addr → Nat → Nat → Sem Value) (v : Value) :
    ReflectliteValue.method z f #[v] = (do match ← ReflectliteValue.parts v with | none => z | some (t, a, fl) => f t a fl (fl % 32)) := rfl
theorem partsP (a : Addr) (w : World) : (ReflectliteValue.parts (.agg #[hd 111, .pointer (some a), .int .u64 150])).run Tryz.prog w = .ok (some (111, a, 150)) w := by kernel_rfl
theorem isNilP (a p : Addr) (W : World) (ha : W.cell? a = some (.pointer (some p))) :
    (ReflectliteValue.method (ReflectliteValue.valueError "reflectlite.Value.IsNil" 0) ReflectliteValue.isNil #[.agg #[hd 111, .pointer (some a), .int .u64 150]]).run Tryz.prog W = .ok (.bool false) W := by
  rw [rlm]
  simp only [Sem.run_bind, partsP, Result.andThen]
  simp [ReflectliteValue.isNil, loadVar, isAgg, underlying, Tryz.underlying111, ha, Result.andThen]
theorem mElem (h : Value) (w : World) : (Go.method 323 141 (.agg #[h]) "Elem").run Tryz.prog w = .ok (146, .agg #[h]) w := by kernel_rfl
theorem mImplements (h : Value) (w : World) : (Go.method 323 141 (.agg #[h]) "Implements").run Tryz.prog w = .ok (147, .agg #[h]) w := by kernel_rfl
theorem mAssignableTo (h : Value) (w : World) : (Go.method 323 141 (.agg #[h]) "AssignableTo").run Tryz.prog w = .ok (144, .agg #[h]) w := by kernel_rfl
theorem elemP (w : World) : (ReflectliteType.method ReflectliteType.elem #[.agg #[hd 111]]).run Tryz.prog w = .ok (.iface 141 (.agg #[hd 106])) w := by kernel_rfl
theorem implementsS (w : World) : (ReflectliteType.relation "Implements" ReflectliteType.implements_ #[.agg #[hd 106], .iface 141 (.agg #[hd 109])]).run Tryz.prog w = .ok (.bool true) w := by kernel_rfl
theorem typeOfS (v : Value) (w : World) : (ReflectliteType.typeOf #[.iface 106 v]).run Tryz.prog w = .ok (.iface 141 (.agg #[hd 106])) w := by kernel_rfl
theorem assignableS (w : World) : (ReflectliteType.relation "AssignableTo" ReflectliteType.assignableTo #[.agg #[hd 106], .iface 141 (.agg #[hd 106])]).run Tryz.prog w = .ok (.bool true) w := by kernel_rfl
theorem valueOfS (l c e : Int) (w : World) : (ReflectliteValue.unpack (.iface 106 (.agg #[.int .i64 l, .int .i64 c, .int .i64 e]))).run Tryz.prog w
    = .ok (.agg #[hd 106, .pointer (some ⟨w.heap.size, 0, none⟩), .int .u64 153]) (w.alloc (.cells #[.int .i64 l, .int .i64 c, .int .i64 e] 106)) := by kernel_rfl
theorem elemOfP (w : World) : (Rtype.elem? 111).run Tryz.prog w = .ok (some 106) w := by kernel_rfl
theorem mkS (p : Addr) (w : World) : (ReflectliteValue.mk 106 p ReflectliteValue.flagAddr).run Tryz.prog w = .ok (.agg #[hd 106, .pointer (some p), .int .u64 409]) w := by kernel_rfl
theorem elemV (a p : Addr) (W : World) (ha : W.cell? a = some (.pointer (some p))) :
    (ReflectliteValue.method (ReflectliteValue.valueError "reflectlite.Value.Elem" 0) ReflectliteValue.elem #[.agg #[hd 111, .pointer (some a), .int .u64 150]]).run Tryz.prog W
      = .ok (.agg #[hd 106, .pointer (some p), .int .u64 409]) W := by
  rw [rlm]
  simp only [Sem.run_bind, partsP, Result.andThen]
  simp [ReflectliteValue.elem, loadVar, isAgg, underlying, Tryz.underlying111, ha, Result.andThen, elemOfP, mkS]
theorem rls (v x : Value) : ReflectliteValue.set #[v, x] = (do
    let (some (dst, a, fl), some (src, b, _)) := (← ReflectliteValue.parts v, ← ReflectliteValue.parts x)
      | unsupported (.noEntry "extern/(internal/reflectlite.Value).Set.zeroValue")
    if fl / ReflectliteValue.flagAddr % 2 == 0 then unsupported (.noEntry "extern/(internal/reflectlite.Value).Set.unaddressable")
    let val ← loadVar src b
    if ← Rtype.directlyAssignable dst src then storeVar dst a val
    else if ← Rtype.implements dst src then
      if (← Rtype.kind src) == 20 then
        match val with
        | .nilIface => unsupported (.noEntry "extern/reflectlite: a nil value of one interface type handed on as a value of another")
        | _ => storeVar dst a val
      else storeVar dst a (.iface src val)
    else panicString ("reflectlite.Set: value of type " ++ (← Rtype.spelt src) ++ " is not assignable to type " ++ (← Rtype.spelt dst))
    pure (.tuple #[])) := rfl
theorem partsSa (a : Addr) (w : World) : (ReflectliteValue.parts (.agg #[hd 106, .pointer (some a), .int .u64 409])).run Tryz.prog w = .ok (some (106, a, 409)) w := by kernel_rfl
theorem partsS (a : Addr) (w : World) : (ReflectliteValue.parts (.agg #[hd 106, .pointer (some a), .int .u64 153])).run Tryz.prog w = .ok (some (106, a, 153)) w := by kernel_rfl
theorem directS (w : World) : (Rtype.directlyAssignable 106 106).run Tryz.prog w = .ok true w := by kernel_rfl
theorem sizeS (w : World) : (sizeOf 106).run Tryz.prog w = .ok 3 w := by kernel_rfl
theorem isAggS (w : World) : (isAgg 106).run Tryz.prog w = .ok true w := by kernel_rfl
/-- (Value).Set: the wrong at 'bw' gets what the Value's own variable at 'b' holds. -/
theorem setS (bw b : Nat) (l c e : Int) (x y z : Value) (W : World) (hb : ∀ j u, [Value.int .i64 l, .int .i64 c, .int .i64 e][j]? = some u → W.cell? ⟨b, j, none⟩ = some u) (ht : W.heap[bw]? = some (.cells ⟨[x, y, z]⟩ 106 (0, 0))) :
    (ReflectliteValue.set #[.agg #[hd 106, .pointer (some ⟨bw, 0, none⟩), .int .u64 409], .agg #[hd 106, .pointer (some ⟨b, 0, none⟩), .int .u64 153]]).run Tryz.prog W
      = .ok (.tuple #[]) (W.setRow bw ⟨[.int .i64 l, .int .i64 c, .int .i64 e]⟩) := by
  rw [rls]
  simp only [Sem.run_bind, partsSa, partsS, Result.andThen]
  have h1 : (loadVar 106 ⟨b, 0, none⟩).run Tryz.prog W = .ok (.agg ⟨[.int .i64 l, .int .i64 c, .int .i64 e]⟩) W := by
    have h0 := hb 0 _ rfl
    have h1 := hb 1 _ rfl
    have h2 := hb 2 _ rfl
    simp [loadVar, isAggS, sizeS, loadCells, loadCellsFrom, Addr.add, h0, h1, h2, Result.andThen]
  have h2 := run_storeCells_at Tryz.prog bw 0 106 [Value.int .i64 l, .int .i64 c, .int .i64 e] 0 ⟨[x, y, z]⟩ W ht (by simp) (fun u hu => by
    rcases List.mem_cons.1 hu with rfl | hu
    · rfl
    rcases List.mem_cons.1 hu with rfl | hu
    · rfl
    rw [List.mem_singleton] at hu; subst hu; rfl)
  have h3 : (storeCells ⟨bw, 0, none⟩ [Value.int .i64 l, Value.int .i64 c, Value.int .i64 e]).run Tryz.prog W = .ok () (W.setRow bw ⟨[.int .i64 l, .int .i64 c, .int .i64 e]⟩) := by simpa using h2
  simp [ReflectliteValue.flagAddr, h1, Result.andThen, directS, storeVar, Value.cells, sizeS, h3]
/-- What lies there behind errors.As. -/
def asWorld (w : World) (bw : Nat) (l c e : Int) : World := ((((w.alloc (.cells #[.pointer (some ⟨bw, 0, none⟩)] 111)).alloc (.cells #[hd 111, .pointer (some ⟨w.heap.size, 0, none⟩), .int .u64 150] 120)).alloc (.cells #[hd 111, .pointer (some ⟨w.heap.size, 0, none⟩), .int .u64 150] 120)).alloc (.cells #[.int .i64 l, .int .i64 c, .int .i64 e] 106)).setRow bw ⟨[.int .i64 l, .int .i64 c, .int .i64 e]⟩
set_option maxHeartbeats 8000000 in
theorem asHit (l c e : Int) (bw : Nat) (x y z : Value) (w : World) (hg : w.cell? ⟨0, 0, none⟩ = some (.iface 141 (.agg #[hd 109]))) (ht : w.heap[bw]? = some (.cells ⟨[x, y, z]⟩ 106 (0, 0))) :
    Calls Tryz.prog 39 #[.iface 106 (.agg #[.int .i64 l, .int .i64 c, .int .i64 e]), .iface 111 (.pointer (some ⟨bw, 0, none⟩))] w fun ev w' => ev = .returned (.bool true) ∧ w' = asWorld w bw l c e := by
  have h6 := @run_callFunc_extern Tryz.prog 48 _ (fun args => ReflectliteValue.unpack (args.getD 0 (.tuple #[]))) Tryz.func48 (by kernel_rfl) (by kernel_rfl) (by kernel_rfl) (by kernel_rfl)
  have h7 := @run_callFunc_extern Tryz.prog 49 _ (ReflectliteValue.methodAny (ReflectliteValue.valueError "reflectlite.Value.Type" 0) (fun t _ _ _ => ReflectliteType.toType t)) Tryz.func49 (by kernel_rfl) (by kernel_rfl) (by kernel_rfl) (by kernel_rfl)
  have h8 := @run_callFunc_extern Tryz.prog 50 _ (ReflectliteValue.method (ReflectliteValue.valueError "reflectlite.Value.IsNil" 0) ReflectliteValue.isNil) Tryz.func50 (by kernel_rfl) (by kernel_rfl) (by kernel_rfl) (by kernel_rfl)
  have h27 := @run_callFunc_extern Tryz.prog 135 _ (ReflectliteType.abiMethod fun t => do pure (.int .u8 (← Rtype.kind t))) Tryz.func135 (by kernel_rfl) (by kernel_rfl) (by kernel_rfl) (by kernel_rfl)
  have h37 := @run_callFunc_extern Tryz.prog 146 _ (ReflectliteType.method ReflectliteType.elem) Tryz.func146 (by kernel_rfl) (by kernel_rfl) (by kernel_rfl) (by kernel_rfl)
  have h38 := @run_callFunc_extern Tryz.prog 147 _ (ReflectliteType.relation "Implements" ReflectliteType.implements_) Tryz.func147 (by kernel_rfl) (by kernel_rfl) (by kernel_rfl) (by kernel_rfl)
  have h10 := @run_callFunc_extern Tryz.prog 72 _ ReflectliteType.typeOf Tryz.func72 (by kernel_rfl) (by kernel_rfl) (by kernel_rfl) (by kernel_rfl)
  have h35 := @run_callFunc_extern Tryz.prog 144 _ (ReflectliteType.relation "AssignableTo" ReflectliteType.assignableTo) Tryz.func144 (by kernel_rfl) (by kernel_rfl) (by kernel_rfl) (by kernel_rfl)
  have h11 := @run_callFunc_extern Tryz.prog 73 _ (ReflectliteValue.method (ReflectliteValue.valueError "reflectlite.Value.Elem" 0) ReflectliteValue.elem) Tryz.func73 (by kernel_rfl) (by kernel_rfl) (by kernel_rfl) (by kernel_rfl)
  have h12 := @run_callFunc_extern Tryz.prog 74 _ ReflectliteValue.set Tryz.func74 (by kernel_rfl) (by kernel_rfl) (by kernel_rfl) (by kernel_rfl)
  have tO := typeOfS
  have mA := mAssignableTo
  have aS := assignableS
  have vS := valueOfS
  have f6 := valueOfP
  have f7 := typeP
  have mK := mKind
  have mE := mElem
  have mI := mImplements
  have kP := kindP
  have kS := kindS
  have eP := elemP
  have iS := implementsS
  have hlt : bw < w.heap.size := by
    rcases Nat.lt_or_ge bw w.heap.size with h | h
    · exact h
    · rw [Array.getElem?_eq_none h] at ht; cases ht
  have hgl : 0 < w.heap.size := by
    rcases Nat.lt_or_ge 0 w.heap.size with h | h
    · exact h
    · simp [World.cell?, Array.getElem?_eq_none h] at hg
  have n8 := isNilP ⟨w.heap.size, 0, none⟩ ⟨bw, 0, none⟩ ((w.alloc (.cells #[.pointer (some ⟨bw, 0, none⟩)] 111)).alloc (.cells #[hd 111, .pointer (some ⟨w.heap.size, 0, none⟩), .int .u64 150] 120)) (by simp)
  have hg2 : ((w.alloc (.cells #[.pointer (some ⟨bw, 0, none⟩)] 111)).alloc (.cells #[hd 111, .pointer (some ⟨w.heap.size, 0, none⟩), .int .u64 150] 120)).cell? ⟨0, 0, none⟩ = some (.iface 141 (.agg #[hd 109])) := by
    rw [World.cell?_alloc_lt _ _ ⟨0, 0, none⟩ (by simp), World.cell?_alloc_lt _ _ ⟨0, 0, none⟩ hgl]; exact hg
  have el := elemV ⟨w.heap.size, 0, none⟩ ⟨bw, 0, none⟩ (((w.alloc (.cells #[.pointer (some ⟨bw, 0, none⟩)] 111)).alloc (.cells #[hd 111, .pointer (some ⟨w.heap.size, 0, none⟩), .int .u64 150] 120)).alloc (.cells #[hd 111, .pointer (some ⟨w.heap.size, 0, none⟩), .int .u64 150] 120)) (by rw [World.cell?_alloc_lt _ _ ⟨w.heap.size, 0, none⟩ (by simp; omega)]; simp)
  have st := setS bw (w.heap.size + 1 + 1 + 1) l c e x y z ((((w.alloc (.cells #[.pointer (some ⟨bw, 0, none⟩)] 111)).alloc (.cells #[hd 111, .pointer (some ⟨w.heap.size, 0, none⟩), .int .u64 150] 120)).alloc (.cells #[hd 111, .pointer (some ⟨w.heap.size, 0, none⟩), .int .u64 150] 120)).alloc (.cells #[.int .i64 l, .int .i64 c, .int .i64 e] 106))
    (fun j u hj => by
      rw [World.cell?_alloc_at _ _ _ _ (by simp)]
      rcases j with - | j
      · cases hj; rfl
      rcases j with - | j
      · cases hj; rfl
      rcases j with - | j
      · cases hj; rfl
      · simp at hj)
    (by
      have e1 : ∀ (v : World) (o : Obj), bw < v.heap.size → (v.alloc o).heap[bw]? = v.heap[bw]? := fun v o hv => by
        rw [show (v.alloc o).heap = v.heap.push o from rfl, Array.getElem?_push_lt hv, Array.getElem?_eq_getElem hv]
      rw [e1 _ _ (by simp; omega), e1 _ _ (by simp; omega), e1 _ _ (by simp; omega), e1 _ _ hlt]
      exact ht)
  go_enter Tryz.func39, Tryz.ntmps39
  go_wp2
  refine wp_loop_rounds 1 ?_
  rw [rounds_succ]
  go_wp2
  go_ret
  exact ⟨rfl, rfl⟩
end Go.Proofs.YtoaodbclgeeaeaaGreatDoor
