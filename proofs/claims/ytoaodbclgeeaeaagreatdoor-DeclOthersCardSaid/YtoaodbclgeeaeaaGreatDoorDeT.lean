/- errors.As as a contract of the steps' own kind. -/
import Derived.Test.YtoaodbclgeeaeaaGreatDoorDeR
import Derived.Test.YtoaodbclgeeaeaaGreatDoorDeQ
namespace Go.Proofs.YtoaodbclgeeaeaaGreatDoor
open Go Go.Wk Go.Un Go.De
set_option linter.unusedSimpArgs false
set_option linter.unusedVariables false

theorem asNilCt (F : Heap) (t : Value) : Ct Tryz.prog 39 [.nilIface, t] F [] (fun _ _ u => u = .bool false) := by
  intro w hw
  refine (asNil t w).mono fun e w' ⟨h1, h2⟩ => ?_
  subst h2
  exact ⟨_, F, [], h1, hw.tr, rfl⟩
/-- What the package's variable holds: the type of errors. -/
def ErrT (F : Heap) : Prop := Cel F 0 0 (.iface 141 (.agg #[hd 109]))
theorem tr_setRow {w0 W : World} {F0 F : Heap} {K0 : List Nat} {G1 G2 : List Grp} {b : Nat} {row row' : Array Value} {e : TypeId} (h : Tr w0 F0 K0 W F (G1 ++ [(b, .cells row e (0, 0))] :: G2)) : Tr w0 F0 K0 (W.setRow b row') F (G1 ++ [(b, .cells row' e (0, 0))] :: G2) := by
  have t5 := Tr.get h
  exact Tr.write h rfl rfl rfl (by simp [World.setRow]) (setRow_heap W b _ row' e _ t5) (fun k hk => setRow_other W b k _ hk)
theorem asHitCt (F : Heap) (hE : ErrT F) (l c e : Int) (bw : Nat) (x y z : Value) : Ct Tryz.prog 39 [.iface 106 (.agg ⟨[.int .i64 l, .int .i64 c, .int .i64 e]⟩), .iface 111 (.pointer (some ⟨bw, 0, none⟩))] F [[(bw, .cells ⟨[x, y, z]⟩ 106 (0, 0))]]
    (fun _ G' u => u = .bool true ∧ G' = [[(bw, .cells ⟨[.int .i64 l, .int .i64 c, .int .i64 e]⟩ 106 (0, 0))]]) := by
  intro w hw
  have hbw : w.heap[bw]? = some (.cells ⟨[x, y, z]⟩ 106 (0, 0)) := (hw.own (bw, _) (by simp)).1
  refine (asHit l c e bw x y z w (hw.cel hE) hbw).mono fun ev w' ⟨h1, h2⟩ => ?_
  subst h2
  refine ⟨_, F, _, h1, ?_, rfl, rfl⟩
  have t1 := hw.tr.alloc (.cells #[.pointer (some ⟨bw, 0, none⟩)] 111)
  have t2 := t1.alloc (.cells #[hd 111, .pointer (some ⟨w.heap.size, 0, none⟩), .int .u64 150] 120)
  have t3 := t2.alloc (.cells #[hd 111, .pointer (some ⟨w.heap.size, 0, none⟩), .int .u64 150] 120)
  have t4 := t3.alloc (.cells #[.int .i64 l, .int .i64 c, .int .i64 e] 106)
  have t6 := tr_setRow (G1 := [_, _, _, _]) (G2 := []) (row' := ⟨[.int .i64 l, .int .i64 c, .int .i64 e]⟩) t4
  exact t6.sub (by simp)
/-- errors.As behind take. -/
theorem asErrCt (F : Heap) (hE : ErrT F) (e : Int) (u : Value) (he : ErrV e u) (bw : Nat) : Ct Tryz.prog 39 [u, .iface 111 (.pointer (some ⟨bw, 0, none⟩))] F [[(bw, .cells ⟨[.int .i64 0, .int .i64 0, .int .i64 0]⟩ 106 (0, 0))]]
    (fun _ G' r => ∃ l c d : Int, r = .bool (decide (e ≠ 0)) ∧ G' = [[(bw, .cells ⟨[.int .i64 l, .int .i64 c, .int .i64 d]⟩ 106 (0, 0))]] ∧ (e ≠ 0 → d = e)) := by
  unfold ErrV at he
  split at he
  · rename_i h
    subst he
    refine Ct.mono (Ct.lend (asNilCt _ _)) fun F' G' r hr => ?_
    obtain ⟨rfl, rfl⟩ := hr
    exact ⟨0, 0, 0, by rw [h]; rfl, rfl, fun h9 => absurd h h9⟩
  · rename_i h
    obtain ⟨l, c, rfl⟩ := he
    refine Ct.mono (asHitCt F hE l c e bw _ _ _) fun F' G' r hr => ?_
    obtain ⟨rfl, rfl⟩ := hr
    exact ⟨l, c, e, by rw [decide_eq_true h], rfl, fun _ => rfl⟩
end Go.Proofs.YtoaodbclgeeaeaaGreatDoor
