/- What all walks over types share: the k-th of them in memory. -/
import Derived.Test.YtoaodbclgeeaeaaGreatDoorUn
import Derived.Test.YtoaodbclgeeaeaaGreatDoorTy
namespace Go.Proofs.YtoaodbclgeeaeaaGreatDoor
open Go Go.Wk Go.Un
set_option linter.unusedSimpArgs false
set_option linter.unusedVariables false
attribute [local irreducible] Go.wpList Go.Code.wp Go.wpStill Go.Wk.wpPre Go.bodyPost Go.Calls Go.Wk.Ct Go.Wk.OwnS
attribute [local irreducible] Go.Wk.wpG Go.Wk.wpM

theorem mixed : Tryz.prog.follows .mixedOrders = true := by kernel_rfl
theorem FoM.pos {F : Heap} {ao : Option Addr} {l : Fo} {k : Nat} (hpos : 0 < l.len → ∃ b o, ao = some ⟨b, o, none⟩ ∧ FoM F l b o) (hk : k < l.len) : ∃ b o, ao = some ⟨b, o, none⟩ ∧ ∃ x v, l.get? k = some x ∧ Cels F b (o + k * 2) [.string (bs x.1), v] ∧ SlF F v x.2 := by
  obtain ⟨b, o, e, h⟩ := hpos (by omega)
  obtain ⟨x, hx⟩ := Fo.get_lt hk
  obtain ⟨cs, h1, h2, v, rfl, h3⟩ := h.at hx
  exact ⟨b, o, e, x, v, hx, h1, h3⟩
theorem get_eq : ∀ {l m : Fo}, l.len = m.len → (∀ k x y, l.get? k = some x → m.get? k = some y → x = y) → l = m
  | .nil, .nil, _, _ => rfl
  | .nil, .cons _ _ _, h, _ => by simp [Fo.len] at h
  | .cons _ _ _, .nil, h, _ => by simp [Fo.len] at h
  | .cons nm ar r, .cons nm2 ar2 r2, h, hk => by
    have h0 := hk 0 _ _ rfl rfl
    have := get_eq (l := r) (m := r2) (by simpa [Fo.len] using h) fun k x y hx hy => hk (k + 1) x y hx hy
    cases h0; rw [this]
end Go.Proofs.YtoaodbclgeeaeaaGreatDoor
