/- The walk of EvalPaper. -/
import Derived.Test.YtigblodhdfnleaaGreatDoorFa
namespace Go.Proofs.YtigblodhdfnleaaGreatDoor
open Go Go.Wk Go.Un Go.De Go.Num
set_option linter.unusedSimpArgs false
set_option linter.unusedVariables false
attribute [local irreducible] Go.wpList Go.Code.wp Go.wpStill Go.Wk.wpPre Go.bodyPost Go.Calls Go.Wk.Ct Go.Wk.OwnS
attribute [local irreducible] Go.Wk.wpG Go.Wk.wpM

/-- A slice of expressions, in one cell. -/
def SxR (F : Heap) (x : Ef) (cs : List Value) : Prop := ∃ v, cs = [v] ∧ TrS F 9 EhR v x
instance : Mon SxR := ⟨fun hF ⟨v, h1, h2⟩ => ⟨v, h1, h2.mono hF⟩⟩
def pairF (r : Ex × Ex) : Ef := .cons r.1.1 r.1.2 (.cons r.2.1 r.2.2 .nil)
theorem trs_at {F : Heap} {ao : Option Addr} {n cap : Nat} {l : Ef} {k : Nat} {x : Ex} (h : TrS F 9 EhR (.slice ao n cap) l) (hx : l.get? k = some x) : ∃ b o cs, ao = some ⟨b, o, none⟩ ∧ Cels F b (o + k * 9) cs ∧ ReR F x cs := by
  have hk : k < l.len := Rose.lt_get hx
  obtain ⟨a, c, e, h2, hpos⟩ := h
  cases e
  obtain ⟨b, o, e, y, cs, v, hy, hc, hR, hT⟩ := TrM.pos hpos hk
  rw [hx] at hy
  cases hy
  obtain ⟨w, rfl, hw⟩ := hR
  exact ⟨b, o, _, e, hc, [_, _, _, _, _, _, _, _], v, rfl, rfl, ⟨w, rfl, hw⟩, hT⟩
theorem pair_at {F : Heap} {v : Value} {r : Ex × Ex} (h : TrS F 9 EhR v (pairF r)) : ∃ b o cap cs cs2, v = .slice (some ⟨b, o, none⟩) 2 cap ∧ Cels F b (o + 0 * 9) cs ∧ ReR F r.1 cs ∧ Cels F b (o + 1 * 9) cs2 ∧ ReR F r.2 cs2 := by
  have h9 := h
  obtain ⟨ao, cap, rfl, -, -⟩ := h9
  obtain ⟨b, o, cs, rfl, h1, h2⟩ := trs_at (k := 0) h rfl
  obtain ⟨b2, o2, cs2, e, h3, h4⟩ := trs_at (k := 1) h rfl
  cases e
  exact ⟨b, o, cap, cs, cs2, rfl, h1, h2, h3, h4⟩
abbrev exl (x : Ex) (c1 : Option Addr) (n1 d1 : Nat) (c2 : Option Addr) (d2 : Nat) : List Value := [.int .u8 (x.1.k : Int), .int .i64 x.1.l, .int .i64 x.1.c, .string (bs x.1.nm), .int .u8 (x.1.v.k : Int), .int .i64 x.1.v.n, .string (bs x.1.v.s), .slice c1 n1 d1, .slice c2 x.2.len d2]
def opsL : List (List UInt8) := [[43], [45], [42], [47], [37]]
section
variable {ops : Array Oper} {n : Sz} {w0 : World} {F0 F1 : Heap} {K0 : List Nat} {L0 : List (Nat × Value)} {dl : List Nat} {pl : List PM} {i : Nat} {o : Oper} {d : Nat}
/-- A call's expression of what a slice holds. -/
theorem dy_call {X c : Operand} {ts : Array TypeId} {s : List UInt8} {Le : Ef} (j : Nat) (hi : ops[i]? = some o := by rfl) (hg : o.guard = none := by rfl) (hd : o.dst = some d := by rfl) (hn : Nat.blt d n.sz = true := by rfl)
    (ho : o.op = .call { callee := .value X, args := #[c, .tmp (dl.getD j 0)], argTypes := ts } := by rfl) (h1 : (o.after.toList.any fun e => Nat.beq e.on j && Region.binds .any e) = true := by rfl) (f1 : pl.getD j default = pTrs 9 EhR Le := by rfl) (hp : pl.getD i default = pRec 9 ReR (callH s, Le) := by rfl)
    (hx : ∀ L, ev L X = some (.func (.func 7) ⟨[]⟩ ⟨[]⟩) := by exact fun _ => rfl) (hc : ∀ L, ev L c = some (.string (bs s)) := by exact fun _ => rfl) (hd2 : dl.getD i 0 = d := by rfl) : Duty Tryz.prog ops n w0 F0 K0 L0 F1 dl pl i o := by
  intro L F a w hF hL S hdep
  obtain ⟨v, e, p⟩ := depF_at hdep h1
  rw [f1] at p
  refine stepM_of hi ?_
  refine wpl_callF S hg hd hn ho (hx L) (vs := [.string (bs s), v]) (by simp only [evs, hc, show ev L (.tmp (dl.getD j 0)) = some v from e]) (lcallCt F s Le v p) rfl fun u F' a' w' hu hle S => ?_
  refine wpList_nil ⟨u, F', hle, S.keep ⟨by rw [hd2]; exact look_top, trivial⟩, ?_⟩
  rw [hp]
  exact hu
end
def epD : List Nat := [166, 167, 168, 169, 170, 171, 172, 173, 174, 175, 176, 177, 178, 179, 180, 181, 182, 183, 184, 185, 186, 187, 188, 189, 190, 191, 192, 193, 194, 195, 196, 197, 198, 199, 200, 201, 202, 203, 204, 205, 206, 207, 208, 209, 210, 211, 212, 213, 214, 215, 216, 217, 218, 219, 220, 221, 222, 223, 224, 225, 226, 227, 228, 229, 230, 231, 232, 233, 234, 235, 236, 237, 238, 239, 240, 241, 242, 243, 244, 245, 246, 247, 248, 249, 250, 251, 252, 253, 254, 255, 256, 257, 258, 259, 260, 261, 262, 263, 264, 265, 266, 267, 268, 269, 270, 271, 272, 273, 274, 275, 276, 277, 278, 279, 280, 281, 282, 283, 284, 285, 286, 287, 288, 289, 290, 291, 292, 293, 294, 295, 296, 297, 298, 299, 300, 301, 302, 303, 304, 305, 306, 307, 308, 309, 310, 311, 312, 313, 314, 315, 316, 317, 318, 319]
def epP (i1 : Int) (i2 : Int) (i3 : Int) (s : List UInt8) (t : List UInt8) (vp : Bool) (vq : Bool) : List PM := [pRec 9 (RoR 9 EhR) (litX (intV i1)),
pRec 9 (RoR 9 EhR) (litX (intV i2)),
pTrs 9 EhR (.cons (litX (intV i1)).1 (litX (intV i1)).2 (.cons (litX (intV i2)).1 (litX (intV i2)).2 .nil)),
pRec 9 (RoR 9 EhR) (callX2 [43] (litX (intV i1)) (litX (intV i2))),
pRec 9 (RoR 9 EhR) (litX (intV i2)),
pRec 9 (RoR 9 EhR) (litX (intV i1)),
pTrs 9 EhR (.cons (litX (intV i2)).1 (litX (intV i2)).2 (.cons (litX (intV i1)).1 (litX (intV i1)).2 .nil)),
pRec 9 (RoR 9 EhR) (callX2 [43] (litX (intV i2)) (litX (intV i1))),
pTrs 9 EhR (.cons (callX2 [43] (litX (intV i1)) (litX (intV i2))).1 (callX2 [43] (litX (intV i1)) (litX (intV i2))).2 (.cons (callX2 [43] (litX (intV i2)) (litX (intV i1))).1 (callX2 [43] (litX (intV i2)) (litX (intV i1))).2 .nil)),
pRec 9 (RoR 9 EhR) (litX (intV i1)),
pRec 9 (RoR 9 EhR) (litX (intV i2)),
pTrs 9 EhR (.cons (litX (intV i1)).1 (litX (intV i1)).2 (.cons (litX (intV i2)).1 (litX (intV i2)).2 .nil)),
pRec 9 (RoR 9 EhR) (callX2 [42] (litX (intV i1)) (litX (intV i2))),
pRec 9 (RoR 9 EhR) (litX (intV i2)),
pRec 9 (RoR 9 EhR) (litX (intV i1)),
pTrs 9 EhR (.cons (litX (intV i2)).1 (litX (intV i2)).2 (.cons (litX (intV i1)).1 (litX (intV i1)).2 .nil)),
pRec 9 (RoR 9 EhR) (callX2 [42] (litX (intV i2)) (litX (intV i1))),
pTrs 9 EhR (.cons (callX2 [42] (litX (intV i1)) (litX (intV i2))).1 (callX2 [42] (litX (intV i1)) (litX (intV i2))).2 (.cons (callX2 [42] (litX (intV i2)) (litX (intV i1))).1 (callX2 [42] (litX (intV i2)) (litX (intV i1))).2 .nil)),
pRec 9 (RoR 9 EhR) (litX (intV i1)),
pRec 9 (RoR 9 EhR) (litX (intV i2)),
pRec 9 (RoR 9 EhR) (litX (intV i3)),
pTrs 9 EhR (.cons (litX (intV i2)).1 (litX (intV i2)).2 (.cons (litX (intV i3)).1 (litX (intV i3)).2 .nil)),
pRec 9 (RoR 9 EhR) (callX2 [43] (litX (intV i2)) (litX (intV i3))),
pTrs 9 EhR (.cons (litX (intV i1)).1 (litX (intV i1)).2 (.cons (callX2 [43] (litX (intV i2)) (litX (intV i3))).1 (callX2 [43] (litX (intV i2)) (litX (intV i3))).2 .nil)),
pRec 9 (RoR 9 EhR) (callX2 [42] (litX (intV i1)) (callX2 [43] (litX (intV i2)) (litX (intV i3)))),
pRec 9 (RoR 9 EhR) (litX (intV i1)),
pRec 9 (RoR 9 EhR) (litX (intV i2)),
pTrs 9 EhR (.cons (litX (intV i1)).1 (litX (intV i1)).2 (.cons (litX (intV i2)).1 (litX (intV i2)).2 .nil)),
pRec 9 (RoR 9 EhR) (callX2 [42] (litX (intV i1)) (litX (intV i2))),
pRec 9 (RoR 9 EhR) (litX (intV i1)),
pRec 9 (RoR 9 EhR) (litX (intV i3)),
pTrs 9 EhR (.cons (litX (intV i1)).1 (litX (intV i1)).2 (.cons (litX (intV i3)).1 (litX (intV i3)).2 .nil)),
pRec 9 (RoR 9 EhR) (callX2 [42] (litX (intV i1)) (litX (intV i3))),
pTrs 9 EhR (.cons (callX2 [42] (litX (intV i1)) (litX (intV i2))).1 (callX2 [42] (litX (intV i1)) (litX (intV i2))).2 (.cons (callX2 [42] (litX (intV i1)) (litX (intV i3))).1 (callX2 [42] (litX (intV i1)) (litX (intV i3))).2 .nil)),
pRec 9 (RoR 9 EhR) (callX2 [43] (callX2 [42] (litX (intV i1)) (litX (intV i2))) (callX2 [42] (litX (intV i1)) (litX (intV i3)))),
pTrs 9 EhR (.cons (callX2 [42] (litX (intV i1)) (callX2 [43] (litX (intV i2)) (litX (intV i3)))).1 (callX2 [42] (litX (intV i1)) (callX2 [43] (litX (intV i2)) (litX (intV i3)))).2 (.cons (callX2 [43] (callX2 [42] (litX (intV i1)) (litX (intV i2))) (callX2 [42] (litX (intV i1)) (litX (intV i3)))).1 (callX2 [43] (callX2 [42] (litX (intV i1)) (litX (intV i2))) (callX2 [42] (litX (intV i1)) (litX (intV i3)))).2 .nil)),
pRec 9 (RoR 9 EhR) (litX (intV i1)),
pRec 9 (RoR 9 EhR) (litX (intV i2)),
pTrs 9 EhR (.cons (litX (intV i1)).1 (litX (intV i1)).2 (.cons (litX (intV i2)).1 (litX (intV i2)).2 .nil)),
pRec 9 (RoR 9 EhR) (callX2 [45] (litX (intV i1)) (litX (intV i2))),
pRec 9 (RoR 9 EhR) (litX (intV i2)),
pRec 9 (RoR 9 EhR) (litX (intV i1)),
pTrs 9 EhR (.cons (litX (intV i2)).1 (litX (intV i2)).2 (.cons (litX (intV i1)).1 (litX (intV i1)).2 .nil)),
pRec 9 (RoR 9 EhR) (callX2 [45] (litX (intV i2)) (litX (intV i1))),
pTrs 9 EhR (.cons (callX2 [45] (litX (intV i2)) (litX (intV i1))).1 (callX2 [45] (litX (intV i2)) (litX (intV i1))).2 .nil),
pRec 9 (RoR 9 EhR) (callX1 [110, 101, 103] (callX2 [45] (litX (intV i2)) (litX (intV i1)))),
pTrs 9 EhR (.cons (callX2 [45] (litX (intV i1)) (litX (intV i2))).1 (callX2 [45] (litX (intV i1)) (litX (intV i2))).2 (.cons (callX1 [110, 101, 103] (callX2 [45] (litX (intV i2)) (litX (intV i1)))).1 (callX1 [110, 101, 103] (callX2 [45] (litX (intV i2)) (litX (intV i1)))).2 .nil)),
pRec 9 (RoR 9 EhR) (litX (intV i1)),
pRec 9 (RoR 9 EhR) (litX (intV i2)),
pTrs 9 EhR (.cons (litX (intV i1)).1 (litX (intV i1)).2 (.cons (litX (intV i2)).1 (litX (intV i2)).2 .nil)),
pRec 9 (RoR 9 EhR) (callX2 [47] (litX (intV i1)) (litX (intV i2))),
pRec 9 (RoR 9 EhR) (litX (intV i2)),
pTrs 9 EhR (.cons (callX2 [47] (litX (intV i1)) (litX (intV i2))).1 (callX2 [47] (litX (intV i1)) (litX (intV i2))).2 (.cons (litX (intV i2)).1 (litX (intV i2)).2 .nil)),
pRec 9 (RoR 9 EhR) (callX2 [42] (callX2 [47] (litX (intV i1)) (litX (intV i2))) (litX (intV i2))),
pRec 9 (RoR 9 EhR) (litX (intV i1)),
pRec 9 (RoR 9 EhR) (litX (intV i2)),
pTrs 9 EhR (.cons (litX (intV i1)).1 (litX (intV i1)).2 (.cons (litX (intV i2)).1 (litX (intV i2)).2 .nil)),
pRec 9 (RoR 9 EhR) (callX2 [37] (litX (intV i1)) (litX (intV i2))),
pTrs 9 EhR (.cons (callX2 [42] (callX2 [47] (litX (intV i1)) (litX (intV i2))) (litX (intV i2))).1 (callX2 [42] (callX2 [47] (litX (intV i1)) (litX (intV i2))) (litX (intV i2))).2 (.cons (callX2 [37] (litX (intV i1)) (litX (intV i2))).1 (callX2 [37] (litX (intV i1)) (litX (intV i2))).2 .nil)),
pRec 9 (RoR 9 EhR) (callX2 [43] (callX2 [42] (callX2 [47] (litX (intV i1)) (litX (intV i2))) (litX (intV i2))) (callX2 [37] (litX (intV i1)) (litX (intV i2)))),
pRec 9 (RoR 9 EhR) (litX (intV i1)),
pTrs 9 EhR (.cons (callX2 [43] (callX2 [42] (callX2 [47] (litX (intV i1)) (litX (intV i2))) (litX (intV i2))) (callX2 [37] (litX (intV i1)) (litX (intV i2)))).1 (callX2 [43] (callX2 [42] (callX2 [47] (litX (intV i1)) (litX (intV i2))) (litX (intV i2))) (callX2 [37] (litX (intV i1)) (litX (intV i2)))).2 (.cons (litX (intV i1)).1 (litX (intV i1)).2 .nil)),
pRec 9 (RoR 9 EhR) (litX (boolV vp)),
pRec 9 (RoR 9 EhR) (litX (boolV vq)),
pTrs 9 EhR (.cons (litX (boolV vp)).1 (litX (boolV vp)).2 (.cons (litX (boolV vq)).1 (litX (boolV vq)).2 .nil)),
pRec 9 (RoR 9 EhR) (callX2 [97, 110, 100] (litX (boolV vp)) (litX (boolV vq))),
pTrs 9 EhR (.cons (callX2 [97, 110, 100] (litX (boolV vp)) (litX (boolV vq))).1 (callX2 [97, 110, 100] (litX (boolV vp)) (litX (boolV vq))).2 .nil),
pRec 9 (RoR 9 EhR) (callX1 [110, 111, 116] (callX2 [97, 110, 100] (litX (boolV vp)) (litX (boolV vq)))),
pRec 9 (RoR 9 EhR) (litX (boolV vp)),
pTrs 9 EhR (.cons (litX (boolV vp)).1 (litX (boolV vp)).2 .nil),
pRec 9 (RoR 9 EhR) (callX1 [110, 111, 116] (litX (boolV vp))),
pRec 9 (RoR 9 EhR) (litX (boolV vq)),
pTrs 9 EhR (.cons (litX (boolV vq)).1 (litX (boolV vq)).2 .nil),
pRec 9 (RoR 9 EhR) (callX1 [110, 111, 116] (litX (boolV vq))),
pTrs 9 EhR (.cons (callX1 [110, 111, 116] (litX (boolV vp))).1 (callX1 [110, 111, 116] (litX (boolV vp))).2 (.cons (callX1 [110, 111, 116] (litX (boolV vq))).1 (callX1 [110, 111, 116] (litX (boolV vq))).2 .nil)),
pRec 9 (RoR 9 EhR) (callX2 [111, 114] (callX1 [110, 111, 116] (litX (boolV vp))) (callX1 [110, 111, 116] (litX (boolV vq)))),
pTrs 9 EhR (.cons (callX1 [110, 111, 116] (callX2 [97, 110, 100] (litX (boolV vp)) (litX (boolV vq)))).1 (callX1 [110, 111, 116] (callX2 [97, 110, 100] (litX (boolV vp)) (litX (boolV vq)))).2 (.cons (callX2 [111, 114] (callX1 [110, 111, 116] (litX (boolV vp))) (callX1 [110, 111, 116] (litX (boolV vq)))).1 (callX2 [111, 114] (callX1 [110, 111, 116] (litX (boolV vp))) (callX1 [110, 111, 116] (litX (boolV vq)))).2 .nil)),
pRec 9 (RoR 9 EhR) (litX (intV i1)),
pRec 9 (RoR 9 EhR) (litX (intV i2)),
pTrs 9 EhR (.cons (litX (intV i1)).1 (litX (intV i1)).2 (.cons (litX (intV i2)).1 (litX (intV i2)).2 .nil)),
pRec 9 (RoR 9 EhR) (callX2 [60] (litX (intV i1)) (litX (intV i2))),
pRec 9 (RoR 9 EhR) (litX (intV i2)),
pRec 9 (RoR 9 EhR) (litX (intV i1)),
pTrs 9 EhR (.cons (litX (intV i2)).1 (litX (intV i2)).2 (.cons (litX (intV i1)).1 (litX (intV i1)).2 .nil)),
pRec 9 (RoR 9 EhR) (callX2 [62] (litX (intV i2)) (litX (intV i1))),
pTrs 9 EhR (.cons (callX2 [60] (litX (intV i1)) (litX (intV i2))).1 (callX2 [60] (litX (intV i1)) (litX (intV i2))).2 (.cons (callX2 [62] (litX (intV i2)) (litX (intV i1))).1 (callX2 [62] (litX (intV i2)) (litX (intV i1))).2 .nil)),
pRec 9 (RoR 9 EhR) (litX (intV i1)),
pRec 9 (RoR 9 EhR) (litX (intV i2)),
pTrs 9 EhR (.cons (litX (intV i1)).1 (litX (intV i1)).2 (.cons (litX (intV i2)).1 (litX (intV i2)).2 .nil)),
pRec 9 (RoR 9 EhR) (callX2 [60, 61] (litX (intV i1)) (litX (intV i2))),
pRec 9 (RoR 9 EhR) (litX (intV i1)),
pRec 9 (RoR 9 EhR) (litX (intV i2)),
pTrs 9 EhR (.cons (litX (intV i1)).1 (litX (intV i1)).2 (.cons (litX (intV i2)).1 (litX (intV i2)).2 .nil)),
pRec 9 (RoR 9 EhR) (callX2 [62] (litX (intV i1)) (litX (intV i2))),
pTrs 9 EhR (.cons (callX2 [62] (litX (intV i1)) (litX (intV i2))).1 (callX2 [62] (litX (intV i1)) (litX (intV i2))).2 .nil),
pRec 9 (RoR 9 EhR) (callX1 [110, 111, 116] (callX2 [62] (litX (intV i1)) (litX (intV i2)))),
pTrs 9 EhR (.cons (callX2 [60, 61] (litX (intV i1)) (litX (intV i2))).1 (callX2 [60, 61] (litX (intV i1)) (litX (intV i2))).2 (.cons (callX1 [110, 111, 116] (callX2 [62] (litX (intV i1)) (litX (intV i2)))).1 (callX1 [110, 111, 116] (callX2 [62] (litX (intV i1)) (litX (intV i2)))).2 .nil)),
pRec 9 (RoR 9 EhR) (litX (textV s)),
pRec 9 (RoR 9 EhR) (litX (textV t)),
pTrs 9 EhR (.cons (litX (textV s)).1 (litX (textV s)).2 (.cons (litX (textV t)).1 (litX (textV t)).2 .nil)),
pRec 9 (RoR 9 EhR) (callX2 [33, 61] (litX (textV s)) (litX (textV t))),
pRec 9 (RoR 9 EhR) (litX (textV s)),
pRec 9 (RoR 9 EhR) (litX (textV t)),
pTrs 9 EhR (.cons (litX (textV s)).1 (litX (textV s)).2 (.cons (litX (textV t)).1 (litX (textV t)).2 .nil)),
pRec 9 (RoR 9 EhR) (callX2 [61, 61] (litX (textV s)) (litX (textV t))),
pTrs 9 EhR (.cons (callX2 [61, 61] (litX (textV s)) (litX (textV t))).1 (callX2 [61, 61] (litX (textV s)) (litX (textV t))).2 .nil),
pRec 9 (RoR 9 EhR) (callX1 [110, 111, 116] (callX2 [61, 61] (litX (textV s)) (litX (textV t)))),
pTrs 9 EhR (.cons (callX2 [33, 61] (litX (textV s)) (litX (textV t))).1 (callX2 [33, 61] (litX (textV s)) (litX (textV t))).2 (.cons (callX1 [110, 111, 116] (callX2 [61, 61] (litX (textV s)) (litX (textV t)))).1 (callX1 [110, 111, 116] (callX2 [61, 61] (litX (textV s)) (litX (textV t)))).2 .nil)),
pRec 9 (RoR 9 EhR) (litX (textV s)),
pRec 9 (RoR 9 EhR) (litX (textV t)),
pTrs 9 EhR (.cons (litX (textV s)).1 (litX (textV s)).2 (.cons (litX (textV t)).1 (litX (textV t)).2 .nil)),
pRec 9 (RoR 9 EhR) (callX2 [43, 43] (litX (textV s)) (litX (textV t))),
pTrs 9 EhR (.cons (callX2 [43, 43] (litX (textV s)) (litX (textV t))).1 (callX2 [43, 43] (litX (textV s)) (litX (textV t))).2 .nil),
pRec 9 (RoR 9 EhR) (callX1 [108, 101, 110] (callX2 [43, 43] (litX (textV s)) (litX (textV t)))),
pRec 9 (RoR 9 EhR) (litX (textV s)),
pTrs 9 EhR (.cons (litX (textV s)).1 (litX (textV s)).2 .nil),
pRec 9 (RoR 9 EhR) (callX1 [108, 101, 110] (litX (textV s))),
pRec 9 (RoR 9 EhR) (litX (textV t)),
pTrs 9 EhR (.cons (litX (textV t)).1 (litX (textV t)).2 .nil),
pRec 9 (RoR 9 EhR) (callX1 [108, 101, 110] (litX (textV t))),
pTrs 9 EhR (.cons (callX1 [108, 101, 110] (litX (textV s))).1 (callX1 [108, 101, 110] (litX (textV s))).2 (.cons (callX1 [108, 101, 110] (litX (textV t))).1 (callX1 [108, 101, 110] (litX (textV t))).2 .nil)),
pRec 9 (RoR 9 EhR) (callX2 [43] (callX1 [108, 101, 110] (litX (textV s))) (callX1 [108, 101, 110] (litX (textV t)))),
pTrs 9 EhR (.cons (callX1 [108, 101, 110] (callX2 [43, 43] (litX (textV s)) (litX (textV t)))).1 (callX1 [108, 101, 110] (callX2 [43, 43] (litX (textV s)) (litX (textV t)))).2 (.cons (callX2 [43] (callX1 [108, 101, 110] (litX (textV s))) (callX1 [108, 101, 110] (litX (textV t)))).1 (callX2 [43] (callX1 [108, 101, 110] (litX (textV s))) (callX1 [108, 101, 110] (litX (textV t)))).2 .nil)),
pRec 9 (RoR 9 EhR) (litX (textV s)),
pRec 9 (RoR 9 EhR) (litX (textV t)),
pRec 9 (RoR 9 EhR) (litX (textV s)),
pTrs 9 EhR (.cons (litX (textV t)).1 (litX (textV t)).2 (.cons (litX (textV s)).1 (litX (textV s)).2 .nil)),
pRec 9 (RoR 9 EhR) (callX2 [43, 43] (litX (textV t)) (litX (textV s))),
pTrs 9 EhR (.cons (litX (textV s)).1 (litX (textV s)).2 (.cons (callX2 [43, 43] (litX (textV t)) (litX (textV s))).1 (callX2 [43, 43] (litX (textV t)) (litX (textV s))).2 .nil)),
pRec 9 (RoR 9 EhR) (callX2 [43, 43] (litX (textV s)) (callX2 [43, 43] (litX (textV t)) (litX (textV s)))),
pRec 9 (RoR 9 EhR) (litX (textV s)),
pRec 9 (RoR 9 EhR) (litX (textV t)),
pTrs 9 EhR (.cons (litX (textV s)).1 (litX (textV s)).2 (.cons (litX (textV t)).1 (litX (textV t)).2 .nil)),
pRec 9 (RoR 9 EhR) (callX2 [43, 43] (litX (textV s)) (litX (textV t))),
pRec 9 (RoR 9 EhR) (litX (textV s)),
pTrs 9 EhR (.cons (callX2 [43, 43] (litX (textV s)) (litX (textV t))).1 (callX2 [43, 43] (litX (textV s)) (litX (textV t))).2 (.cons (litX (textV s)).1 (litX (textV s)).2 .nil)),
pRec 9 (RoR 9 EhR) (callX2 [43, 43] (callX2 [43, 43] (litX (textV s)) (litX (textV t))) (litX (textV s))),
pTrs 9 EhR (.cons (callX2 [43, 43] (litX (textV s)) (callX2 [43, 43] (litX (textV t)) (litX (textV s)))).1 (callX2 [43, 43] (litX (textV s)) (callX2 [43, 43] (litX (textV t)) (litX (textV s)))).2 (.cons (callX2 [43, 43] (callX2 [43, 43] (litX (textV s)) (litX (textV t))) (litX (textV s))).1 (callX2 [43, 43] (callX2 [43, 43] (litX (textV s)) (litX (textV t))) (litX (textV s))).2 .nil)),
pRec 9 (RoR 9 EhR) (litX (boolV vp)),
pRec 9 (RoR 9 EhR) (litX (intV i1)),
pRec 9 (RoR 9 EhR) (litX (intV i2)),
pTrs 9 EhR (.cons (litX (boolV vp)).1 (litX (boolV vp)).2 (.cons (litX (intV i1)).1 (litX (intV i1)).2 (.cons (litX (intV i2)).1 (litX (intV i2)).2 .nil))),
pRec 9 (RoR 9 EhR) (ifX (litX (boolV vp)) (litX (intV i1)) (litX (intV i2))),
pRec 9 (RoR 9 EhR) (litX (boolV vp)),
pTrs 9 EhR (.cons (litX (boolV vp)).1 (litX (boolV vp)).2 .nil),
pRec 9 (RoR 9 EhR) (callX1 [110, 111, 116] (litX (boolV vp))),
pRec 9 (RoR 9 EhR) (litX (intV i2)),
pRec 9 (RoR 9 EhR) (litX (intV i1)),
pTrs 9 EhR (.cons (callX1 [110, 111, 116] (litX (boolV vp))).1 (callX1 [110, 111, 116] (litX (boolV vp))).2 (.cons (litX (intV i2)).1 (litX (intV i2)).2 (.cons (litX (intV i1)).1 (litX (intV i1)).2 .nil))),
pRec 9 (RoR 9 EhR) (ifX (callX1 [110, 111, 116] (litX (boolV vp))) (litX (intV i2)) (litX (intV i1))),
pTrs 9 EhR (.cons (ifX (litX (boolV vp)) (litX (intV i1)) (litX (intV i2))).1 (ifX (litX (boolV vp)) (litX (intV i1)) (litX (intV i2))).2 (.cons (ifX (callX1 [110, 111, 116] (litX (boolV vp))) (litX (intV i2)) (litX (intV i1))).1 (ifX (callX1 [110, 111, 116] (litX (boolV vp))) (litX (intV i2)) (litX (intV i1))).2 .nil)),
pLim 1 SxR ([((.cons (callX2 [43] (litX (intV i1)) (litX (intV i2))).1 (callX2 [43] (litX (intV i1)) (litX (intV i2))).2 (.cons (callX2 [43] (litX (intV i2)) (litX (intV i1))).1 (callX2 [43] (litX (intV i2)) (litX (intV i1))).2 .nil)) : Ef), ((.cons (callX2 [42] (litX (intV i1)) (litX (intV i2))).1 (callX2 [42] (litX (intV i1)) (litX (intV i2))).2 (.cons (callX2 [42] (litX (intV i2)) (litX (intV i1))).1 (callX2 [42] (litX (intV i2)) (litX (intV i1))).2 .nil)) : Ef), ((.cons (callX2 [42] (litX (intV i1)) (callX2 [43] (litX (intV i2)) (litX (intV i3)))).1 (callX2 [42] (litX (intV i1)) (callX2 [43] (litX (intV i2)) (litX (intV i3)))).2 (.cons (callX2 [43] (callX2 [42] (litX (intV i1)) (litX (intV i2))) (callX2 [42] (litX (intV i1)) (litX (intV i3)))).1 (callX2 [43] (callX2 [42] (litX (intV i1)) (litX (intV i2))) (callX2 [42] (litX (intV i1)) (litX (intV i3)))).2 .nil)) : Ef), ((.cons (callX2 [45] (litX (intV i1)) (litX (intV i2))).1 (callX2 [45] (litX (intV i1)) (litX (intV i2))).2 (.cons (callX1 [110, 101, 103] (callX2 [45] (litX (intV i2)) (litX (intV i1)))).1 (callX1 [110, 101, 103] (callX2 [45] (litX (intV i2)) (litX (intV i1)))).2 .nil)) : Ef), ((.cons (callX2 [43] (callX2 [42] (callX2 [47] (litX (intV i1)) (litX (intV i2))) (litX (intV i2))) (callX2 [37] (litX (intV i1)) (litX (intV i2)))).1 (callX2 [43] (callX2 [42] (callX2 [47] (litX (intV i1)) (litX (intV i2))) (litX (intV i2))) (callX2 [37] (litX (intV i1)) (litX (intV i2)))).2 (.cons (litX (intV i1)).1 (litX (intV i1)).2 .nil)) : Ef), ((.cons (callX1 [110, 111, 116] (callX2 [97, 110, 100] (litX (boolV vp)) (litX (boolV vq)))).1 (callX1 [110, 111, 116] (callX2 [97, 110, 100] (litX (boolV vp)) (litX (boolV vq)))).2 (.cons (callX2 [111, 114] (callX1 [110, 111, 116] (litX (boolV vp))) (callX1 [110, 111, 116] (litX (boolV vq)))).1 (callX2 [111, 114] (callX1 [110, 111, 116] (litX (boolV vp))) (callX1 [110, 111, 116] (litX (boolV vq)))).2 .nil)) : Ef), ((.cons (callX2 [60] (litX (intV i1)) (litX (intV i2))).1 (callX2 [60] (litX (intV i1)) (litX (intV i2))).2 (.cons (callX2 [62] (litX (intV i2)) (litX (intV i1))).1 (callX2 [62] (litX (intV i2)) (litX (intV i1))).2 .nil)) : Ef), ((.cons (callX2 [60, 61] (litX (intV i1)) (litX (intV i2))).1 (callX2 [60, 61] (litX (intV i1)) (litX (intV i2))).2 (.cons (callX1 [110, 111, 116] (callX2 [62] (litX (intV i1)) (litX (intV i2)))).1 (callX1 [110, 111, 116] (callX2 [62] (litX (intV i1)) (litX (intV i2)))).2 .nil)) : Ef), ((.cons (callX2 [33, 61] (litX (textV s)) (litX (textV t))).1 (callX2 [33, 61] (litX (textV s)) (litX (textV t))).2 (.cons (callX1 [110, 111, 116] (callX2 [61, 61] (litX (textV s)) (litX (textV t)))).1 (callX1 [110, 111, 116] (callX2 [61, 61] (litX (textV s)) (litX (textV t)))).2 .nil)) : Ef), ((.cons (callX1 [108, 101, 110] (callX2 [43, 43] (litX (textV s)) (litX (textV t)))).1 (callX1 [108, 101, 110] (callX2 [43, 43] (litX (textV s)) (litX (textV t)))).2 (.cons (callX2 [43] (callX1 [108, 101, 110] (litX (textV s))) (callX1 [108, 101, 110] (litX (textV t)))).1 (callX2 [43] (callX1 [108, 101, 110] (litX (textV s))) (callX1 [108, 101, 110] (litX (textV t)))).2 .nil)) : Ef), ((.cons (callX2 [43, 43] (litX (textV s)) (callX2 [43, 43] (litX (textV t)) (litX (textV s)))).1 (callX2 [43, 43] (litX (textV s)) (callX2 [43, 43] (litX (textV t)) (litX (textV s)))).2 (.cons (callX2 [43, 43] (callX2 [43, 43] (litX (textV s)) (litX (textV t))) (litX (textV s))).1 (callX2 [43, 43] (callX2 [43, 43] (litX (textV s)) (litX (textV t))) (litX (textV s))).2 .nil)) : Ef), ((.cons (ifX (litX (boolV vp)) (litX (intV i1)) (litX (intV i2))).1 (ifX (litX (boolV vp)) (litX (intV i1)) (litX (intV i2))).2 (.cons (ifX (callX1 [110, 111, 116] (litX (boolV vp))) (litX (intV i2)) (litX (intV i1))).1 (ifX (callX1 [110, 111, 116] (litX (boolV vp))) (litX (intV i2)) (litX (intV i1))).2 .nil)) : Ef)] : List Ef),
PM.is (.int .i64 12),
PM.is (.int .i64 0)]
set_option maxRecDepth 20000 in
set_option maxHeartbeats 64000000 in
theorem evalPaperCt (F : Heap) (hT : TabF F) (hE : ErrF F) (i1 i2 i3 : Int) (s t : List UInt8) (vp vq : Bool) (ha : in64 i1) (hb : in64 i2) (hc : in64 i3) (hsl : s.length ≤ 140737488355328) (htl : t.length ≤ 140737488355328) : Ct Tryz.prog 3 [.int .i64 i1, .int .i64 i2, .int .i64 i3, .string (bs s), .string (bs t), .bool vp, .bool vq] F [] (fun _ _ u => u = .bool true) := by
  refine Ct.enter Tryz.func3 rfl Tryz.ntmps3 rfl fun w0 a S => ?_
  refine wp_sr fun Kq1 hKq1 => ?_
  (refine wpl_p S rfl rfl rfl ?_; clear S a; intro a S)
  (refine wpList_nil (hKq1 _ _ (wp_seq_k fun Kq2 hKq2 => ?_)); try clear hKq1 Kq1)
  refine wp_sr fun Kq3 hKq3 => ?_
  (refine wpl_call0 S rfl rfl rfl rfl rfl rfl (worksCt F hT hE) rfl ?_; clear S a; intro v a w hv S; subst hv)
  skip
  iterate 2 (refine wpl_p S rfl rfl rfl ?_; clear S a; intro a S)
  refine wpl_take S rfl rfl rfl ?_
  (refine wpl_p S rfl rfl rfl ?_; clear S a; intro a S)
  refine wpl_take S rfl rfl rfl ?_
  (refine wpl_s S rfl rfl rfl ?_; clear S a; intro a S)
  refine wpl_take S rfl rfl rfl ?_
  (refine wpl_p S rfl rfl rfl ?_; clear S a; intro a S)
  refine wpl_take S rfl rfl rfl ?_
  (refine wpl_s S rfl rfl rfl ?_; clear S a; intro a S)
  refine wpl_take S rfl rfl rfl ?_
  (refine wpl_a S rfl rfl rfl ?_; clear S a; intro a S)
  refine wpl_take S rfl rfl rfl ?_
  iterate 2 (refine wpl_p S rfl rfl rfl ?_; clear S a; intro a S)
  (refine wpList_nil (hKq3 _ _ ?_); try clear hKq3 Kq3)
  refine wpc_split S rfl (fun h => ?_) (fun h => ?_)
  · (skip; (try simp only [tq] at h))
    refine wp_sr fun Kq4 hKq4 => ?_
    (refine wpl_call0 S rfl rfl rfl rfl rfl rfl (worksCt F hT hE) rfl ?_; clear S a; intro v a w hv S; subst hv)
    (refine wpl_p S rfl rfl rfl ?_; clear S a; intro a S)
    (refine wpList_nil (hKq4 _ _ ?_); try clear hKq4 Kq4)
    refine wp_ret (fin_ret S (results1 Tryz.results3 (RV.tmp S rfl)) ?_)
    (first | rfl | (exfalso; omega))
  (skip; (try simp only [tq] at h))
  refine wp_skip ?_
  (refine hKq2 _ _ ?_; try (clear hKq2 Kq2))
  (refine wp_seq_k ?_; intro Kq4 hKq4)
  refine wp_sr fun Kq5 hKq5 => ?_
  (refine wpl_buildSlice S rfl rfl rfl rfl rfl rfl (by rfl) (by simp [Value.cells, splice]) rfl (by rfl) (by rfl) ?_; clear S a; intro b47 a w hown S; have S' := frz1 S; clear S; obtain ⟨F47, hF47, hb47, S⟩ := S'; have hs : s.length ≤ 4096 := (by omega); have ht : t.length ≤ 4096 := (by omega); have hT47 := hT.mono hF47; have hE47 := hE.mono hF47; have k47 : LiM F47 1 StR (.slice (some ⟨b47, 0, none⟩) 5 5) opsL := lim_of (l := opsL) hb47 (LiC.app (l := [[43]]) (LiC.one rfl rfl) (LiC.app (l := [[45]]) (LiC.one rfl rfl) (LiC.app (l := [[42]]) (LiC.one rfl rfl) (LiC.app (l := [[47]]) (LiC.one rfl rfl) (LiC.one rfl rfl))))) (by decide); obtain ⟨a47, c47, ea47, -, hp47⟩ := k47; cases ea47)
  (refine wpl_n S rfl rfl rfl ?_; clear S a; intro a S)
  (refine wpl_p S rfl rfl rfl ?_; clear S a; intro a S)
  (refine wpList_nil (hKq5 _ _ ?_); try clear hKq5 Kq5)
  refine wp_block ?_
  refine wpc_loop (fun m a' w' => ∃ (k : Nat) (F3 : Heap), m = 5 - k ∧ k ≤ 5 ∧ (∀ b o, F47 b = some o → F3 b = some o) ∧ St 350 [(0, .int .i64 i1), (1, .int .i64 i2), (2, .int .i64 i3), (3, .string (bs s)), (4, .string (bs t)), (5, .bool vp), (6, .bool vq), (14, .bool false), (47, .slice (some ⟨b47, 0, none⟩) 5 5), (48, .int .i64 5), (49, .int .i64 (k : Int))] w0 F [] F3 [] a' w') ?_ ?_
  · (refine ⟨5, 0, F47, by omega, by omega, fun _ _ h => h, ?_⟩; refine S.keep ?_; repeat (first | exact trivial | refine ⟨rfl, ?_⟩))
  (clear S; rintro m av w ⟨k, F3, rfl, hkl, hF3, S⟩)
  refine wp_sr fun Kq6 hKq6 => ?_
  (refine wpl_p S rfl rfl rfl ?_; clear S a; intro a S)
  (refine wpList_nil (hKq6 _ _ (wp_seq_k fun Kq7 hKq7 => ?_)); try clear hKq6 Kq6)
  refine wpc_split S rfl (fun h => ?_) (fun h => ?_)
  · (skip; (try simp only [tq] at h))
    refine wp_skip ?_
    (refine hKq7 _ _ ?_; try (clear hKq7 Kq7))
    (refine wp_seq_k ?_; intro Kq8 hKq8)
    refine wp_block ?_
    (refine wp_seq_k ?_; intro Kq9 hKq9)
    (obtain ⟨bo, oo, hoo, x, cs1, hx, hc1, hR1⟩ := LiM.pos hp47 (k := k) (show k < 5 by omega); cases hoo; obtain rfl := opn_at hx; subst hR1; have hk4 : k ≤ 4 := (by omega); replace hc1 := Cels.mono hF3 hc1)
    refine wp_region_lit ?_
    (refine wpl_i S rfl rfl rfl ?_; clear S a; intro a S)
    (refine wpl_v S rfl rfl rfl (sv_loadF S rfl rfl (hc1 0 _ rfl)) ?_; clear S a; intro a S)
    (refine wpl_p S rfl rfl rfl ?_; clear S a; intro a S)
    (refine wpList_nil (hKq9 _ _ (wp_sr fun Kq10 hKq10 => ?_)); try clear hKq9 Kq9)
    iterate 2 (refine wpl_p S rfl rfl rfl ?_; clear S a; intro a S)
    (refine wpl_callF S rfl rfl rfl rfl rfl rfl (lnumCt F3 _) rfl ?_; clear S a; intro v56 F56 a w hv hF56 S; obtain ⟨c56, rfl, -, r56⟩ := hv; obtain ⟨xa56, xb56, he56, -, -⟩ := vac_slc (ror_vac r56); subst he56; replace hF3 := fun b o h => hF56 b o (hF3 b o h))
    (refine wpl_callF S rfl rfl rfl rfl rfl rfl (llitCt F56 _ _ r56) rfl ?_; clear S a; intro v57 F57 a w hv hF57 S; obtain ⟨c57, rfl, -, r57⟩ := hv; obtain ⟨xa57, xb57, xc57, xd57, xe57, he57, -, -⟩ := exc_slc (ror_exc r57); subst he57; replace hF3 := fun b o h => hF57 b o (hF3 b o h))
    (refine wpl_p S rfl rfl rfl ?_; clear S a; intro a S)
    (refine wpl_callF S rfl rfl rfl rfl rfl rfl (lnumCt F57 _) rfl ?_; clear S a; intro v59 F59 a w hv hF59 S; obtain ⟨c59, rfl, -, r59⟩ := hv; obtain ⟨xa59, xb59, he59, -, -⟩ := vac_slc (ror_vac r59); subst he59; replace hF3 := fun b o h => hF59 b o (hF3 b o h))
    (refine wpl_callF S rfl rfl rfl rfl rfl rfl (llitCt F59 _ _ r59) rfl ?_; clear S a; intro v60 F60 a w hv hF60 S; obtain ⟨c60, rfl, -, r60⟩ := hv; obtain ⟨xa60, xb60, xc60, xd60, xe60, he60, -, -⟩ := exc_slc (ror_exc r60); subst he60; replace hF3 := fun b o h => hF60 b o (hF3 b o h))
    (refine wpl_buildSlice S rfl rfl rfl rfl rfl rfl (by rfl) (by simp [Value.cells, splice]) rfl (by rfl) (by rfl) ?_; clear S a; intro b61 a w hown S; have S' := frz1 S; clear S; obtain ⟨F61, hF61, hb61, S⟩ := S'; have r61 := trs_lim (lim_of (l := ([(litX (intV i1)), (litX (intV i2))] : List Ex)) hb61 (LiC.app (l := ([(litX (intV i1))] : List Ex)) (LiC.one (sz := 9) rfl (Mon.h (fun b o h => hF61 _ _ (hF60 _ _ (hF59 _ _ h))) r57)) (LiC.one (sz := 9) rfl (Mon.h (fun b o h => hF61 _ _ h) r60))) (show 2 ≤ _ by decide)); replace hF3 := fun b o h => hF61 b o (hF3 b o h))
    (refine wpl_callF S rfl rfl rfl rfl rfl rfl (lcallCt F61 (opn k) (.cons (litX (intV i1)).1 (litX (intV i1)).2 (.cons (litX (intV i2)).1 (litX (intV i2)).2 .nil)) _ r61) rfl ?_; clear S a; intro v62 F62 a w hv hF62 S; obtain ⟨c62, rfl, -, r62⟩ := hv; obtain ⟨xa62, xb62, xc62, xd62, xe62, he62, -, -⟩ := exc_slc (ror_exc r62); subst he62; replace hF3 := fun b o h => hF62 b o (hF3 b o h))
    (refine wpl_buildSlice S rfl rfl rfl rfl rfl rfl (by rfl) (by simp [Value.cells, splice]) rfl (by rfl) (by rfl) ?_; clear S a; intro b63 a w hown S; have S' := frz1 S; clear S; obtain ⟨F63, hF63, hb63, S⟩ := S'; have r63 := trs_lim (lim_of (l := ([(callX2 (opn k) (litX (intV i1)) (litX (intV i2)))] : List Ex)) hb63 (LiC.one (sz := 9) rfl (Mon.h (fun b o h => hF63 _ _ h) r62)) (show 1 ≤ _ by decide)); replace hF3 := fun b o h => hF63 b o (hF3 b o h))
    (refine wpl_callF S rfl rfl rfl rfl rfl rfl (lcallCt F63 [98, 105, 103] (.cons (callX2 (opn k) (litX (intV i1)) (litX (intV i2))).1 (callX2 (opn k) (litX (intV i1)) (litX (intV i2))).2 .nil) _ r63) rfl ?_; clear S a; intro v64 F64 a w hv hF64 S; obtain ⟨c64, rfl, -, r64⟩ := hv; obtain ⟨xa64, xb64, xc64, xd64, xe64, he64, -, -⟩ := exc_slc (ror_exc r64); subst he64; replace hF3 := fun b o h => hF64 b o (hF3 b o h))
    (refine wpl_callF S rfl rfl rfl rfl rfl rfl (eval0Ct F64 (hT47.mono hF3) (hE47.mono hF3) (x1 k i1 i2) _ r64 (ok_x1 hk4 ha hb).1) rfl ?_; clear S a; intro v65 F65 a w hv65 hF65 S; generalize eA : evalO [] [] (x1 k i1 i2).1 (x1 k i1 i2).2 = A at hv65; obtain ⟨c65, rfl, q65⟩ := hv65; obtain ⟨xa65, xb65, he65, -, -⟩ := vac_slc q65; subst he65; replace hF3 := fun b o h => hF65 b o (hF3 b o h))
    iterate 3 (refine wpl_p S rfl rfl rfl ?_; clear S a; intro a S)
    (refine wpl_alloc S rfl rfl rfl rfl ?_; clear S a; intro b17 a w S)
    (refine wpl_storeO S rfl rfl rfl rfl rfl (by rfl) (by simp [Value.cells, Value.oneCell', splice]) (by rfl) ?_; clear S; intro w S)
    (refine wpl_p S rfl rfl rfl ?_; clear S a; intro a S)
    (refine wpList_nil (hKq10 _ _ (wp_sr fun Kq11 hKq11 => ?_)); try clear hKq10 Kq10)
    iterate 2 (refine wpl_p S rfl rfl rfl ?_; clear S a; intro a S)
    (refine wpl_callF S rfl rfl rfl rfl rfl rfl (lnumCt F65 _) rfl ?_; clear S a; intro v71 F71 a w hv hF71 S; obtain ⟨c71, rfl, -, r71⟩ := hv; obtain ⟨xa71, xb71, he71, -, -⟩ := vac_slc (ror_vac r71); subst he71; replace hF3 := fun b o h => hF71 b o (hF3 b o h))
    (refine wpl_callF S rfl rfl rfl rfl rfl rfl (llitCt F71 _ _ r71) rfl ?_; clear S a; intro v72 F72 a w hv hF72 S; obtain ⟨c72, rfl, -, r72⟩ := hv; obtain ⟨xa72, xb72, xc72, xd72, xe72, he72, -, -⟩ := exc_slc (ror_exc r72); subst he72; replace hF3 := fun b o h => hF72 b o (hF3 b o h))
    (refine wpl_buildSlice S rfl rfl rfl rfl rfl rfl (by rfl) (by simp [Value.cells, splice]) rfl (by rfl) (by rfl) ?_; clear S a; intro b73 a w hown S; have S' := frz1 S; clear S; obtain ⟨F73, hF73, hb73, S⟩ := S'; have r73 := trs_lim (lim_of (l := ([(litX (intV i1))] : List Ex)) hb73 (LiC.one (sz := 9) rfl (Mon.h (fun b o h => hF73 _ _ h) r72)) (show 1 ≤ _ by decide)); replace hF3 := fun b o h => hF73 b o (hF3 b o h))
    (refine wpl_callF S rfl rfl rfl rfl rfl rfl (lcallCt F73 [98, 105, 103] (.cons (litX (intV i1)).1 (litX (intV i1)).2 .nil) _ r73) rfl ?_; clear S a; intro v74 F74 a w hv hF74 S; obtain ⟨c74, rfl, -, r74⟩ := hv; obtain ⟨xa74, xb74, xc74, xd74, xe74, he74, -, -⟩ := exc_slc (ror_exc r74); subst he74; replace hF3 := fun b o h => hF74 b o (hF3 b o h))
    (refine wpl_p S rfl rfl rfl ?_; clear S a; intro a S)
    (refine wpl_callF S rfl rfl rfl rfl rfl rfl (lnumCt F74 _) rfl ?_; clear S a; intro v76 F76 a w hv hF76 S; obtain ⟨c76, rfl, -, r76⟩ := hv; obtain ⟨xa76, xb76, he76, -, -⟩ := vac_slc (ror_vac r76); subst he76; replace hF3 := fun b o h => hF76 b o (hF3 b o h))
    (refine wpl_callF S rfl rfl rfl rfl rfl rfl (llitCt F76 _ _ r76) rfl ?_; clear S a; intro v77 F77 a w hv hF77 S; obtain ⟨c77, rfl, -, r77⟩ := hv; obtain ⟨xa77, xb77, xc77, xd77, xe77, he77, -, -⟩ := exc_slc (ror_exc r77); subst he77; replace hF3 := fun b o h => hF77 b o (hF3 b o h))
    (refine wpl_buildSlice S rfl rfl rfl rfl rfl rfl (by rfl) (by simp [Value.cells, splice]) rfl (by rfl) (by rfl) ?_; clear S a; intro b78 a w hown S; have S' := frz1 S; clear S; obtain ⟨F78, hF78, hb78, S⟩ := S'; have r78 := trs_lim (lim_of (l := ([(litX (intV i2))] : List Ex)) hb78 (LiC.one (sz := 9) rfl (Mon.h (fun b o h => hF78 _ _ h) r77)) (show 1 ≤ _ by decide)); replace hF3 := fun b o h => hF78 b o (hF3 b o h))
    (refine wpl_callF S rfl rfl rfl rfl rfl rfl (lcallCt F78 [98, 105, 103] (.cons (litX (intV i2)).1 (litX (intV i2)).2 .nil) _ r78) rfl ?_; clear S a; intro v79 F79 a w hv hF79 S; obtain ⟨c79, rfl, -, r79⟩ := hv; obtain ⟨xa79, xb79, xc79, xd79, xe79, he79, -, -⟩ := exc_slc (ror_exc r79); subst he79; replace hF3 := fun b o h => hF79 b o (hF3 b o h))
    (refine wpl_buildSlice S rfl rfl rfl rfl rfl rfl (by rfl) (by simp [Value.cells, splice]) rfl (by rfl) (by rfl) ?_; clear S a; intro b80 a w hown S; have S' := frz1 S; clear S; obtain ⟨F80, hF80, hb80, S⟩ := S'; have r80 := trs_lim (lim_of (l := ([(callX1 [98, 105, 103] (litX (intV i1))), (callX1 [98, 105, 103] (litX (intV i2)))] : List Ex)) hb80 (LiC.app (l := ([(callX1 [98, 105, 103] (litX (intV i1)))] : List Ex)) (LiC.one (sz := 9) rfl (Mon.h (fun b o h => hF80 _ _ (hF79 _ _ (hF78 _ _ (hF77 _ _ (hF76 _ _ h))))) r74)) (LiC.one (sz := 9) rfl (Mon.h (fun b o h => hF80 _ _ h) r79))) (show 2 ≤ _ by decide)); replace hF3 := fun b o h => hF80 b o (hF3 b o h))
    (refine wpl_callF S rfl rfl rfl rfl rfl rfl (lcallCt F80 (opn k) (.cons (callX1 [98, 105, 103] (litX (intV i1))).1 (callX1 [98, 105, 103] (litX (intV i1))).2 (.cons (callX1 [98, 105, 103] (litX (intV i2))).1 (callX1 [98, 105, 103] (litX (intV i2))).2 .nil)) _ r80) rfl ?_; clear S a; intro v81 F81 a w hv hF81 S; obtain ⟨c81, rfl, -, r81⟩ := hv; obtain ⟨xa81, xb81, xc81, xd81, xe81, he81, -, -⟩ := exc_slc (ror_exc r81); subst he81; replace hF3 := fun b o h => hF81 b o (hF3 b o h))
    (refine wpl_callF S rfl rfl rfl rfl rfl rfl (eval0Ct F81 (hT47.mono hF3) (hE47.mono hF3) (x2 k i1 i2) _ r81 (ok_x2 hk4 ha hb).1) rfl ?_; clear S a; intro v82 F82 a w hv82 hF82 S; generalize eB : evalO [] [] (x2 k i1 i2).1 (x2 k i1 i2).2 = B at hv82; obtain ⟨c82, rfl, q82⟩ := hv82; obtain ⟨xa82, xb82, he82, -, -⟩ := vac_slc q82; subst he82; replace hF3 := fun b o h => hF82 b o (hF3 b o h))
    iterate 3 (refine wpl_p S rfl rfl rfl ?_; clear S a; intro a S)
    (refine wpl_alloc S rfl rfl rfl rfl ?_; clear S a; intro b19 a w S)
    (refine wpl_storeO S rfl rfl rfl rfl rfl (by rfl) (by simp [Value.cells, Value.oneCell', splice]) (by rfl) ?_; clear S; intro w S)
    (refine wpl_p S rfl rfl rfl ?_; clear S a; intro a S)
    (refine wpList_nil (hKq11 _ _ (wp_sr fun Kq12 hKq12 => ?_)); try clear hKq11 Kq11)
    iterate 2 (refine wpl_p S rfl rfl rfl ?_; clear S a; intro a S)
    (refine wpl_callF S rfl rfl rfl rfl rfl rfl (lnumCt F82 _) rfl ?_; clear S a; intro v88 F88 a w hv hF88 S; obtain ⟨c88, rfl, -, r88⟩ := hv; obtain ⟨xa88, xb88, he88, -, -⟩ := vac_slc (ror_vac r88); subst he88; replace hF3 := fun b o h => hF88 b o (hF3 b o h))
    (refine wpl_callF S rfl rfl rfl rfl rfl rfl (llitCt F88 _ _ r88) rfl ?_; clear S a; intro v89 F89 a w hv hF89 S; obtain ⟨c89, rfl, -, r89⟩ := hv; obtain ⟨xa89, xb89, xc89, xd89, xe89, he89, -, -⟩ := exc_slc (ror_exc r89); subst he89; replace hF3 := fun b o h => hF89 b o (hF3 b o h))
    (refine wpl_buildSlice S rfl rfl rfl rfl rfl rfl (by rfl) (by simp [Value.cells, splice]) rfl (by rfl) (by rfl) ?_; clear S a; intro b90 a w hown S; have S' := frz1 S; clear S; obtain ⟨F90, hF90, hb90, S⟩ := S'; have r90 := trs_lim (lim_of (l := ([(litX (intV i1))] : List Ex)) hb90 (LiC.one (sz := 9) rfl (Mon.h (fun b o h => hF90 _ _ h) r89)) (show 1 ≤ _ by decide)); replace hF3 := fun b o h => hF90 b o (hF3 b o h))
    (refine wpl_callF S rfl rfl rfl rfl rfl rfl (lcallCt F90 [98, 105, 103] (.cons (litX (intV i1)).1 (litX (intV i1)).2 .nil) _ r90) rfl ?_; clear S a; intro v91 F91 a w hv hF91 S; obtain ⟨c91, rfl, -, r91⟩ := hv; obtain ⟨xa91, xb91, xc91, xd91, xe91, he91, -, -⟩ := exc_slc (ror_exc r91); subst he91; replace hF3 := fun b o h => hF91 b o (hF3 b o h))
    (refine wpl_p S rfl rfl rfl ?_; clear S a; intro a S)
    (refine wpl_callF S rfl rfl rfl rfl rfl rfl (lnumCt F91 _) rfl ?_; clear S a; intro v93 F93 a w hv hF93 S; obtain ⟨c93, rfl, -, r93⟩ := hv; obtain ⟨xa93, xb93, he93, -, -⟩ := vac_slc (ror_vac r93); subst he93; replace hF3 := fun b o h => hF93 b o (hF3 b o h))
    (refine wpl_callF S rfl rfl rfl rfl rfl rfl (llitCt F93 _ _ r93) rfl ?_; clear S a; intro v94 F94 a w hv hF94 S; obtain ⟨c94, rfl, -, r94⟩ := hv; obtain ⟨xa94, xb94, xc94, xd94, xe94, he94, -, -⟩ := exc_slc (ror_exc r94); subst he94; replace hF3 := fun b o h => hF94 b o (hF3 b o h))
    (refine wpl_buildSlice S rfl rfl rfl rfl rfl rfl (by rfl) (by simp [Value.cells, splice]) rfl (by rfl) (by rfl) ?_; clear S a; intro b95 a w hown S; have S' := frz1 S; clear S; obtain ⟨F95, hF95, hb95, S⟩ := S'; have r95 := trs_lim (lim_of (l := ([(litX (intV i2))] : List Ex)) hb95 (LiC.one (sz := 9) rfl (Mon.h (fun b o h => hF95 _ _ h) r94)) (show 1 ≤ _ by decide)); replace hF3 := fun b o h => hF95 b o (hF3 b o h))
    (refine wpl_callF S rfl rfl rfl rfl rfl rfl (lcallCt F95 [98, 105, 103] (.cons (litX (intV i2)).1 (litX (intV i2)).2 .nil) _ r95) rfl ?_; clear S a; intro v96 F96 a w hv hF96 S; obtain ⟨c96, rfl, -, r96⟩ := hv; obtain ⟨xa96, xb96, xc96, xd96, xe96, he96, -, -⟩ := exc_slc (ror_exc r96); subst he96; replace hF3 := fun b o h => hF96 b o (hF3 b o h))
    (refine wpl_buildSlice S rfl rfl rfl rfl rfl rfl (by rfl) (by simp [Value.cells, splice]) rfl (by rfl) (by rfl) ?_; clear S a; intro b97 a w hown S; have S' := frz1 S; clear S; obtain ⟨F97, hF97, hb97, S⟩ := S'; have r97 := trs_lim (lim_of (l := ([(callX1 [98, 105, 103] (litX (intV i1))), (callX1 [98, 105, 103] (litX (intV i2)))] : List Ex)) hb97 (LiC.app (l := ([(callX1 [98, 105, 103] (litX (intV i1)))] : List Ex)) (LiC.one (sz := 9) rfl (Mon.h (fun b o h => hF97 _ _ (hF96 _ _ (hF95 _ _ (hF94 _ _ (hF93 _ _ h))))) r91)) (LiC.one (sz := 9) rfl (Mon.h (fun b o h => hF97 _ _ h) r96))) (show 2 ≤ _ by decide)); replace hF3 := fun b o h => hF97 b o (hF3 b o h))
    (refine wpl_callF S rfl rfl rfl rfl rfl rfl (lcallCt F97 (opn k) (.cons (callX1 [98, 105, 103] (litX (intV i1))).1 (callX1 [98, 105, 103] (litX (intV i1))).2 (.cons (callX1 [98, 105, 103] (litX (intV i2))).1 (callX1 [98, 105, 103] (litX (intV i2))).2 .nil)) _ r97) rfl ?_; clear S a; intro v98 F98 a w hv hF98 S; obtain ⟨c98, rfl, -, r98⟩ := hv; obtain ⟨xa98, xb98, xc98, xd98, xe98, he98, -, -⟩ := exc_slc (ror_exc r98); subst he98; replace hF3 := fun b o h => hF98 b o (hF3 b o h))
    (refine wpl_buildSlice S rfl rfl rfl rfl rfl rfl (by rfl) (by simp [Value.cells, splice]) rfl (by rfl) (by rfl) ?_; clear S a; intro b99 a w hown S; have S' := frz1 S; clear S; obtain ⟨F99, hF99, hb99, S⟩ := S'; have r99 := trs_lim (lim_of (l := ([(callX2 (opn k) (callX1 [98, 105, 103] (litX (intV i1))) (callX1 [98, 105, 103] (litX (intV i2))))] : List Ex)) hb99 (LiC.one (sz := 9) rfl (Mon.h (fun b o h => hF99 _ _ h) r98)) (show 1 ≤ _ by decide)); replace hF3 := fun b o h => hF99 b o (hF3 b o h))
    (refine wpl_callF S rfl rfl rfl rfl rfl rfl (lcallCt F99 [105, 110, 116] (.cons (callX2 (opn k) (callX1 [98, 105, 103] (litX (intV i1))) (callX1 [98, 105, 103] (litX (intV i2)))).1 (callX2 (opn k) (callX1 [98, 105, 103] (litX (intV i1))) (callX1 [98, 105, 103] (litX (intV i2)))).2 .nil) _ r99) rfl ?_; clear S a; intro v100 F100 a w hv hF100 S; obtain ⟨c100, rfl, -, r100⟩ := hv; obtain ⟨xa100, xb100, xc100, xd100, xe100, he100, -, -⟩ := exc_slc (ror_exc r100); subst he100; replace hF3 := fun b o h => hF100 b o (hF3 b o h))
    (refine wpl_callF S rfl rfl rfl rfl rfl rfl (eval0Ct F100 (hT47.mono hF3) (hE47.mono hF3) (x3 k i1 i2) _ r100 (ok_x3 hk4 ha hb).1) rfl ?_; clear S a; intro v101 F101 a w hv101 hF101 S; generalize eD : evalO [] [] (x3 k i1 i2).1 (x3 k i1 i2).2 = D at hv101; obtain ⟨c101, rfl, q101⟩ := hv101; obtain ⟨xa101, xb101, he101, -, -⟩ := vac_slc q101; subst he101; replace hF3 := fun b o h => hF101 b o (hF3 b o h))
    iterate 3 (refine wpl_p S rfl rfl rfl ?_; clear S a; intro a S)
    (refine wpl_alloc S rfl rfl rfl rfl ?_; clear S a; intro b21 a w S)
    (refine wpl_storeO S rfl rfl rfl rfl rfl (by rfl) (by simp [Value.cells, Value.oneCell', splice]) (by rfl) ?_; clear S; intro w S)
    (refine wpl_p S rfl rfl rfl ?_; clear S a; intro a S)
    (refine wpList_nil (hKq12 _ _ (wp_seq_k fun Kq13 hKq13 => ?_)); try clear hKq12 Kq12)
    (obtain ⟨hp0, hp3, hp4, hp5⟩ := paper_eval hk4 ha hb eA.symm eB.symm eD.symm; have hp1 : A.1 = 0 → B.1 = 0 := (fun h => (hp0 h).1); have hp2 : A.1 = 0 → A.2 = B.2 := (fun h => (hp0 h).2))
    refine wp_region_lit ?_
    iterate 3 (refine wpl_p S rfl rfl rfl ?_; clear S a; intro a S)
    refine wpl_guard S rfl rfl rfl rfl rfl ?_ ?_
    · (intro h S'; clear S; have S := S'; clear S'; (try simp only [tq] at h))
      (refine wpl_p S rfl rfl rfl ?_; clear S a; intro a S)
      refine wpl_take S rfl rfl rfl ?_
      (refine wpl_v S rfl rfl rfl (sv_lit (c := false) (sv_pure S rfl) (by first | (simp; omega) | trace_state)) ?_; clear S a; intro a S)
      refine wpl_take S rfl rfl rfl ?_
      (refine wpl_p S rfl rfl rfl ?_; clear S a; intro a S)
      refine wpl_take S rfl rfl rfl ?_
      (refine wpl_l S rfl rfl rfl ?_; clear S a; intro a S)
      refine wpl_take S rfl rfl rfl ?_
      (refine wpl_l S rfl rfl rfl ?_; clear S a; intro a S)
      refine wpl_take S rfl rfl rfl ?_
      (refine wpl_call0 S rfl rfl rfl rfl rfl rfl (sameCt (A.2.2.size + 1) F101 A.2 B.2 _ _ (Nat.lt_succ_self _) (q65.mono (fun b o h => hF101 _ _ (hF100 _ _ (hF99 _ _ (hF98 _ _ (hF97 _ _ (hF96 _ _ (hF95 _ _ (hF94 _ _ (hF93 _ _ (hF91 _ _ (hF90 _ _ (hF89 _ _ (hF88 _ _ (hF82 _ _ (hF81 _ _ (hF80 _ _ (hF79 _ _ (hF78 _ _ (hF77 _ _ (hF76 _ _ (hF74 _ _ (hF73 _ _ (hF72 _ _ (hF71 _ _ h))))))))))))))))))))))))) (q82.mono (fun b o h => hF101 _ _ (hF100 _ _ (hF99 _ _ (hF98 _ _ (hF97 _ _ (hF96 _ _ (hF95 _ _ (hF94 _ _ (hF93 _ _ (hF91 _ _ (hF90 _ _ (hF89 _ _ (hF88 _ _ h))))))))))))))) rfl ?_; clear S a; intro v a w hv S; subst hv)
      (rw [sameV_iff.2 (hp2 (by omega))] at S)
      refine wpl_take S rfl rfl rfl ?_
      (refine wpl_p S rfl rfl rfl ?_; clear S a; intro a S)
      refine wpl_take S rfl rfl rfl ?_
      iterate 3 (refine wpl_p S rfl rfl rfl ?_; clear S a; intro a S)
      refine wpl_take S rfl rfl rfl ?_
      (refine wpl_p S rfl rfl rfl ?_; clear S a; intro a S)
      refine wpl_take S rfl rfl rfl ?_
      (refine wpl_v S rfl rfl rfl (sv_lit (c := false) (sv_pure S rfl) (by first | (simp; omega) | trace_state)) ?_; clear S a; intro a S)
      refine wpl_take S rfl rfl rfl ?_
      (refine wpl_p S rfl rfl rfl ?_; clear S a; intro a S)
      iterate 2 (refine wpl_skip S rfl rfl rfl rfl rfl ?_; clear S a; intro a S)
      refine wpl_take S rfl rfl rfl ?_
      iterate 3 (refine wpl_p S rfl rfl rfl ?_; clear S a; intro a S)
      refine wpl_take S rfl rfl rfl ?_
      (refine wpl_p S rfl rfl rfl ?_; clear S a; intro a S)
      refine wpl_take S rfl rfl rfl ?_
      (refine wpl_v S rfl rfl rfl (sv_lit (c := false) (sv_pure S rfl) (by first | (simp; omega) | trace_state)) ?_; clear S a; intro a S)
      refine wpl_take S rfl rfl rfl ?_
      (refine wpl_p S rfl rfl rfl ?_; clear S a; intro a S)
      iterate 2 (refine wpl_skip S rfl rfl rfl rfl rfl ?_; clear S a; intro a S)
      refine wpl_take S rfl rfl rfl ?_
      iterate 3 (refine wpl_p S rfl rfl rfl ?_; clear S a; intro a S)
      refine wpl_take S rfl rfl rfl ?_
      (refine wpl_p S rfl rfl rfl ?_; clear S a; intro a S)
      refine wpl_take S rfl rfl rfl ?_
      (refine wpl_v S rfl rfl rfl (sv_lit (c := false) (sv_pure S rfl) (by first | (simp; omega) | trace_state)) ?_; clear S a; intro a S)
      refine wpl_take S rfl rfl rfl ?_
      (refine wpl_p S rfl rfl rfl ?_; clear S a; intro a S)
      iterate 2 (refine wpl_skip S rfl rfl rfl rfl rfl ?_; clear S a; intro a S)
      refine wpl_take S rfl rfl rfl ?_
      (refine wpl_p S rfl rfl rfl ?_; clear S a; intro a S)
      refine wpl_take S rfl rfl rfl ?_
      (refine wpl_p S rfl rfl rfl ?_; clear S a; intro a S)
      iterate 2 (refine wpl_skip S rfl rfl rfl rfl rfl ?_; clear S a; intro a S)
      refine wpl_take S rfl rfl rfl ?_
      iterate 2 (refine wpl_p S rfl rfl rfl ?_; clear S a; intro a S)
      (refine wpList_nil (hKq13 _ _ ?_); try clear hKq13 Kq13)
      refine wpc_false S rfl ?_
      refine wp_skip ?_
      (refine hKq8 _ _ ?_; try (clear hKq8 Kq8))
      refine wp_region_lit ?_
      (refine wpl_a S rfl rfl rfl ?_; clear S a; intro a S)
      (refine wpl_p S rfl rfl rfl ?_; clear S a; intro a S)
      refine wpList_nil ?_
      change ∃ m', _ ∧ _
      (replace S := S.drop1.drop1.drop1; refine ⟨5 - (k + 1), by omega, k + 1, F101, rfl, by omega, hF3, ?_⟩; refine S.keep ?_; repeat (first | exact trivial | refine ⟨rfl, ?_⟩))
    (intro h; clear S a; intro a S; (try simp only [tq] at h))
    iterate 2 (refine wpl_skip S rfl rfl rfl rfl rfl ?_; clear S a; intro a S)
    iterate 4 (refine wpl_skipU S rfl rfl rfl rfl rfl ?_; clear S a; intro a S)
    (refine wpl_skip S rfl rfl rfl rfl rfl ?_; clear S a; intro a S)
    iterate 2 (refine wpl_p S rfl rfl rfl ?_; clear S a; intro a S)
    refine wpl_take S rfl rfl rfl ?_
    (refine wpl_p S rfl rfl rfl ?_; clear S a; intro a S)
    refine wpl_take S rfl rfl rfl ?_
    (refine wpl_p S rfl rfl rfl ?_; clear S a; intro a S)
    refine wpl_take S rfl rfl rfl ?_
    (refine wpl_p S rfl rfl rfl ?_; clear S a; intro a S)
    refine wpl_guard S rfl rfl rfl rfl rfl ?_ ?_
    · (intro h S'; clear S; have S := S'; clear S'; (try simp only [tq] at h))
      (refine wpl_p S rfl rfl rfl ?_; clear S a; intro a S)
      refine wpl_take S rfl rfl rfl ?_
      (refine wpl_v S rfl rfl rfl (sv_lit (c := false) (sv_pure S rfl) (by first | (simp; omega) | trace_state)) ?_; clear S a; intro a S)
      refine wpl_take S rfl rfl rfl ?_
      iterate 3 (refine wpl_p S rfl rfl rfl ?_; clear S a; intro a S)
      refine wpl_take S rfl rfl rfl ?_
      (refine wpl_p S rfl rfl rfl ?_; clear S a; intro a S)
      refine wpl_take S rfl rfl rfl ?_
      (refine wpl_v S rfl rfl rfl (sv_lit (c := false) (sv_pure S rfl) (by first | (simp; omega) | trace_state)) ?_; clear S a; intro a S)
      refine wpl_take S rfl rfl rfl ?_
      (refine wpl_p S rfl rfl rfl ?_; clear S a; intro a S)
      iterate 2 (refine wpl_skip S rfl rfl rfl rfl rfl ?_; clear S a; intro a S)
      refine wpl_take S rfl rfl rfl ?_
      iterate 3 (refine wpl_p S rfl rfl rfl ?_; clear S a; intro a S)
      refine wpl_take S rfl rfl rfl ?_
      (refine wpl_p S rfl rfl rfl ?_; clear S a; intro a S)
      refine wpl_take S rfl rfl rfl ?_
      (refine wpl_v S rfl rfl rfl (sv_lit (c := true) (sv_pure S rfl) (by first | (simp; omega) | trace_state)) ?_; clear S a; intro a S)
      refine wpl_take S rfl rfl rfl ?_
      (refine wpl_p S rfl rfl rfl ?_; clear S a; intro a S)
      refine wpl_take S rfl rfl rfl ?_
      (refine wpl_p S rfl rfl rfl ?_; clear S a; intro a S)
      refine wpl_take S rfl rfl rfl ?_
      (refine wpl_v S rfl rfl rfl (sv_lit (c := false) (sv_pure S rfl) (by first | (simp; omega) | trace_state)) ?_; clear S a; intro a S)
      refine wpl_take S rfl rfl rfl ?_
      (refine wpl_p S rfl rfl rfl ?_; clear S a; intro a S)
      refine wpl_take S rfl rfl rfl ?_
      (refine wpl_p S rfl rfl rfl ?_; clear S a; intro a S)
      iterate 2 (refine wpl_skip S rfl rfl rfl rfl rfl ?_; clear S a; intro a S)
      refine wpl_take S rfl rfl rfl ?_
      iterate 2 (refine wpl_p S rfl rfl rfl ?_; clear S a; intro a S)
      (refine wpList_nil (hKq13 _ _ ?_); try clear hKq13 Kq13)
      refine wpc_false S rfl ?_
      refine wp_skip ?_
      (refine hKq8 _ _ ?_; try (clear hKq8 Kq8))
      refine wp_region_lit ?_
      (refine wpl_a S rfl rfl rfl ?_; clear S a; intro a S)
      (refine wpl_p S rfl rfl rfl ?_; clear S a; intro a S)
      refine wpList_nil ?_
      change ∃ m', _ ∧ _
      (replace S := S.drop1.drop1.drop1; refine ⟨5 - (k + 1), by omega, k + 1, F101, rfl, by omega, hF3, ?_⟩; refine S.keep ?_; repeat (first | exact trivial | refine ⟨rfl, ?_⟩))
    (intro h; clear S a; intro a S; (try simp only [tq] at h))
    (refine wpl_skip S rfl rfl rfl rfl rfl ?_; clear S a; intro a S)
    refine wpl_take S rfl rfl rfl ?_
    iterate 3 (refine wpl_p S rfl rfl rfl ?_; clear S a; intro a S)
    refine wpl_take S rfl rfl rfl ?_
    (refine wpl_p S rfl rfl rfl ?_; clear S a; intro a S)
    refine wpl_take S rfl rfl rfl ?_
    (refine wpl_p S rfl rfl rfl ?_; clear S a; intro a S)
    refine wpl_take S rfl rfl rfl ?_
    (refine wpl_p S rfl rfl rfl ?_; clear S a; intro a S)
    refine wpl_guard S rfl rfl rfl rfl rfl ?_ ?_
    · (intro h S'; clear S; have S := S'; clear S'; (try simp only [tq] at h))
      (refine wpl_p S rfl rfl rfl ?_; clear S a; intro a S)
      refine wpl_take S rfl rfl rfl ?_
      (refine wpl_v S rfl rfl rfl (sv_lit (c := false) (sv_pure S rfl) (by first | (simp; omega) | trace_state)) ?_; clear S a; intro a S)
      refine wpl_take S rfl rfl rfl ?_
      iterate 3 (refine wpl_p S rfl rfl rfl ?_; clear S a; intro a S)
      refine wpl_take S rfl rfl rfl ?_
      (refine wpl_p S rfl rfl rfl ?_; clear S a; intro a S)
      refine wpl_take S rfl rfl rfl ?_
      (refine wpl_v S rfl rfl rfl (sv_lit (c := true) (sv_pure S rfl) (by first | (simp; omega) | trace_state)) ?_; clear S a; intro a S)
      refine wpl_take S rfl rfl rfl ?_
      (refine wpl_p S rfl rfl rfl ?_; clear S a; intro a S)
      refine wpl_take S rfl rfl rfl ?_
      (refine wpl_p S rfl rfl rfl ?_; clear S a; intro a S)
      refine wpl_take S rfl rfl rfl ?_
      (refine wpl_v S rfl rfl rfl (sv_lit (c := true) (sv_pure S rfl) (by first | (simp; omega) | trace_state)) ?_; clear S a; intro a S)
      refine wpl_take S rfl rfl rfl ?_
      (refine wpl_p S rfl rfl rfl ?_; clear S a; intro a S)
      refine wpl_take S rfl rfl rfl ?_
      (refine wpl_p S rfl rfl rfl ?_; clear S a; intro a S)
      refine wpl_take S rfl rfl rfl ?_
      (refine wpl_p S rfl rfl rfl ?_; clear S a; intro a S)
      refine wpl_take S rfl rfl rfl ?_
      (refine wpl_v S rfl rfl rfl (sv_lit (c := false) (sv_pure S rfl) (by first | (simp; omega) | trace_state)) ?_; clear S a; intro a S)
      refine wpl_take S rfl rfl rfl ?_
      iterate 2 (refine wpl_p S rfl rfl rfl ?_; clear S a; intro a S)
      (refine wpList_nil (hKq13 _ _ ?_); try clear hKq13 Kq13)
      refine wpc_false S rfl ?_
      refine wp_skip ?_
      (refine hKq8 _ _ ?_; try (clear hKq8 Kq8))
      refine wp_region_lit ?_
      (refine wpl_a S rfl rfl rfl ?_; clear S a; intro a S)
      (refine wpl_p S rfl rfl rfl ?_; clear S a; intro a S)
      refine wpList_nil ?_
      change ∃ m', _ ∧ _
      (replace S := S.drop1.drop1.drop1; refine ⟨5 - (k + 1), by omega, k + 1, F101, rfl, by omega, hF3, ?_⟩; refine S.keep ?_; repeat (first | exact trivial | refine ⟨rfl, ?_⟩))
    (intro h; clear S a; intro a S; (try simp only [tq] at h))
    (refine wpl_skip S rfl rfl rfl rfl rfl ?_; clear S a; intro a S)
    refine wpl_take S rfl rfl rfl ?_
    iterate 3 (refine wpl_p S rfl rfl rfl ?_; clear S a; intro a S)
    refine wpl_take S rfl rfl rfl ?_
    (refine wpl_p S rfl rfl rfl ?_; clear S a; intro a S)
    refine wpl_take S rfl rfl rfl ?_
    (refine wpl_v S rfl rfl rfl (sv_lit (c := true) (sv_pure S rfl) (by first | (simp; omega) | trace_state)) ?_; clear S a; intro a S)
    refine wpl_take S rfl rfl rfl ?_
    (refine wpl_p S rfl rfl rfl ?_; clear S a; intro a S)
    refine wpl_take S rfl rfl rfl ?_
    (refine wpl_p S rfl rfl rfl ?_; clear S a; intro a S)
    refine wpl_take S rfl rfl rfl ?_
    (refine wpl_v S rfl rfl rfl (sv_lit (c := true) (sv_pure S rfl) (by first | (simp; omega) | trace_state)) ?_; clear S a; intro a S)
    refine wpl_take S rfl rfl rfl ?_
    (refine wpl_p S rfl rfl rfl ?_; clear S a; intro a S)
    refine wpl_take S rfl rfl rfl ?_
    (refine wpl_p S rfl rfl rfl ?_; clear S a; intro a S)
    refine wpl_take S rfl rfl rfl ?_
    (refine wpl_p S rfl rfl rfl ?_; clear S a; intro a S)
    refine wpl_take S rfl rfl rfl ?_
    (refine wpl_v S rfl rfl rfl (sv_lit (c := false) (sv_pure S rfl) (by first | (simp; omega) | trace_state)) ?_; clear S a; intro a S)
    refine wpl_take S rfl rfl rfl ?_
    iterate 2 (refine wpl_p S rfl rfl rfl ?_; clear S a; intro a S)
    (refine wpList_nil (hKq13 _ _ ?_); try clear hKq13 Kq13)
    refine wpc_false S rfl ?_
    refine wp_skip ?_
    (refine hKq8 _ _ ?_; try (clear hKq8 Kq8))
    refine wp_region_lit ?_
    (refine wpl_a S rfl rfl rfl ?_; clear S a; intro a S)
    (refine wpl_p S rfl rfl rfl ?_; clear S a; intro a S)
    refine wpList_nil ?_
    change ∃ m', _ ∧ _
    (replace S := S.drop1.drop1.drop1; refine ⟨5 - (k + 1), by omega, k + 1, F101, rfl, by omega, hF3, ?_⟩; refine S.keep ?_; repeat (first | exact trivial | refine ⟨rfl, ?_⟩))
  (skip; (try simp only [tq] at h))
  refine wp_exit ?_
  (refine hKq4 _ _ ?_; try (clear hKq4 Kq4))
  refine wp_sr fun Kq8 hKq8 => ?_
  (refine wpl_p S rfl rfl rfl ?_; clear S a; intro a S)
  (refine wpl_callF S rfl rfl rfl rfl rfl rfl (lnumCt F3 _) rfl ?_; clear S a; intro v146 F146 a w hv hF146 S; obtain ⟨c146, rfl, -, r146⟩ := hv; obtain ⟨xa146, xb146, he146, -, -⟩ := vac_slc (ror_vac r146); subst he146; replace hF3 := fun b o h => hF146 b o (hF3 b o h))
  (refine wpl_callF S rfl rfl rfl rfl rfl rfl (llitCt F146 _ _ r146) rfl ?_; clear S a; intro v147 F147 a w hv hF147 S; obtain ⟨c147, rfl, -, r147⟩ := hv; obtain ⟨xa147, xb147, xc147, xd147, xe147, he147, -, -⟩ := exc_slc (ror_exc r147); subst he147; replace hF3 := fun b o h => hF147 b o (hF3 b o h))
  (refine wpl_alloc S rfl rfl rfl rfl ?_; clear S a; intro b23 a w S)
  (refine wpl_storeO S rfl rfl rfl rfl rfl (by rfl) (by simp [Value.cells, Value.oneCell', splice]) (by rfl) ?_; clear S; intro w S)
  (refine wpList_nil (hKq8 _ _ (wp_sr fun Kq9 hKq9 => ?_)); try clear hKq8 Kq8)
  (refine wpl_p S rfl rfl rfl ?_; clear S a; intro a S)
  (refine wpl_callF S rfl rfl rfl rfl rfl rfl (lnumCt F147 _) rfl ?_; clear S a; intro v149 F149 a w hv hF149 S; obtain ⟨c149, rfl, -, r149⟩ := hv; obtain ⟨xa149, xb149, he149, -, -⟩ := vac_slc (ror_vac r149); subst he149; replace hF3 := fun b o h => hF149 b o (hF3 b o h))
  (refine wpl_callF S rfl rfl rfl rfl rfl rfl (llitCt F149 _ _ r149) rfl ?_; clear S a; intro v150 F150 a w hv hF150 S; obtain ⟨c150, rfl, -, r150⟩ := hv; obtain ⟨xa150, xb150, xc150, xd150, xe150, he150, -, -⟩ := exc_slc (ror_exc r150); subst he150; replace hF3 := fun b o h => hF150 b o (hF3 b o h))
  (refine wpl_alloc S rfl rfl rfl rfl ?_; clear S a; intro b24 a w S)
  (refine wpl_storeO S rfl rfl rfl rfl rfl (by rfl) (by simp [Value.cells, Value.oneCell', splice]) (by rfl) ?_; clear S; intro w S)
  (refine wpList_nil (hKq9 _ _ (wp_sr fun Kq10 hKq10 => ?_)); try clear hKq9 Kq9)
  (refine wpl_p S rfl rfl rfl ?_; clear S a; intro a S)
  (refine wpl_callF S rfl rfl rfl rfl rfl rfl (lnumCt F150 _) rfl ?_; clear S a; intro v152 F152 a w hv hF152 S; obtain ⟨c152, rfl, -, r152⟩ := hv; obtain ⟨xa152, xb152, he152, -, -⟩ := vac_slc (ror_vac r152); subst he152; replace hF3 := fun b o h => hF152 b o (hF3 b o h))
  (refine wpl_callF S rfl rfl rfl rfl rfl rfl (llitCt F152 _ _ r152) rfl ?_; clear S a; intro v153 F153 a w hv hF153 S; obtain ⟨c153, rfl, -, r153⟩ := hv; obtain ⟨xa153, xb153, xc153, xd153, xe153, he153, -, -⟩ := exc_slc (ror_exc r153); subst he153; replace hF3 := fun b o h => hF153 b o (hF3 b o h))
  (refine wpl_alloc S rfl rfl rfl rfl ?_; clear S a; intro b25 a w S)
  (refine wpl_storeO S rfl rfl rfl rfl rfl (by rfl) (by simp [Value.cells, Value.oneCell', splice]) (by rfl) ?_; clear S; intro w S)
  (refine wpList_nil (hKq10 _ _ (wp_sr fun Kq11 hKq11 => ?_)); try clear hKq10 Kq10)
  (refine wpl_p S rfl rfl rfl ?_; clear S a; intro a S)
  (refine wpl_callF S rfl rfl rfl rfl rfl rfl (ltruthCt F153 _) rfl ?_; clear S a; intro v155 F155 a w hv hF155 S; obtain ⟨c155, rfl, -, r155⟩ := hv; obtain ⟨xa155, xb155, he155, -, -⟩ := vac_slc (ror_vac r155); subst he155; replace hF3 := fun b o h => hF155 b o (hF3 b o h))
  (refine wpl_callF S rfl rfl rfl rfl rfl rfl (llitCt F155 _ _ r155) rfl ?_; clear S a; intro v156 F156 a w hv hF156 S; obtain ⟨c156, rfl, -, r156⟩ := hv; obtain ⟨xa156, xb156, xc156, xd156, xe156, he156, -, -⟩ := exc_slc (ror_exc r156); subst he156; replace hF3 := fun b o h => hF156 b o (hF3 b o h))
  (refine wpl_alloc S rfl rfl rfl rfl ?_; clear S a; intro b26 a w S)
  (refine wpl_storeO S rfl rfl rfl rfl rfl (by rfl) (by simp [Value.cells, Value.oneCell', splice]) (by rfl) ?_; clear S; intro w S)
  (refine wpList_nil (hKq11 _ _ (wp_sr fun Kq12 hKq12 => ?_)); try clear hKq11 Kq11)
  (refine wpl_p S rfl rfl rfl ?_; clear S a; intro a S)
  (refine wpl_callF S rfl rfl rfl rfl rfl rfl (ltruthCt F156 _) rfl ?_; clear S a; intro v158 F158 a w hv hF158 S; obtain ⟨c158, rfl, -, r158⟩ := hv; obtain ⟨xa158, xb158, he158, -, -⟩ := vac_slc (ror_vac r158); subst he158; replace hF3 := fun b o h => hF158 b o (hF3 b o h))
  (refine wpl_callF S rfl rfl rfl rfl rfl rfl (llitCt F158 _ _ r158) rfl ?_; clear S a; intro v159 F159 a w hv hF159 S; obtain ⟨c159, rfl, -, r159⟩ := hv; obtain ⟨xa159, xb159, xc159, xd159, xe159, he159, -, -⟩ := exc_slc (ror_exc r159); subst he159; replace hF3 := fun b o h => hF159 b o (hF3 b o h))
  (refine wpl_alloc S rfl rfl rfl rfl ?_; clear S a; intro b27 a w S)
  (refine wpl_storeO S rfl rfl rfl rfl rfl (by rfl) (by simp [Value.cells, Value.oneCell', splice]) (by rfl) ?_; clear S; intro w S)
  (refine wpList_nil (hKq12 _ _ (wp_sr fun Kq13 hKq13 => ?_)); try clear hKq12 Kq12)
  (refine wpl_p S rfl rfl rfl ?_; clear S a; intro a S)
  (refine wpl_callF S rfl rfl rfl rfl rfl rfl (ltextCt F159 _ (Nat.le_trans hs (by decide))) rfl ?_; clear S a; intro v161 F161 a w hv hF161 S; obtain ⟨c161, rfl, -, r161⟩ := hv; obtain ⟨xa161, xb161, he161, -, -⟩ := vac_slc (ror_vac r161); subst he161; replace hF3 := fun b o h => hF161 b o (hF3 b o h))
  (refine wpl_callF S rfl rfl rfl rfl rfl rfl (llitCt F161 _ _ r161) rfl ?_; clear S a; intro v162 F162 a w hv hF162 S; obtain ⟨c162, rfl, -, r162⟩ := hv; obtain ⟨xa162, xb162, xc162, xd162, xe162, he162, -, -⟩ := exc_slc (ror_exc r162); subst he162; replace hF3 := fun b o h => hF162 b o (hF3 b o h))
  (refine wpl_alloc S rfl rfl rfl rfl ?_; clear S a; intro b28 a w S)
  (refine wpl_storeO S rfl rfl rfl rfl rfl (by rfl) (by simp [Value.cells, Value.oneCell', splice]) (by rfl) ?_; clear S; intro w S)
  (refine wpList_nil (hKq13 _ _ (wp_sr fun Kq14 hKq14 => ?_)); try clear hKq13 Kq13)
  (refine wpl_p S rfl rfl rfl ?_; clear S a; intro a S)
  (refine wpl_callF S rfl rfl rfl rfl rfl rfl (ltextCt F162 _ (Nat.le_trans ht (by decide))) rfl ?_; clear S a; intro v164 F164 a w hv hF164 S; obtain ⟨c164, rfl, -, r164⟩ := hv; obtain ⟨xa164, xb164, he164, -, -⟩ := vac_slc (ror_vac r164); subst he164; replace hF3 := fun b o h => hF164 b o (hF3 b o h))
  (refine wpl_callF S rfl rfl rfl rfl rfl rfl (llitCt F164 _ _ r164) rfl ?_; clear S a; intro v165 F165 a w hv hF165 S; obtain ⟨c165, rfl, -, r165⟩ := hv; obtain ⟨xa165, xb165, xc165, xd165, xe165, he165, -, -⟩ := exc_slc (ror_exc r165); subst he165; replace hF3 := fun b o h => hF165 b o (hF3 b o h))
  (refine wpl_alloc S rfl rfl rfl rfl ?_; clear S a; intro b29 a w S)
  (refine wpl_storeO S rfl rfl rfl rfl rfl (by rfl) (by simp [Value.cells, Value.oneCell', splice]) (by rfl) ?_; clear S; intro w S)
  (refine wpList_nil (hKq14 _ _ (wp_seq_k fun Kq15 hKq15 => ?_)); try clear hKq14 Kq14)
  (refine wp_seq_k ?_; intro Kq16 hKq16)
  ((have S' := frz1 S; clear S; obtain ⟨Fz29, hFz29, hb29, S⟩ := S'); (replace hF3 := fun b o h => hFz29 b o (hF3 b o h)); (have S' := frz1 S; clear S; obtain ⟨Fz28, hFz28, hb28, S⟩ := S'); (replace hF3 := fun b o h => hFz28 b o (hF3 b o h)); (have S' := frz1 S; clear S; obtain ⟨Fz27, hFz27, hb27, S⟩ := S'); (replace hF3 := fun b o h => hFz27 b o (hF3 b o h)); (have S' := frz1 S; clear S; obtain ⟨Fz26, hFz26, hb26, S⟩ := S'); (replace hF3 := fun b o h => hFz26 b o (hF3 b o h)); (have S' := frz1 S; clear S; obtain ⟨Fz25, hFz25, hb25, S⟩ := S'); (replace hF3 := fun b o h => hFz25 b o (hF3 b o h)); (have S' := frz1 S; clear S; obtain ⟨Fz24, hFz24, hb24, S⟩ := S'); (replace hF3 := fun b o h => hFz24 b o (hF3 b o h)); (have S' := frz1 S; clear S; obtain ⟨Fz23, hFz23, hb23, S⟩ := S'); (replace hF3 := fun b o h => hFz23 b o (hF3 b o h)); (have c23 : Cels Fz23 b23 0 (exl (litX (intV i1)) xa147 xb147 xc147 xd147 xe147) := Cels.mono (fun _ _ h => h) (cels_of (show Fz23 b23 = some (.cells ⟨(exl (litX (intV i1)) xa147 xb147 xc147 xd147 xe147)⟩ _ (0, 0)) from hb23))); (have k23 : ReR Fz23 (litX (intV i1)) (exl (litX (intV i1)) xa147 xb147 xc147 xd147 xe147) := Mon.h (fun b o h => hFz23 _ _ (hFz24 _ _ (hFz25 _ _ (hFz26 _ _ (hFz27 _ _ (hFz28 _ _ (hFz29 _ _ (hF165 _ _ (hF164 _ _ (hF162 _ _ (hF161 _ _ (hF159 _ _ (hF158 _ _ (hF156 _ _ (hF155 _ _ (hF153 _ _ (hF152 _ _ (hF150 _ _ (hF149 _ _ h))))))))))))))))))) r147); (have c24 : Cels Fz23 b24 0 (exl (litX (intV i2)) xa150 xb150 xc150 xd150 xe150) := Cels.mono (fun b o h => hFz23 _ _ h) (cels_of (show Fz24 b24 = some (.cells ⟨(exl (litX (intV i2)) xa150 xb150 xc150 xd150 xe150)⟩ _ (0, 0)) from hb24))); (have k24 : ReR Fz23 (litX (intV i2)) (exl (litX (intV i2)) xa150 xb150 xc150 xd150 xe150) := Mon.h (fun b o h => hFz23 _ _ (hFz24 _ _ (hFz25 _ _ (hFz26 _ _ (hFz27 _ _ (hFz28 _ _ (hFz29 _ _ (hF165 _ _ (hF164 _ _ (hF162 _ _ (hF161 _ _ (hF159 _ _ (hF158 _ _ (hF156 _ _ (hF155 _ _ (hF153 _ _ (hF152 _ _ h))))))))))))))))) r150); (have c25 : Cels Fz23 b25 0 (exl (litX (intV i3)) xa153 xb153 xc153 xd153 xe153) := Cels.mono (fun b o h => hFz23 _ _ (hFz24 _ _ h)) (cels_of (show Fz25 b25 = some (.cells ⟨(exl (litX (intV i3)) xa153 xb153 xc153 xd153 xe153)⟩ _ (0, 0)) from hb25))); (have k25 : ReR Fz23 (litX (intV i3)) (exl (litX (intV i3)) xa153 xb153 xc153 xd153 xe153) := Mon.h (fun b o h => hFz23 _ _ (hFz24 _ _ (hFz25 _ _ (hFz26 _ _ (hFz27 _ _ (hFz28 _ _ (hFz29 _ _ (hF165 _ _ (hF164 _ _ (hF162 _ _ (hF161 _ _ (hF159 _ _ (hF158 _ _ (hF156 _ _ (hF155 _ _ h))))))))))))))) r153); (have c26 : Cels Fz23 b26 0 (exl (litX (boolV vp)) xa156 xb156 xc156 xd156 xe156) := Cels.mono (fun b o h => hFz23 _ _ (hFz24 _ _ (hFz25 _ _ h))) (cels_of (show Fz26 b26 = some (.cells ⟨(exl (litX (boolV vp)) xa156 xb156 xc156 xd156 xe156)⟩ _ (0, 0)) from hb26))); (have k26 : ReR Fz23 (litX (boolV vp)) (exl (litX (boolV vp)) xa156 xb156 xc156 xd156 xe156) := Mon.h (fun b o h => hFz23 _ _ (hFz24 _ _ (hFz25 _ _ (hFz26 _ _ (hFz27 _ _ (hFz28 _ _ (hFz29 _ _ (hF165 _ _ (hF164 _ _ (hF162 _ _ (hF161 _ _ (hF159 _ _ (hF158 _ _ h))))))))))))) r156); (have c27 : Cels Fz23 b27 0 (exl (litX (boolV vq)) xa159 xb159 xc159 xd159 xe159) := Cels.mono (fun b o h => hFz23 _ _ (hFz24 _ _ (hFz25 _ _ (hFz26 _ _ h)))) (cels_of (show Fz27 b27 = some (.cells ⟨(exl (litX (boolV vq)) xa159 xb159 xc159 xd159 xe159)⟩ _ (0, 0)) from hb27))); (have k27 : ReR Fz23 (litX (boolV vq)) (exl (litX (boolV vq)) xa159 xb159 xc159 xd159 xe159) := Mon.h (fun b o h => hFz23 _ _ (hFz24 _ _ (hFz25 _ _ (hFz26 _ _ (hFz27 _ _ (hFz28 _ _ (hFz29 _ _ (hF165 _ _ (hF164 _ _ (hF162 _ _ (hF161 _ _ h))))))))))) r159); (have c28 : Cels Fz23 b28 0 (exl (litX (textV s)) xa162 xb162 xc162 xd162 xe162) := Cels.mono (fun b o h => hFz23 _ _ (hFz24 _ _ (hFz25 _ _ (hFz26 _ _ (hFz27 _ _ h))))) (cels_of (show Fz28 b28 = some (.cells ⟨(exl (litX (textV s)) xa162 xb162 xc162 xd162 xe162)⟩ _ (0, 0)) from hb28))); (have k28 : ReR Fz23 (litX (textV s)) (exl (litX (textV s)) xa162 xb162 xc162 xd162 xe162) := Mon.h (fun b o h => hFz23 _ _ (hFz24 _ _ (hFz25 _ _ (hFz26 _ _ (hFz27 _ _ (hFz28 _ _ (hFz29 _ _ (hF165 _ _ (hF164 _ _ h))))))))) r162); (have c29 : Cels Fz23 b29 0 (exl (litX (textV t)) xa165 xb165 xc165 xd165 xe165) := Cels.mono (fun b o h => hFz23 _ _ (hFz24 _ _ (hFz25 _ _ (hFz26 _ _ (hFz27 _ _ (hFz28 _ _ h)))))) (cels_of (show Fz29 b29 = some (.cells ⟨(exl (litX (textV t)) xa165 xb165 xc165 xd165 xe165)⟩ _ (0, 0)) from hb29))); (have k29 : ReR Fz23 (litX (textV t)) (exl (litX (textV t)) xa165 xb165 xc165 xd165 xe165) := Mon.h (fun b o h => hFz23 _ _ (hFz24 _ _ (hFz25 _ _ (hFz26 _ _ (hFz27 _ _ (hFz28 _ _ (hFz29 _ _ h))))))) r165))
  refine wpc_facts (L0 := [(23, ptr b23), (24, ptr b24), (25, ptr b25), (26, ptr b26), (27, ptr b27), (28, ptr b28), (29, ptr b29)]) epD (epP i1 i2 i3 s t vp vq) (S.keep ⟨rfl, rfl, rfl, rfl, rfl, rfl, rfl, trivial⟩) mixed (by kernel_rfl) ?_ ?_
  · (clear S)
    refine ⟨dy_load c23 k23, ?_⟩
    refine ⟨dy_load c24 k24, ?_⟩
    refine ⟨dy_sl2 (e := 34) 0 1, ?_⟩
    refine ⟨dy_call 2, ?_⟩
    refine ⟨dy_load c24 k24, ?_⟩
    refine ⟨dy_load c23 k23, ?_⟩
    refine ⟨dy_sl2 (e := 34) 4 5, ?_⟩
    refine ⟨dy_call 6, ?_⟩
    refine ⟨dy_sl2 (e := 34) 3 7, ?_⟩
    refine ⟨dy_load c23 k23, ?_⟩
    refine ⟨dy_load c24 k24, ?_⟩
    refine ⟨dy_sl2 (e := 34) 9 10, ?_⟩
    refine ⟨dy_call 11, ?_⟩
    refine ⟨dy_load c24 k24, ?_⟩
    refine ⟨dy_load c23 k23, ?_⟩
    refine ⟨dy_sl2 (e := 34) 13 14, ?_⟩
    refine ⟨dy_call 15, ?_⟩
    refine ⟨dy_sl2 (e := 34) 12 16, ?_⟩
    refine ⟨dy_load c23 k23, ?_⟩
    refine ⟨dy_load c24 k24, ?_⟩
    refine ⟨dy_load c25 k25, ?_⟩
    refine ⟨dy_sl2 (e := 34) 19 20, ?_⟩
    refine ⟨dy_call 21, ?_⟩
    refine ⟨dy_sl2 (e := 34) 18 22, ?_⟩
    refine ⟨dy_call 23, ?_⟩
    refine ⟨dy_load c23 k23, ?_⟩
    refine ⟨dy_load c24 k24, ?_⟩
    refine ⟨dy_sl2 (e := 34) 25 26, ?_⟩
    refine ⟨dy_call 27, ?_⟩
    refine ⟨dy_load c23 k23, ?_⟩
    refine ⟨dy_load c25 k25, ?_⟩
    refine ⟨dy_sl2 (e := 34) 29 30, ?_⟩
    refine ⟨dy_call 31, ?_⟩
    refine ⟨dy_sl2 (e := 34) 28 32, ?_⟩
    refine ⟨dy_call 33, ?_⟩
    refine ⟨dy_sl2 (e := 34) 24 34, ?_⟩
    refine ⟨dy_load c23 k23, ?_⟩
    refine ⟨dy_load c24 k24, ?_⟩
    refine ⟨dy_sl2 (e := 34) 36 37, ?_⟩
    refine ⟨dy_call 38, ?_⟩
    refine ⟨dy_load c24 k24, ?_⟩
    refine ⟨dy_load c23 k23, ?_⟩
    refine ⟨dy_sl2 (e := 34) 40 41, ?_⟩
    refine ⟨dy_call 42, ?_⟩
    refine ⟨dy_sl1 (e := 34) 43, ?_⟩
    refine ⟨dy_call 44, ?_⟩
    refine ⟨dy_sl2 (e := 34) 39 45, ?_⟩
    refine ⟨dy_load c23 k23, ?_⟩
    refine ⟨dy_load c24 k24, ?_⟩
    refine ⟨dy_sl2 (e := 34) 47 48, ?_⟩
    refine ⟨dy_call 49, ?_⟩
    refine ⟨dy_load c24 k24, ?_⟩
    refine ⟨dy_sl2 (e := 34) 50 51, ?_⟩
    refine ⟨dy_call 52, ?_⟩
    refine ⟨dy_load c23 k23, ?_⟩
    refine ⟨dy_load c24 k24, ?_⟩
    refine ⟨dy_sl2 (e := 34) 54 55, ?_⟩
    refine ⟨dy_call 56, ?_⟩
    refine ⟨dy_sl2 (e := 34) 53 57, ?_⟩
    refine ⟨dy_call 58, ?_⟩
    refine ⟨dy_load c23 k23, ?_⟩
    refine ⟨dy_sl2 (e := 34) 59 60, ?_⟩
    refine ⟨dy_load c26 k26, ?_⟩
    refine ⟨dy_load c27 k27, ?_⟩
    refine ⟨dy_sl2 (e := 34) 62 63, ?_⟩
    refine ⟨dy_call 64, ?_⟩
    refine ⟨dy_sl1 (e := 34) 65, ?_⟩
    refine ⟨dy_call 66, ?_⟩
    refine ⟨dy_load c26 k26, ?_⟩
    refine ⟨dy_sl1 (e := 34) 68, ?_⟩
    refine ⟨dy_call 69, ?_⟩
    refine ⟨dy_load c27 k27, ?_⟩
    refine ⟨dy_sl1 (e := 34) 71, ?_⟩
    refine ⟨dy_call 72, ?_⟩
    refine ⟨dy_sl2 (e := 34) 70 73, ?_⟩
    refine ⟨dy_call 74, ?_⟩
    refine ⟨dy_sl2 (e := 34) 67 75, ?_⟩
    refine ⟨dy_load c23 k23, ?_⟩
    refine ⟨dy_load c24 k24, ?_⟩
    refine ⟨dy_sl2 (e := 34) 77 78, ?_⟩
    refine ⟨dy_call 79, ?_⟩
    refine ⟨dy_load c24 k24, ?_⟩
    refine ⟨dy_load c23 k23, ?_⟩
    refine ⟨dy_sl2 (e := 34) 81 82, ?_⟩
    refine ⟨dy_call 83, ?_⟩
    refine ⟨dy_sl2 (e := 34) 80 84, ?_⟩
    refine ⟨dy_load c23 k23, ?_⟩
    refine ⟨dy_load c24 k24, ?_⟩
    refine ⟨dy_sl2 (e := 34) 86 87, ?_⟩
    refine ⟨dy_call 88, ?_⟩
    refine ⟨dy_load c23 k23, ?_⟩
    refine ⟨dy_load c24 k24, ?_⟩
    refine ⟨dy_sl2 (e := 34) 90 91, ?_⟩
    refine ⟨dy_call 92, ?_⟩
    refine ⟨dy_sl1 (e := 34) 93, ?_⟩
    refine ⟨dy_call 94, ?_⟩
    refine ⟨dy_sl2 (e := 34) 89 95, ?_⟩
    refine ⟨dy_load c28 k28, ?_⟩
    refine ⟨dy_load c29 k29, ?_⟩
    refine ⟨dy_sl2 (e := 34) 97 98, ?_⟩
    refine ⟨dy_call 99, ?_⟩
    refine ⟨dy_load c28 k28, ?_⟩
    refine ⟨dy_load c29 k29, ?_⟩
    refine ⟨dy_sl2 (e := 34) 101 102, ?_⟩
    refine ⟨dy_call 103, ?_⟩
    refine ⟨dy_sl1 (e := 34) 104, ?_⟩
    refine ⟨dy_call 105, ?_⟩
    refine ⟨dy_sl2 (e := 34) 100 106, ?_⟩
    refine ⟨dy_load c28 k28, ?_⟩
    refine ⟨dy_load c29 k29, ?_⟩
    refine ⟨dy_sl2 (e := 34) 108 109, ?_⟩
    refine ⟨dy_call 110, ?_⟩
    refine ⟨dy_sl1 (e := 34) 111, ?_⟩
    refine ⟨dy_call 112, ?_⟩
    refine ⟨dy_load c28 k28, ?_⟩
    refine ⟨dy_sl1 (e := 34) 114, ?_⟩
    refine ⟨dy_call 115, ?_⟩
    refine ⟨dy_load c29 k29, ?_⟩
    refine ⟨dy_sl1 (e := 34) 117, ?_⟩
    refine ⟨dy_call 118, ?_⟩
    refine ⟨dy_sl2 (e := 34) 116 119, ?_⟩
    refine ⟨dy_call 120, ?_⟩
    refine ⟨dy_sl2 (e := 34) 113 121, ?_⟩
    refine ⟨dy_load c28 k28, ?_⟩
    refine ⟨dy_load c29 k29, ?_⟩
    refine ⟨dy_load c28 k28, ?_⟩
    refine ⟨dy_sl2 (e := 34) 124 125, ?_⟩
    refine ⟨dy_call 126, ?_⟩
    refine ⟨dy_sl2 (e := 34) 123 127, ?_⟩
    refine ⟨dy_call 128, ?_⟩
    refine ⟨dy_load c28 k28, ?_⟩
    refine ⟨dy_load c29 k29, ?_⟩
    refine ⟨dy_sl2 (e := 34) 130 131, ?_⟩
    refine ⟨dy_call 132, ?_⟩
    refine ⟨dy_load c28 k28, ?_⟩
    refine ⟨dy_sl2 (e := 34) 133 134, ?_⟩
    refine ⟨dy_call 135, ?_⟩
    refine ⟨dy_sl2 (e := 34) 129 136, ?_⟩
    refine ⟨dy_load c26 k26, ?_⟩
    refine ⟨dy_load c23 k23, ?_⟩
    refine ⟨dy_load c24 k24, ?_⟩
    refine ⟨dy_sl3 (e := 34) 138 139 140, ?_⟩
    refine ⟨?_, ?_⟩
    · rintro L F a w hF hL S ⟨h0, -⟩
      obtain ⟨v307, e307, p307⟩ := h0 rfl
      have q307 := p307; obtain ⟨oa307, oc307, rfl, -⟩ := p307
      replace S := S.keep (kp e307 kp0)
      refine stepM_of rfl ?_
      (refine wpl_b S rfl rfl rfl ?_; clear S a; intro a S)
      exact wpList_nil ⟨_, _, fun _ _ h => h, S.keep ⟨rfl, trivial⟩, ⟨_, rfl, rfl, ⟨[_, _, _, _, _, _, _, _], _, rfl, rfl, ⟨_, rfl, (TrS.nil _ _ _)⟩, q307⟩⟩⟩
    refine ⟨dy_load c26 k26, ?_⟩
    refine ⟨dy_sl1 (e := 34) 143, ?_⟩
    refine ⟨dy_call 144, ?_⟩
    refine ⟨dy_load c24 k24, ?_⟩
    refine ⟨dy_load c23 k23, ?_⟩
    refine ⟨dy_sl3 (e := 34) 145 146 147, ?_⟩
    refine ⟨?_, ?_⟩
    · rintro L F a w hF hL S ⟨h0, -⟩
      obtain ⟨v314, e314, p314⟩ := h0 rfl
      have q314 := p314; obtain ⟨oa314, oc314, rfl, -⟩ := p314
      replace S := S.keep (kp e314 kp0)
      refine stepM_of rfl ?_
      (refine wpl_b S rfl rfl rfl ?_; clear S a; intro a S)
      exact wpList_nil ⟨_, _, fun _ _ h => h, S.keep ⟨rfl, trivial⟩, ⟨_, rfl, rfl, ⟨[_, _, _, _, _, _, _, _], _, rfl, rfl, ⟨_, rfl, (TrS.nil _ _ _)⟩, q314⟩⟩⟩
    refine ⟨dy_sl2 (e := 34) 142 149, ?_⟩
    refine ⟨?_, ?_⟩
    · rintro L F a w hF hL S ⟨h0, h1, h2, h3, h4, h5, h6, h7, h8, h9, h10, h11, -⟩
      obtain ⟨v174, e174, p174⟩ := h0 rfl
      obtain ⟨v183, e183, p183⟩ := h1 rfl
      obtain ⟨v201, e201, p201⟩ := h2 rfl
      obtain ⟨v212, e212, p212⟩ := h3 rfl
      obtain ⟨v227, e227, p227⟩ := h4 rfl
      obtain ⟨v242, e242, p242⟩ := h5 rfl
      obtain ⟨v251, e251, p251⟩ := h6 rfl
      obtain ⟨v262, e262, p262⟩ := h7 rfl
      obtain ⟨v273, e273, p273⟩ := h8 rfl
      obtain ⟨v288, e288, p288⟩ := h9 rfl
      obtain ⟨v303, e303, p303⟩ := h10 rfl
      obtain ⟨v316, e316, p316⟩ := h11 rfl
      have q174 := p174; obtain ⟨oa174, oc174, rfl, -⟩ := q174
      have q183 := p183; obtain ⟨oa183, oc183, rfl, -⟩ := q183
      have q201 := p201; obtain ⟨oa201, oc201, rfl, -⟩ := q201
      have q212 := p212; obtain ⟨oa212, oc212, rfl, -⟩ := q212
      have q227 := p227; obtain ⟨oa227, oc227, rfl, -⟩ := q227
      have q242 := p242; obtain ⟨oa242, oc242, rfl, -⟩ := q242
      have q251 := p251; obtain ⟨oa251, oc251, rfl, -⟩ := q251
      have q262 := p262; obtain ⟨oa262, oc262, rfl, -⟩ := q262
      have q273 := p273; obtain ⟨oa273, oc273, rfl, -⟩ := q273
      have q288 := p288; obtain ⟨oa288, oc288, rfl, -⟩ := q288
      have q303 := p303; obtain ⟨oa303, oc303, rfl, -⟩ := q303
      have q316 := p316; obtain ⟨oa316, oc316, rfl, -⟩ := q316
      replace S := S.keep (kp e174 (kp e183 (kp e201 (kp e212 (kp e227 (kp e242 (kp e251 (kp e262 (kp e273 (kp e288 (kp e303 (kp e316 kp0))))))))))))
      refine stepM_of rfl ?_
      (refine wpl_buildSlice S rfl rfl rfl rfl rfl rfl (by rfl) (by first | (simp [Value.cells]; done) | (simp only [List.mem_cons, List.not_mem_nil, or_false, forall_eq_or_imp, forall_eq, Value.cells]; repeat' constructor) <;> assumption) rfl (by rfl) (by rfl) ?_; clear S a; intro b a w hown S; (simp only [Value.cells, List.flatMap_cons, List.flatMap_nil, List.append_nil] at S); have S' := frz1 S; clear S; obtain ⟨F', hle, hb, S⟩ := S')
      exact wpList_nil ⟨_, _, hle, S.keep ⟨rfl, trivial⟩, lim_of (l := ([((.cons (callX2 [43] (litX (intV i1)) (litX (intV i2))).1 (callX2 [43] (litX (intV i1)) (litX (intV i2))).2 (.cons (callX2 [43] (litX (intV i2)) (litX (intV i1))).1 (callX2 [43] (litX (intV i2)) (litX (intV i1))).2 .nil)) : Ef), ((.cons (callX2 [42] (litX (intV i1)) (litX (intV i2))).1 (callX2 [42] (litX (intV i1)) (litX (intV i2))).2 (.cons (callX2 [42] (litX (intV i2)) (litX (intV i1))).1 (callX2 [42] (litX (intV i2)) (litX (intV i1))).2 .nil)) : Ef), ((.cons (callX2 [42] (litX (intV i1)) (callX2 [43] (litX (intV i2)) (litX (intV i3)))).1 (callX2 [42] (litX (intV i1)) (callX2 [43] (litX (intV i2)) (litX (intV i3)))).2 (.cons (callX2 [43] (callX2 [42] (litX (intV i1)) (litX (intV i2))) (callX2 [42] (litX (intV i1)) (litX (intV i3)))).1 (callX2 [43] (callX2 [42] (litX (intV i1)) (litX (intV i2))) (callX2 [42] (litX (intV i1)) (litX (intV i3)))).2 .nil)) : Ef), ((.cons (callX2 [45] (litX (intV i1)) (litX (intV i2))).1 (callX2 [45] (litX (intV i1)) (litX (intV i2))).2 (.cons (callX1 [110, 101, 103] (callX2 [45] (litX (intV i2)) (litX (intV i1)))).1 (callX1 [110, 101, 103] (callX2 [45] (litX (intV i2)) (litX (intV i1)))).2 .nil)) : Ef), ((.cons (callX2 [43] (callX2 [42] (callX2 [47] (litX (intV i1)) (litX (intV i2))) (litX (intV i2))) (callX2 [37] (litX (intV i1)) (litX (intV i2)))).1 (callX2 [43] (callX2 [42] (callX2 [47] (litX (intV i1)) (litX (intV i2))) (litX (intV i2))) (callX2 [37] (litX (intV i1)) (litX (intV i2)))).2 (.cons (litX (intV i1)).1 (litX (intV i1)).2 .nil)) : Ef), ((.cons (callX1 [110, 111, 116] (callX2 [97, 110, 100] (litX (boolV vp)) (litX (boolV vq)))).1 (callX1 [110, 111, 116] (callX2 [97, 110, 100] (litX (boolV vp)) (litX (boolV vq)))).2 (.cons (callX2 [111, 114] (callX1 [110, 111, 116] (litX (boolV vp))) (callX1 [110, 111, 116] (litX (boolV vq)))).1 (callX2 [111, 114] (callX1 [110, 111, 116] (litX (boolV vp))) (callX1 [110, 111, 116] (litX (boolV vq)))).2 .nil)) : Ef), ((.cons (callX2 [60] (litX (intV i1)) (litX (intV i2))).1 (callX2 [60] (litX (intV i1)) (litX (intV i2))).2 (.cons (callX2 [62] (litX (intV i2)) (litX (intV i1))).1 (callX2 [62] (litX (intV i2)) (litX (intV i1))).2 .nil)) : Ef), ((.cons (callX2 [60, 61] (litX (intV i1)) (litX (intV i2))).1 (callX2 [60, 61] (litX (intV i1)) (litX (intV i2))).2 (.cons (callX1 [110, 111, 116] (callX2 [62] (litX (intV i1)) (litX (intV i2)))).1 (callX1 [110, 111, 116] (callX2 [62] (litX (intV i1)) (litX (intV i2)))).2 .nil)) : Ef), ((.cons (callX2 [33, 61] (litX (textV s)) (litX (textV t))).1 (callX2 [33, 61] (litX (textV s)) (litX (textV t))).2 (.cons (callX1 [110, 111, 116] (callX2 [61, 61] (litX (textV s)) (litX (textV t)))).1 (callX1 [110, 111, 116] (callX2 [61, 61] (litX (textV s)) (litX (textV t)))).2 .nil)) : Ef), ((.cons (callX1 [108, 101, 110] (callX2 [43, 43] (litX (textV s)) (litX (textV t)))).1 (callX1 [108, 101, 110] (callX2 [43, 43] (litX (textV s)) (litX (textV t)))).2 (.cons (callX2 [43] (callX1 [108, 101, 110] (litX (textV s))) (callX1 [108, 101, 110] (litX (textV t)))).1 (callX2 [43] (callX1 [108, 101, 110] (litX (textV s))) (callX1 [108, 101, 110] (litX (textV t)))).2 .nil)) : Ef), ((.cons (callX2 [43, 43] (litX (textV s)) (callX2 [43, 43] (litX (textV t)) (litX (textV s)))).1 (callX2 [43, 43] (litX (textV s)) (callX2 [43, 43] (litX (textV t)) (litX (textV s)))).2 (.cons (callX2 [43, 43] (callX2 [43, 43] (litX (textV s)) (litX (textV t))) (litX (textV s))).1 (callX2 [43, 43] (callX2 [43, 43] (litX (textV s)) (litX (textV t))) (litX (textV s))).2 .nil)) : Ef), ((.cons (ifX (litX (boolV vp)) (litX (intV i1)) (litX (intV i2))).1 (ifX (litX (boolV vp)) (litX (intV i1)) (litX (intV i2))).2 (.cons (ifX (callX1 [110, 111, 116] (litX (boolV vp))) (litX (intV i2)) (litX (intV i1))).1 (ifX (callX1 [110, 111, 116] (litX (boolV vp))) (litX (intV i2)) (litX (intV i1))).2 .nil)) : Ef)] : List Ef)) hb (LiC.app (l := [((.cons (callX2 [43] (litX (intV i1)) (litX (intV i2))).1 (callX2 [43] (litX (intV i1)) (litX (intV i2))).2 (.cons (callX2 [43] (litX (intV i2)) (litX (intV i1))).1 (callX2 [43] (litX (intV i2)) (litX (intV i1))).2 .nil)) : Ef)]) (LiC.one rfl (⟨_, rfl, p174.mono hle⟩ : SxR _ _ [_])) (LiC.app (l := [((.cons (callX2 [42] (litX (intV i1)) (litX (intV i2))).1 (callX2 [42] (litX (intV i1)) (litX (intV i2))).2 (.cons (callX2 [42] (litX (intV i2)) (litX (intV i1))).1 (callX2 [42] (litX (intV i2)) (litX (intV i1))).2 .nil)) : Ef)]) (LiC.one rfl (⟨_, rfl, p183.mono hle⟩ : SxR _ _ [_])) (LiC.app (l := [((.cons (callX2 [42] (litX (intV i1)) (callX2 [43] (litX (intV i2)) (litX (intV i3)))).1 (callX2 [42] (litX (intV i1)) (callX2 [43] (litX (intV i2)) (litX (intV i3)))).2 (.cons (callX2 [43] (callX2 [42] (litX (intV i1)) (litX (intV i2))) (callX2 [42] (litX (intV i1)) (litX (intV i3)))).1 (callX2 [43] (callX2 [42] (litX (intV i1)) (litX (intV i2))) (callX2 [42] (litX (intV i1)) (litX (intV i3)))).2 .nil)) : Ef)]) (LiC.one rfl (⟨_, rfl, p201.mono hle⟩ : SxR _ _ [_])) (LiC.app (l := [((.cons (callX2 [45] (litX (intV i1)) (litX (intV i2))).1 (callX2 [45] (litX (intV i1)) (litX (intV i2))).2 (.cons (callX1 [110, 101, 103] (callX2 [45] (litX (intV i2)) (litX (intV i1)))).1 (callX1 [110, 101, 103] (callX2 [45] (litX (intV i2)) (litX (intV i1)))).2 .nil)) : Ef)]) (LiC.one rfl (⟨_, rfl, p212.mono hle⟩ : SxR _ _ [_])) (LiC.app (l := [((.cons (callX2 [43] (callX2 [42] (callX2 [47] (litX (intV i1)) (litX (intV i2))) (litX (intV i2))) (callX2 [37] (litX (intV i1)) (litX (intV i2)))).1 (callX2 [43] (callX2 [42] (callX2 [47] (litX (intV i1)) (litX (intV i2))) (litX (intV i2))) (callX2 [37] (litX (intV i1)) (litX (intV i2)))).2 (.cons (litX (intV i1)).1 (litX (intV i1)).2 .nil)) : Ef)]) (LiC.one rfl (⟨_, rfl, p227.mono hle⟩ : SxR _ _ [_])) (LiC.app (l := [((.cons (callX1 [110, 111, 116] (callX2 [97, 110, 100] (litX (boolV vp)) (litX (boolV vq)))).1 (callX1 [110, 111, 116] (callX2 [97, 110, 100] (litX (boolV vp)) (litX (boolV vq)))).2 (.cons (callX2 [111, 114] (callX1 [110, 111, 116] (litX (boolV vp))) (callX1 [110, 111, 116] (litX (boolV vq)))).1 (callX2 [111, 114] (callX1 [110, 111, 116] (litX (boolV vp))) (callX1 [110, 111, 116] (litX (boolV vq)))).2 .nil)) : Ef)]) (LiC.one rfl (⟨_, rfl, p242.mono hle⟩ : SxR _ _ [_])) (LiC.app (l := [((.cons (callX2 [60] (litX (intV i1)) (litX (intV i2))).1 (callX2 [60] (litX (intV i1)) (litX (intV i2))).2 (.cons (callX2 [62] (litX (intV i2)) (litX (intV i1))).1 (callX2 [62] (litX (intV i2)) (litX (intV i1))).2 .nil)) : Ef)]) (LiC.one rfl (⟨_, rfl, p251.mono hle⟩ : SxR _ _ [_])) (LiC.app (l := [((.cons (callX2 [60, 61] (litX (intV i1)) (litX (intV i2))).1 (callX2 [60, 61] (litX (intV i1)) (litX (intV i2))).2 (.cons (callX1 [110, 111, 116] (callX2 [62] (litX (intV i1)) (litX (intV i2)))).1 (callX1 [110, 111, 116] (callX2 [62] (litX (intV i1)) (litX (intV i2)))).2 .nil)) : Ef)]) (LiC.one rfl (⟨_, rfl, p262.mono hle⟩ : SxR _ _ [_])) (LiC.app (l := [((.cons (callX2 [33, 61] (litX (textV s)) (litX (textV t))).1 (callX2 [33, 61] (litX (textV s)) (litX (textV t))).2 (.cons (callX1 [110, 111, 116] (callX2 [61, 61] (litX (textV s)) (litX (textV t)))).1 (callX1 [110, 111, 116] (callX2 [61, 61] (litX (textV s)) (litX (textV t)))).2 .nil)) : Ef)]) (LiC.one rfl (⟨_, rfl, p273.mono hle⟩ : SxR _ _ [_])) (LiC.app (l := [((.cons (callX1 [108, 101, 110] (callX2 [43, 43] (litX (textV s)) (litX (textV t)))).1 (callX1 [108, 101, 110] (callX2 [43, 43] (litX (textV s)) (litX (textV t)))).2 (.cons (callX2 [43] (callX1 [108, 101, 110] (litX (textV s))) (callX1 [108, 101, 110] (litX (textV t)))).1 (callX2 [43] (callX1 [108, 101, 110] (litX (textV s))) (callX1 [108, 101, 110] (litX (textV t)))).2 .nil)) : Ef)]) (LiC.one rfl (⟨_, rfl, p288.mono hle⟩ : SxR _ _ [_])) (LiC.app (l := [((.cons (callX2 [43, 43] (litX (textV s)) (callX2 [43, 43] (litX (textV t)) (litX (textV s)))).1 (callX2 [43, 43] (litX (textV s)) (callX2 [43, 43] (litX (textV t)) (litX (textV s)))).2 (.cons (callX2 [43, 43] (callX2 [43, 43] (litX (textV s)) (litX (textV t))) (litX (textV s))).1 (callX2 [43, 43] (callX2 [43, 43] (litX (textV s)) (litX (textV t))) (litX (textV s))).2 .nil)) : Ef)]) (LiC.one rfl (⟨_, rfl, p303.mono hle⟩ : SxR _ _ [_])) (LiC.one rfl (⟨_, rfl, p316.mono hle⟩ : SxR _ _ [_]))))))))))))) (show 12 ≤ _ by decide)⟩
    refine ⟨?_, ?_⟩
    · rintro L F a w hF hL S ⟨h0, -⟩
      obtain ⟨v317, e317, p317⟩ := h0 rfl
      have q317 := p317; obtain ⟨oa317, oc317, rfl, -⟩ := p317
      replace S := S.keep (kp e317 kp0)
      refine stepM_of rfl ?_
      (refine wpl_n S rfl rfl rfl ?_; clear S a; intro a S)
      exact wpList_nil ⟨_, _, fun _ _ h => h, S.keep ⟨rfl, trivial⟩, rfl⟩
    refine ⟨?_, ?_⟩
    · rintro L F a w hF hL S -
      replace S := S.keep (kp0)
      refine stepM_of rfl ?_
      (refine wpl_p S rfl rfl rfl ?_; clear S a; intro a S)
      exact wpList_nil ⟨_, _, fun _ _ h => h, S.keep ⟨rfl, trivial⟩, rfl⟩
    exact trivial
  (clear S; intro L F2 a w hF hL S hall)
  obtain ⟨v317, e317, p317⟩ := hall 151 (by decide)
  obtain ⟨v318, e318, rfl⟩ := hall 152 (by decide)
  obtain ⟨v319, e319, rfl⟩ := hall 153 (by decide)
  replace S := S.keep (kp e317 (kp e318 (kp e319 (kp (hL 23 _ rfl) (kp (hL 24 _ rfl) (kp (hL 25 _ rfl) (kp (hL 26 _ rfl) (kp (hL 27 _ rfl) (kp (hL 28 _ rfl) (kp (hL 29 _ rfl) kp0))))))))))
  (have hTz := (hT47.mono hF3).mono hF; have hEz := (hE47.mono hF3).mono hF; obtain ⟨l, hlen, hl, hz⟩ : ∃ l : List (Ex × Ex), l.length = 12 ∧ (∀ k r, l[k]? = some r → Pr r) ∧ LiM F2 1 SxR v317 (l.map pairF) := ⟨pairsL i1 i2 i3 s t vp vq, rfl, fun k r h => pairs_ok ha hb hc hs ht h, p317⟩; obtain ⟨az, cz, rfl, -, hposz⟩ := hz; (have hlm : (l.map pairF).length = 12 := (by rw [List.length_map]; exact hlen)); rw [hlm] at S hposz)
  (refine hKq16 _ _ ?_; try (clear hKq16 Kq16))
  refine wp_block ?_
  refine wpc_loop (fun m a' w' => ∃ (k : Nat) (F4 : Heap), m = 12 - k ∧ k ≤ 12 ∧ (∀ b o, F2 b = some o → F4 b = some o) ∧ St 350 [(317, .slice az 12 cz), (318, .int .i64 12), (319, .int .i64 (k : Int))] w0 F [] F4 [] a' w') ?_ ?_
  · (refine ⟨12, 0, F2, by omega, by omega, fun _ _ h => h, ?_⟩; refine S.keep ?_; repeat (first | exact trivial | refine ⟨rfl, ?_⟩))
  (clear S; rintro m av w ⟨k, F4, rfl, hkl, hF4, S⟩)
  refine wp_sr fun Kq17 hKq17 => ?_
  (refine wpl_p S rfl rfl rfl ?_; clear S a; intro a S)
  (refine wpList_nil (hKq17 _ _ (wp_seq_k fun Kq18 hKq18 => ?_)); try clear hKq17 Kq17)
  refine wpc_split S rfl (fun h => ?_) (fun h => ?_)
  · (skip; (try simp only [tq] at h))
    refine wp_skip ?_
    (refine hKq18 _ _ ?_; try (clear hKq18 Kq18))
    (refine wp_seq_k ?_; intro Kq19 hKq19)
    refine wp_block ?_
    (refine wp_seq_k ?_; intro Kq20 hKq20)
    (obtain ⟨bz, oz, hao, x, cs1, hx, hc1, vx, rfl, hTx⟩ := LiM.pos (l := l.map pairF) (k := k) (by rw [hlm]; exact hposz) (by rw [hlm]; omega); rw [hao] at S; rw [List.getElem?_map] at hx; obtain ⟨r, hr, rfl⟩ := Option.map_eq_some_iff.1 hx; obtain ⟨g1, g2, g3⟩ := hl k r hr; replace hc1 := Cels.mono hF4 hc1; obtain ⟨bp, op, cp, cx, cy, rfl, hcx, hRx, hcy, hRy⟩ := pair_at (hTx.mono hF4); obtain ⟨xa, xb, xc, xd, xe, rfl, -, -⟩ := exc_slc (ror_exc hRx); obtain ⟨ya, yb, yc, yd, ye, rfl, -, -⟩ := exc_slc (ror_exc hRy))
    refine wp_region_lit ?_
    (refine wpl_i S rfl rfl rfl ?_; clear S a; intro a S)
    (refine wpl_v S rfl rfl rfl (sv_loadF S rfl rfl (hc1 0 _ rfl)) ?_; clear S a; intro a S)
    (refine wpl_p S rfl rfl rfl ?_; clear S a; intro a S)
    (refine wpList_nil (hKq20 _ _ (wp_sr fun Kq21 hKq21 => ?_)); try clear hKq20 Kq20)
    (refine wpl_p S rfl rfl rfl ?_; clear S a; intro a S)
    (refine wpl_i S rfl rfl rfl ?_; clear S a; intro a S)
    (refine wpl_v S rfl rfl rfl (sv_loadAF S rfl rfl hcx (by rfl)) ?_; clear S a; intro a S)
    (refine wpl_callF S rfl rfl rfl rfl rfl rfl (eval0Ct F4 (hTz.mono hF4) (hEz.mono hF4) r.1 _ hRx g1) rfl ?_; clear S a; intro v327 F327 a w hv327 hF327 S; generalize eA : evalO [] [] r.1.1 r.1.2 = A at hv327; obtain ⟨c327, rfl, q327⟩ := hv327; obtain ⟨xa327, xb327, he327, -, -⟩ := vac_slc q327; subst he327)
    iterate 3 (refine wpl_p S rfl rfl rfl ?_; clear S a; intro a S)
    (refine wpl_alloc S rfl rfl rfl rfl ?_; clear S a; intro b32 a w S)
    (refine wpl_storeO S rfl rfl rfl rfl rfl (by rfl) (by simp [Value.cells, Value.oneCell', splice]) (by rfl) ?_; clear S; intro w S)
    (refine wpl_p S rfl rfl rfl ?_; clear S a; intro a S)
    (refine wpList_nil (hKq21 _ _ (wp_sr fun Kq22 hKq22 => ?_)); try clear hKq21 Kq21)
    (refine wpl_p S rfl rfl rfl ?_; clear S a; intro a S)
    (refine wpl_i S rfl rfl rfl ?_; clear S a; intro a S)
    (refine wpl_v S rfl rfl rfl (sv_loadAF S rfl rfl (Cels.mono hF327 hcy) (by rfl)) ?_; clear S a; intro a S)
    (refine wpl_callF S rfl rfl rfl rfl rfl rfl (eval0Ct F327 (hTz.mono (fun b o h => hF327 _ _ (hF4 _ _ h))) (hEz.mono (fun b o h => hF327 _ _ (hF4 _ _ h))) r.2 _ (Mon.h hF327 hRy) g2) rfl ?_; clear S a; intro v334 F334 a w hv334 hF334 S; generalize eB : evalO [] [] r.2.1 r.2.2 = B at hv334; obtain ⟨c334, rfl, q334⟩ := hv334; obtain ⟨xa334, xb334, he334, -, -⟩ := vac_slc q334; subst he334)
    iterate 3 (refine wpl_p S rfl rfl rfl ?_; clear S a; intro a S)
    (refine wpl_alloc S rfl rfl rfl rfl ?_; clear S a; intro b34 a w S)
    (refine wpl_storeO S rfl rfl rfl rfl rfl (by rfl) (by simp [Value.cells, Value.oneCell', splice]) (by rfl) ?_; clear S; intro w S)
    (refine wpl_p S rfl rfl rfl ?_; clear S a; intro a S)
    (refine wpList_nil (hKq22 _ _ (wp_sr fun Kq23 hKq23 => ?_)); try clear hKq22 Kq22)
    iterate 3 (refine wpl_p S rfl rfl rfl ?_; clear S a; intro a S)
    refine wpl_guard S rfl rfl rfl rfl rfl ?_ ?_
    · (intro h S'; clear S; have S := S'; clear S'; (try simp only [tq] at h))
      (refine wpl_p S rfl rfl rfl ?_; clear S a; intro a S)
      refine wpl_take S rfl rfl rfl ?_
      iterate 3 (refine wpl_p S rfl rfl rfl ?_; clear S a; intro a S)
      refine wpl_guard S rfl rfl rfl rfl rfl ?_ ?_
      · (intro h S'; clear S; have S := S'; clear S'; (try simp only [tq] at h))
        (refine wpl_l S rfl rfl rfl ?_; clear S a; intro a S)
        refine wpl_take S rfl rfl rfl ?_
        (refine wpl_l S rfl rfl rfl ?_; clear S a; intro a S)
        refine wpl_take S rfl rfl rfl ?_
        (refine wpl_call0 S rfl rfl rfl rfl rfl rfl (sameCt (A.2.2.size + 1) F334 A.2 B.2 _ _ (Nat.lt_succ_self _) (q327.mono hF334) q334) rfl ?_; clear S a; intro v a w hv S; subst hv)
        (rw [sameV_iff.2 (show A.2 = B.2 from by have := g3; rw [eA, eB] at this; exact this (by omega) (by omega))] at S)
        refine wpl_take S rfl rfl rfl ?_
        iterate 2 (refine wpl_p S rfl rfl rfl ?_; clear S a; intro a S)
        (refine wpList_nil (hKq23 _ _ ?_); try clear hKq23 Kq23)
        refine wpc_false S rfl ?_
        refine wp_skip ?_
        (refine hKq19 _ _ ?_; try (clear hKq19 Kq19))
        refine wp_region_lit ?_
        (refine wpl_a S rfl rfl rfl ?_; clear S a; intro a S)
        (refine wpl_p S rfl rfl rfl ?_; clear S a; intro a S)
        refine wpList_nil ?_
        change ∃ m', _ ∧ _
        (rw [← hao] at S; replace S := S.drop1.drop1; refine ⟨12 - (k + 1), by omega, k + 1, F334, rfl, by omega, fun b o h => hF334 _ _ (hF327 _ _ (hF4 _ _ h)), ?_⟩; refine S.keep ?_; repeat (first | exact trivial | refine ⟨rfl, ?_⟩))
      (intro h; clear S a; intro a S; (try simp only [tq] at h))
      iterate 3 (refine wpl_skip S rfl rfl rfl rfl rfl ?_; clear S a; intro a S)
      (refine wpl_p S rfl rfl rfl ?_; clear S a; intro a S)
      (refine wpList_nil (hKq23 _ _ ?_); try clear hKq23 Kq23)
      refine wpc_false S rfl ?_
      refine wp_skip ?_
      (refine hKq19 _ _ ?_; try (clear hKq19 Kq19))
      refine wp_region_lit ?_
      (refine wpl_a S rfl rfl rfl ?_; clear S a; intro a S)
      (refine wpl_p S rfl rfl rfl ?_; clear S a; intro a S)
      refine wpList_nil ?_
      change ∃ m', _ ∧ _
      (rw [← hao] at S; replace S := S.drop1.drop1; refine ⟨12 - (k + 1), by omega, k + 1, F334, rfl, by omega, fun b o h => hF334 _ _ (hF327 _ _ (hF4 _ _ h)), ?_⟩; refine S.keep ?_; repeat (first | exact trivial | refine ⟨rfl, ?_⟩))
    (intro h; clear S a; intro a S; (try simp only [tq] at h))
    (refine wpl_skip S rfl rfl rfl rfl rfl ?_; clear S a; intro a S)
    iterate 2 (refine wpl_p S rfl rfl rfl ?_; clear S a; intro a S)
    iterate 4 (refine wpl_skip S rfl rfl rfl rfl rfl ?_; clear S a; intro a S)
    (refine wpl_p S rfl rfl rfl ?_; clear S a; intro a S)
    (refine wpList_nil (hKq23 _ _ ?_); try clear hKq23 Kq23)
    refine wpc_false S rfl ?_
    refine wp_skip ?_
    (refine hKq19 _ _ ?_; try (clear hKq19 Kq19))
    refine wp_region_lit ?_
    (refine wpl_a S rfl rfl rfl ?_; clear S a; intro a S)
    (refine wpl_p S rfl rfl rfl ?_; clear S a; intro a S)
    refine wpList_nil ?_
    change ∃ m', _ ∧ _
    (rw [← hao] at S; replace S := S.drop1.drop1; refine ⟨12 - (k + 1), by omega, k + 1, F334, rfl, by omega, fun b o h => hF334 _ _ (hF327 _ _ (hF4 _ _ h)), ?_⟩; refine S.keep ?_; repeat (first | exact trivial | refine ⟨rfl, ?_⟩))
  (skip; (try simp only [tq] at h))
  refine wp_exit ?_
  (refine hKq15 _ _ ?_; try (clear hKq15 Kq15))
  refine wp_sr fun Kq19 hKq19 => ?_
  (refine wpl_p S rfl rfl rfl ?_; clear S a; intro a S)
  (refine wpList_nil (hKq19 _ _ ?_); try clear hKq19 Kq19)
  refine wp_ret (fin_ret S (results1 Tryz.results3 (RV.tmp S rfl)) ?_)
  (first | rfl | (exfalso; omega))
end Go.Proofs.YtigblodhdfnleaaGreatDoor
