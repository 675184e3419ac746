/- Walks. -/
import Derived.Test.YtgefmjghdijbfaaGreatDoorKEvalNames14
import Derived.Test.YtgefmjghdijbfaaGreatDoorKEvalNames03
import Derived.Test.YtgefmjghdijbfaaGreatDoorQ26
set_option maxHeartbeats 64000000
set_option maxRecDepth 20000
namespace Go.Proofs.YtgefmjghdijbfaaGreatDoor
open Go Go.Wk Go.Un Go.De Go.Num
set_option linter.unusedSimpArgs false
set_option linter.unusedVariables false
attribute [local irreducible] Go.wpList Go.Code.wp Go.wpStill Go.Wk.wpPre Go.bodyPost Go.Calls Go.Wk.Ct Go.Wk.OwnS Go.Wk.wpG Go.Wk.wpM
def zz (n : Nat) : List UInt8 := List.replicate n 0
theorem zz_ln (n : Nat) : (zz n).length = n := List.length_replicate
theorem zz_len {n : Nat} (h : n ≤ 140737488355328 := by decide) : (zz n).length ≤ 140737488355328 := by rw [zz_ln]; exact h
theorem zz_map (n : Nat) : (zz n).map (fun b => Value.int .u8 b.toNat) = List.replicate n (.int .u8 0) := by unfold zz; rw [List.map_replicate]; rfl
def pZz (n : Nat) : PM := ⟨fun v F => ∃ b, v = .slice (some ⟨b, 0, none⟩) n n ∧ Cels F b 0 (List.replicate n (.int .u8 0)), fun v F F' h ⟨b, e, hc⟩ => ⟨b, e, hc.mono h⟩⟩
def ExTR (F : Heap) (t : ExT) (cs : List Value) : Prop := ∃ c1 c2, cs = c1 ++ (c2 ++ [.int .i64 t.e]) ∧ c1.length = 9 ∧ c2.length = 4 ∧ ReR F t.x c1 ∧ RvR F t.v c2
instance : Mon ExTR := ⟨fun hF ⟨c1, c2, h1, h2, h3, h4, h5⟩ => ⟨c1, c2, h1, h2, h3, Mon.h hF h4, Mon.h hF h5⟩⟩
section
variable {P : Program} {n : Sz} {L : List (Nat × Value)} {w0 : World} {F0 : Heap} {K0 : List Nat} {F : Heap} {G : List Grp} {a : Act} {w : World} {o : Oper}
theorem nogrpE (S : St n L w0 F0 K0 F G a w) : St n L w0 F0 K0 F [] a w := ⟨S.fr, S.tr.sub (List.nil_sublist _)⟩
theorem sv_toStrF {x : Operand} {b c q : Nat} {l : List UInt8} {t u e : TypeId} [ht : Und P t (.slice e)] [hu : Und P u .string] [he : Und P e (.int .u8)] (S : St n L w0 F0 K0 F G a w) (ho : o.op = .convert t u x) (hx : ev L x = some (.slice (some ⟨b, 0, none⟩) q c))
  (hc : q = l.length ∧ Cels F b 0 (l.map fun b => Value.int .u8 b.toNat)) : SV P o a w (.string (bs l)) := by
 obtain ⟨hq, hc⟩ := hc
 subst hq
 unfold SV execOp
 rw [ho]
 have hr : (Conv.bytesToString (.slice (some ⟨b, 0, none⟩) l.length c)).run P w = .ok (.string (bs l)) w := by
  have hld := run_loadCells_list (P := P) w ⟨b, 0, none⟩ (l.map fun b => Value.int .u8 b.toNat) (fun j u hu => by
   rw [addr_add, Nat.zero_add]
   obtain ⟨r, e1, fz, h1, h2⟩ := hc j u hu
   rw [Nat.zero_add] at h2
   exact cell_of_heap (S.tr.frz _ _ h1) h2)
  rw [List.length_map] at hld
  rw [run_bytesToString (P := P) w ⟨b, 0, none⟩ l.length c (l.map fun b => (b.toNat : Int)) (by rw [hld]; simp [List.map_map])]
  have := foldl_push l []
  simp only [bs, List.nil_append] at this
  congr 2
 simp [S.fr.eval hx, convert, run_underlying ht.h, run_underlying hu.h, run_underlying he.h, hr]
end
section
variable {ops : Array Oper} {n : Sz} {w0 : World} {F0 F1 : Heap} {K0 : List Nat} {L0 : List (Nat × Value)} {dl : List Nat} {pl : List PM} {i : Nat} {o : Oper} {d sz : Nat} {α : Type} {R : Heap → α → List Value → Prop} {x : α}
theorem dy_c1 [hM : Mon R] {X c : Operand} {ts : Array TypeId} {fid : FuncId} {cv : Value} [hf : HasFn Tryz.prog fid] (C : ∀ F, Ct Tryz.prog fid [cv] F [] (fun F' _ u => ∃ cs, u = .agg ⟨cs⟩ ∧ cs.length = sz ∧ R F' x cs)) (hi : ops[i]? = some o := by kernel_rfl) (hg : o.guard = none := by rfl) (hd : o.dst = some d := by rfl) (hn : Nat.blt d n.sz = true := by rfl)
  (ho : o.op = .call { callee := .value X, args := #[c], argTypes := ts } := by rfl) (hp : pl.getD i default = pRec sz R x := by kernel_rfl) (hx : ∀ L, ev L X = some (.func (.func fid) ⟨[]⟩ ⟨[]⟩) := by exact fun _ => rfl) (hc : ∀ L, ev L c = some cv := by exact fun _ => rfl) (hd2 : dl.getD i 0 = d := by kernel_rfl) : Duty Tryz.prog ops n w0 F0 K0 L0 F1 dl pl i o := by
 intro L F a w hF hL S hdep
 refine stepM_of hi ?_
 refine wpl_callF S hg hd hn ho (hx L) (vs := [cv]) (by simp only [evs, hc]) (C F) rfl fun u F' a' w' hu hle S => ?_
 refine wpList_nil ⟨u, F', hle, S.keep ⟨by rw [hd2]; exact look_top, trivial⟩, ?_⟩
 rw [hp]; exact hu
theorem dy_c2 [hM : Mon R] {X c c' : Operand} {ts : Array TypeId} {fid : FuncId} {cv cv' : Value} [hf : HasFn Tryz.prog fid] (C : ∀ F, Ct Tryz.prog fid [cv, cv'] F [] (fun F' _ u => ∃ cs, u = .agg ⟨cs⟩ ∧ cs.length = sz ∧ R F' x cs)) (hi : ops[i]? = some o := by kernel_rfl) (hg : o.guard = none := by rfl) (hd : o.dst = some d := by rfl) (hn : Nat.blt d n.sz = true := by rfl)
  (ho : o.op = .call { callee := .value X, args := #[c, c'], argTypes := ts } := by rfl) (hp : pl.getD i default = pRec sz R x := by kernel_rfl) (hx : ∀ L, ev L X = some (.func (.func fid) ⟨[]⟩ ⟨[]⟩) := by exact fun _ => rfl) (hc : ∀ L, ev L c = some cv := by exact fun _ => rfl) (hc' : ∀ L, ev L c' = some cv' := by exact fun _ => rfl) (hd2 : dl.getD i 0 = d := by kernel_rfl) : Duty Tryz.prog ops n w0 F0 K0 L0 F1 dl pl i o := by
 intro L F a w hF hL S hdep
 refine stepM_of hi ?_
 refine wpl_callF S hg hd hn ho (hx L) (vs := [cv, cv']) (by simp only [evs, hc, hc']) (C F) rfl fun u F' a' w' hu hle S => ?_
 refine wpList_nil ⟨u, F', hle, S.keep ⟨by rw [hd2]; exact look_top, trivial⟩, ?_⟩
 rw [hp]; exact hu
theorem dy_s1 [hM : Mon R] {X : Operand} {ts : Array TypeId} {fid : FuncId} {cv : Value} [hf : HasFn Tryz.prog fid] (C : ∀ F, Ct Tryz.prog fid [cv] F [] (fun F' _ u => ∃ cs, u = .agg ⟨cs⟩ ∧ cs.length = sz ∧ R F' x cs)) (j : Nat) (hi : ops[i]? = some o := by kernel_rfl) (hg : o.guard = none := by rfl) (hd : o.dst = some d := by rfl) (hn : Nat.blt d n.sz = true := by rfl)
  (ho : o.op = .call { callee := .value X, args := #[.tmp (dl.getD j 0)], argTypes := ts } := by rfl) (h1 : (o.after.toList.any fun e => Nat.beq e.on j && Region.binds .any e) = true := by kernel_rfl) (f1 : pl.getD j default = PM.is cv := by kernel_rfl) (hp : pl.getD i default = pRec sz R x := by kernel_rfl) (hx : ∀ L, ev L X = some (.func (.func fid) ⟨[]⟩ ⟨[]⟩) := by exact fun _ => rfl) (hd2 : dl.getD i 0 = d := by kernel_rfl) : Duty Tryz.prog ops n w0 F0 K0 L0 F1 dl pl i o := by
 intro L F a w hF hL S hdep
 refine stepM_of hi ?_
 obtain ⟨v1, e1, p1⟩ := depF_at hdep h1
 rw [f1] at p1
 obtain rfl : v1 = cv := p1
 refine wpl_callF S hg hd hn ho (hx L) (vs := [v1]) (by simp only [evs, show ev L (.tmp (dl.getD j 0)) = some v1 from e1]) (C F) rfl fun u F' a' w' hu hle S => ?_
 refine wpList_nil ⟨u, F', hle, S.keep ⟨by rw [hd2]; exact look_top, trivial⟩, ?_⟩
 rw [hp]; exact hu
theorem dy_r1 [hM : Mon R] {β : Type} {R1 : Heap → β → List Value → Prop} [hM1 : Mon R1] {y : β} {sz1 : Nat} {X : Operand} {ts : Array TypeId} {fid : FuncId} [hf : HasFn Tryz.prog fid] (C : ∀ F cs, R1 F y cs → Ct Tryz.prog fid [.agg ⟨cs⟩] F [] (fun F' _ u => ∃ cs, u = .agg ⟨cs⟩ ∧ cs.length = sz ∧ R F' x cs)) (j : Nat) (hi : ops[i]? = some o := by kernel_rfl) (hg : o.guard = none := by rfl) (hd : o.dst = some d := by rfl) (hn : Nat.blt d n.sz = true := by rfl)
  (ho : o.op = .call { callee := .value X, args := #[.tmp (dl.getD j 0)], argTypes := ts } := by rfl) (h1 : (o.after.toList.any fun e => Nat.beq e.on j && Region.binds .any e) = true := by kernel_rfl) (f1 : pl.getD j default = pRec sz1 R1 y := by kernel_rfl) (hp : pl.getD i default = pRec sz R x := by kernel_rfl) (hx : ∀ L, ev L X = some (.func (.func fid) ⟨[]⟩ ⟨[]⟩) := by exact fun _ => rfl) (hd2 : dl.getD i 0 = d := by kernel_rfl) : Duty Tryz.prog ops n w0 F0 K0 L0 F1 dl pl i o := by
 intro L F a w hF hL S hdep
 refine stepM_of hi ?_
 obtain ⟨v1, e1, p1⟩ := depF_at hdep h1
 rw [f1] at p1
 obtain ⟨c1, rfl, -, r1⟩ := p1
 refine wpl_callF S hg hd hn ho (hx L) (vs := [.agg ⟨c1⟩]) (by simp only [evs, show ev L (.tmp (dl.getD j 0)) = some (.agg ⟨c1⟩) from e1]) (C F c1 r1) rfl fun u F' a' w' hu hle S => ?_
 refine wpList_nil ⟨u, F', hle, S.keep ⟨by rw [hd2]; exact look_top, trivial⟩, ?_⟩
 rw [hp]; exact hu
theorem dy_p2 [hM : Mon R] {β : Type} {R1 : Heap → β → List Value → Prop} [hM1 : Mon R1] {y y' : β} {sz1 : Nat} {ts : Array TypeId} {fid : FuncId} [hf : HasFn Tryz.prog fid] (C : ∀ F c1 c2, R1 F y c1 → R1 F y' c2 → Ct Tryz.prog fid [.agg ⟨c1⟩, .agg ⟨c2⟩] F [] (fun F' _ u => ∃ cs, u = .agg ⟨cs⟩ ∧ cs.length = sz ∧ R F' x cs)) (jf j j' : Nat) (hi : ops[i]? = some o := by kernel_rfl) (hg : o.guard = none := by rfl) (hd : o.dst = some d := by rfl) (hn : Nat.blt d n.sz = true := by rfl)
  (ho : o.op = .call { callee := .value (.tmp (dl.getD jf 0)), args := #[.tmp (dl.getD j 0), .tmp (dl.getD j' 0)], argTypes := ts } := by rfl) (h0 : (o.after.toList.any fun e => Nat.beq e.on jf && Region.binds .any e) = true := by kernel_rfl) (h1 : (o.after.toList.any fun e => Nat.beq e.on j && Region.binds .any e) = true := by kernel_rfl) (h2 : (o.after.toList.any fun e => Nat.beq e.on j' && Region.binds .any e) = true := by kernel_rfl)
  (f0 : pl.getD jf default = PM.is (.func (.func fid) ⟨[]⟩ ⟨[]⟩) := by kernel_rfl) (f1 : pl.getD j default = pRec sz1 R1 y := by kernel_rfl) (f2 : pl.getD j' default = pRec sz1 R1 y' := by kernel_rfl) (hp : pl.getD i default = pRec sz R x := by kernel_rfl) (hd2 : dl.getD i 0 = d := by kernel_rfl) : Duty Tryz.prog ops n w0 F0 K0 L0 F1 dl pl i o := by
 intro L F a w hF hL S hdep
 refine stepM_of hi ?_
 obtain ⟨v0, e0, p0⟩ := depF_at hdep h0
 rw [f0] at p0
 obtain rfl : v0 = _ := p0
 obtain ⟨v1, e1, p1⟩ := depF_at hdep h1
 rw [f1] at p1
 obtain ⟨c1, rfl, -, r1⟩ := p1
 obtain ⟨v2, e2, p2⟩ := depF_at hdep h2
 rw [f2] at p2
 obtain ⟨c2, rfl, -, r2⟩ := p2
 refine wpl_callF S hg hd hn ho (show ev L (.tmp (dl.getD jf 0)) = _ from e0) (vs := [.agg ⟨c1⟩, .agg ⟨c2⟩]) (by simp only [evs, show ev L (.tmp (dl.getD j 0)) = some (.agg ⟨c1⟩) from e1, show ev L (.tmp (dl.getD j' 0)) = some (.agg ⟨c2⟩) from e2]) (C F c1 c2 r1 r2) rfl fun u F' a' w' hu hle S => ?_
 refine wpList_nil ⟨u, F', hle, S.keep ⟨by rw [hd2]; exact look_top, trivial⟩, ?_⟩
 rw [hp]; exact hu
theorem dy_zero (hi : ops[i]? = some o := by kernel_rfl) (hg : o.guard = none := by rfl) (hd : o.dst = some d := by rfl) (hn : Nat.blt d n.sz = true := by rfl)
  (ho : o.op = .build 33 #[] := by rfl) (hp : pl.getD i default = pRec 4 RvR zV := by kernel_rfl) (hd2 : dl.getD i 0 = d := by kernel_rfl) : Duty Tryz.prog ops n w0 F0 K0 L0 F1 dl pl i o := by
 intro L F a w hF hL S hdep
 refine stepM_of hi ?_
 refine wpl_v S hg hd hn (sv_build S ho rfl rfl) fun a' S3 => ?_
 refine wpList_nil ⟨_, F, fun _ _ h => h, S3.keep ⟨by rw [hd2]; exact look_top, trivial⟩, ?_⟩
 rw [hp]; exact ⟨_, rfl, rfl, ror_leaf _ 0 0 [] (by decide)⟩
theorem dy_row {y : Ex} {v : Vv} (j1 j2 : Nat) {n9 : Int} (hi : ops[i]? = some o := by kernel_rfl) (hg : o.guard = none := by rfl) (hd : o.dst = some d := by rfl) (hn : Nat.blt d n.sz = true := by rfl)
  (ho : o.op = .build 58 #[(0, .tmp (dl.getD j1 0)), (1, .tmp (dl.getD j2 0)), (2, .const (.int .i64 n9))] := by rfl) (h1 : (o.after.toList.any fun e => Nat.beq e.on j1 && Region.binds .any e) = true := by kernel_rfl) (h2 : (o.after.toList.any fun e => Nat.beq e.on j2 && Region.binds .any e) = true := by kernel_rfl)
  (f1 : pl.getD j1 default = pRec 9 ReR y := by rfl) (f2 : pl.getD j2 default = pRec 4 RvR v := by rfl) (hp : pl.getD i default = pRec 14 ExTR (ExT.mk y v n9) := by rfl) (hd2 : dl.getD i 0 = d := by kernel_rfl) : Duty Tryz.prog ops n w0 F0 K0 L0 F1 dl pl i o := by
 intro L F a w hF hL S hdep
 refine stepM_of hi ?_
 obtain ⟨v1, e1, p1⟩ := depF_at hdep h1
 rw [f1] at p1
 obtain ⟨c1, rfl, hn1, r1⟩ := p1
 obtain ⟨v2, e2, p2⟩ := depF_at hdep h2
 rw [f2] at p2
 obtain ⟨c2, rfl, hn2, r2⟩ := p2
 obtain ⟨ya, yb, yc, yd, ye, h3, -, -⟩ := exc_slc (ror_exc r1)
 obtain ⟨za, zb, h4, -, -⟩ := vac_slc (ror_vac r2)
 refine wpl_v S hg hd hn (sv_build (pv := [(0, .agg ⟨c1⟩), (1, .agg ⟨c2⟩), (2, .int .i64 n9)]) (c := c1 ++ (c2 ++ [.int .i64 n9])) S ho (by simp only [evsP, show ev L (.tmp (dl.getD j1 0)) = _ from e1, show ev L (.tmp (dl.getD j2 0)) = _ from e2, show ev L (.const (.int .i64 n9)) = some (.int .i64 n9) from rfl]) (by subst h3; subst h4; rfl)) fun a' S3 => ?_
 refine wpList_nil ⟨_, F, fun _ _ h => h, S3.keep ⟨by rw [hd2]; exact look_top, trivial⟩, ?_⟩
 rw [hp]; exact ⟨_, rfl, by rw [List.length_append, List.length_append, hn1, hn2]; rfl, _, _, rfl, hn1, hn2, r1, r2⟩
end
def enD : List Nat := [42, 43, 44, 45, 46, 47, 48, 49, 50, 51, 52, 53, 54, 55, 56, 57, 58, 59, 60, 61, 62, 63, 64, 65, 66, 67, 68, 69, 70, 71, 72, 73, 74, 75, 76, 77, 78, 79, 80, 81, 82, 83, 84, 85, 86, 87, 88, 89, 90, 91, 92, 93, 94, 95, 96, 97, 98, 99, 100, 101, 102, 103, 104, 105, 106, 107, 108, 109, 110, 111, 112, 113, 114, 115, 116, 117, 118, 119, 120, 121, 122, 123, 124, 125, 126, 127, 128, 129, 130, 131, 132, 133, 134, 135, 136, 137, 138, 139, 140, 141, 142, 143, 144, 145, 146, 147, 148, 149, 150, 151, 152, 153, 154, 155, 156, 157, 158, 159, 160, 161, 162, 163, 164, 165, 166, 167, 168, 169, 170, 171, 172, 173, 174, 175, 176, 177, 178, 179, 180, 181, 182, 183, 184, 185, 186, 187, 188, 189, 190, 191, 192, 193, 194, 195, 196, 197, 198, 199, 200, 201, 202, 203, 204, 205, 206, 207, 208, 209, 210, 211, 212, 213, 214, 215, 216, 217, 218, 219, 220, 221, 222, 223, 224, 225, 226, 227, 228, 229, 230, 231, 232, 233, 234, 235, 236, 237, 238, 239, 240, 241, 242, 243, 244, 245, 246, 247, 248, 249, 250, 251, 252, 253, 254, 255, 256, 257, 258, 259, 260, 261, 262, 263, 264, 265, 266, 267, 268, 269, 270, 271, 272, 273, 274, 275, 276, 277, 278, 279, 280, 281, 282, 283, 284, 285, 286, 287, 288, 289, 290, 291, 292, 293, 294, 295, 296, 297, 298, 299, 300, 301, 302, 303, 304, 305, 306, 307, 308, 309, 310, 311, 312, 313, 314, 315, 316, 317, 318, 319, 320, 321, 322, 323, 324, 325, 326, 327, 328, 329, 330, 331, 332, 333, 334, 335, 336, 337, 338, 339, 340, 341, 342, 343, 344, 345, 346, 347, 348, 349, 350, 351, 352, 353, 354, 355, 356, 357, 358, 359, 360, 361, 362, 363]
def enP : List PM := [pRec 9 (RoR 9 EhR) topX,
pRec 9 (RoR 9 EhR) (nX 1),
pTrs 9 EhR (.cons topX.1 topX.2 (.cons (nX 1).1 (nX 1).2 .nil)),
pRec 9 (RoR 9 EhR) (callX2 [43] topX (nX 1)),
pRec 4 (RoR 4 VhR) zV,
pRec 14 ExTR (ExT.mk (callX2 [43] topX (nX 1)) zV 80),
pRec 9 (RoR 9 EhR) lowX,
pRec 9 (RoR 9 EhR) (nX 1),
pTrs 9 EhR (.cons lowX.1 lowX.2 (.cons (nX 1).1 (nX 1).2 .nil)),
pRec 9 (RoR 9 EhR) (callX2 [45] lowX (nX 1)),
pRec 4 (RoR 4 VhR) zV,
pRec 14 ExTR (ExT.mk (callX2 [45] lowX (nX 1)) zV 80),
pRec 9 (RoR 9 EhR) topX,
pRec 4 (RoR 4 VhR) (intV 2),
pRec 9 (RoR 9 EhR) (litX (intV 2)),
pTrs 9 EhR (.cons topX.1 topX.2 (.cons (litX (intV 2)).1 (litX (intV 2)).2 .nil)),
pRec 9 (RoR 9 EhR) (callX2 [42] topX (litX (intV 2))),
pRec 4 (RoR 4 VhR) zV,
pRec 14 ExTR (ExT.mk (callX2 [42] topX (litX (intV 2))) zV 80),
pRec 9 (RoR 9 EhR) lowX,
pRec 4 (RoR 4 VhR) (intV (-1)),
pRec 9 (RoR 9 EhR) (litX (intV (-1))),
pTrs 9 EhR (.cons lowX.1 lowX.2 (.cons (litX (intV (-1))).1 (litX (intV (-1))).2 .nil)),
pRec 9 (RoR 9 EhR) (callX2 [42] lowX (litX (intV (-1)))),
pRec 4 (RoR 4 VhR) zV,
pRec 14 ExTR (ExT.mk (callX2 [42] lowX (litX (intV (-1)))) zV 80),
pRec 9 (RoR 9 EhR) lowX,
pRec 9 (RoR 9 EhR) (nX 1),
pTrs 9 EhR (.cons lowX.1 lowX.2 (.cons (nX 1).1 (nX 1).2 .nil)),
pRec 9 (RoR 9 EhR) (callX2 [42] lowX (nX 1)),
pRec 4 (RoR 4 VhR) (intV (-9223372036854775808)),
pRec 14 ExTR (ExT.mk (callX2 [42] lowX (nX 1)) (intV (-9223372036854775808)) 0),
pRec 4 (RoR 4 VhR) (intV (-4294967296)),
pRec 9 (RoR 9 EhR) (litX (intV (-4294967296))),
pRec 4 (RoR 4 VhR) (intV 2147483648),
pRec 9 (RoR 9 EhR) (litX (intV 2147483648)),
pTrs 9 EhR (.cons (litX (intV (-4294967296))).1 (litX (intV (-4294967296))).2 (.cons (litX (intV 2147483648)).1 (litX (intV 2147483648)).2 .nil)),
pRec 9 (RoR 9 EhR) (callX2 [42] (litX (intV (-4294967296))) (litX (intV 2147483648))),
pRec 4 (RoR 4 VhR) (intV (-9223372036854775808)),
pRec 14 ExTR (ExT.mk (callX2 [42] (litX (intV (-4294967296))) (litX (intV 2147483648))) (intV (-9223372036854775808)) 0),
pRec 4 (RoR 4 VhR) (intV 4294967296),
pRec 9 (RoR 9 EhR) (litX (intV 4294967296)),
pRec 4 (RoR 4 VhR) (intV 2147483648),
pRec 9 (RoR 9 EhR) (litX (intV 2147483648)),
pTrs 9 EhR (.cons (litX (intV 4294967296)).1 (litX (intV 4294967296)).2 (.cons (litX (intV 2147483648)).1 (litX (intV 2147483648)).2 .nil)),
pRec 9 (RoR 9 EhR) (callX2 [42] (litX (intV 4294967296)) (litX (intV 2147483648))),
pRec 4 (RoR 4 VhR) zV,
pRec 14 ExTR (ExT.mk (callX2 [42] (litX (intV 4294967296)) (litX (intV 2147483648))) zV 80),
pRec 9 (RoR 9 EhR) lowX,
pRec 4 (RoR 4 VhR) (intV (-1)),
pRec 9 (RoR 9 EhR) (litX (intV (-1))),
pTrs 9 EhR (.cons lowX.1 lowX.2 (.cons (litX (intV (-1))).1 (litX (intV (-1))).2 .nil)),
pRec 9 (RoR 9 EhR) (callX2 [47] lowX (litX (intV (-1)))),
pRec 4 (RoR 4 VhR) zV,
pRec 14 ExTR (ExT.mk (callX2 [47] lowX (litX (intV (-1)))) zV 80),
pRec 9 (RoR 9 EhR) lowX,
pRec 4 (RoR 4 VhR) (intV (-1)),
pRec 9 (RoR 9 EhR) (litX (intV (-1))),
pTrs 9 EhR (.cons lowX.1 lowX.2 (.cons (litX (intV (-1))).1 (litX (intV (-1))).2 .nil)),
pRec 9 (RoR 9 EhR) (callX2 [37] lowX (litX (intV (-1)))),
pRec 4 (RoR 4 VhR) (intV 0),
pRec 14 ExTR (ExT.mk (callX2 [37] lowX (litX (intV (-1)))) (intV 0) 0),
pRec 9 (RoR 9 EhR) (nX 1),
pRec 4 (RoR 4 VhR) (intV 0),
pRec 9 (RoR 9 EhR) (litX (intV 0)),
pTrs 9 EhR (.cons (nX 1).1 (nX 1).2 (.cons (litX (intV 0)).1 (litX (intV 0)).2 .nil)),
pRec 9 (RoR 9 EhR) (callX2 [37] (nX 1) (litX (intV 0))),
pRec 4 (RoR 4 VhR) zV,
pRec 14 ExTR (ExT.mk (callX2 [37] (nX 1) (litX (intV 0))) zV 81),
pRec 9 (RoR 9 EhR) lowX,
pTrs 9 EhR (.cons lowX.1 lowX.2 .nil),
pRec 9 (RoR 9 EhR) (callX1 [110, 101, 103] lowX),
pRec 4 (RoR 4 VhR) zV,
pRec 14 ExTR (ExT.mk (callX1 [110, 101, 103] lowX) zV 80),
pRec 9 (RoR 9 EhR) topX,
pTrs 9 EhR (.cons topX.1 topX.2 .nil),
pRec 9 (RoR 9 EhR) (callX1 [110, 101, 103] topX),
pRec 4 (RoR 4 VhR) (intV (-9223372036854775807)),
pRec 14 ExTR (ExT.mk (callX1 [110, 101, 103] topX) (intV (-9223372036854775807)) 0),
pRec 9 (RoR 9 EhR) (nX 1),
pRec 9 (RoR 9 EhR) lowX,
pTrs 9 EhR (.cons (nX 1).1 (nX 1).2 (.cons lowX.1 lowX.2 .nil)),
pRec 9 (RoR 9 EhR) (callX2 [45] (nX 1) lowX),
pRec 4 (RoR 4 VhR) zV,
pRec 14 ExTR (ExT.mk (callX2 [45] (nX 1) lowX) zV 80),
pRec 4 (RoR 4 VhR) (intV (-1)),
pRec 9 (RoR 9 EhR) (litX (intV (-1))),
pRec 9 (RoR 9 EhR) lowX,
pTrs 9 EhR (.cons (litX (intV (-1))).1 (litX (intV (-1))).2 (.cons lowX.1 lowX.2 .nil)),
pRec 9 (RoR 9 EhR) (callX2 [45] (litX (intV (-1))) lowX),
pRec 4 (RoR 4 VhR) (intV 9223372036854775807),
pRec 14 ExTR (ExT.mk (callX2 [45] (litX (intV (-1))) lowX) (intV 9223372036854775807) 0),
pRec 9 (RoR 9 EhR) (nX 1),
pRec 4 (RoR 4 VhR) (bigV [49]),
pRec 9 (RoR 9 EhR) (litX (bigV [49])),
pTrs 9 EhR (.cons (nX 1).1 (nX 1).2 (.cons (litX (bigV [49])).1 (litX (bigV [49])).2 .nil)),
pRec 9 (RoR 9 EhR) (callX2 [43] (nX 1) (litX (bigV [49]))),
pRec 4 (RoR 4 VhR) zV,
pRec 14 ExTR (ExT.mk (callX2 [43] (nX 1) (litX (bigV [49]))) zV 70),
pRec 4 (RoR 4 VhR) (bigV [48]),
pRec 9 (RoR 9 EhR) (litX (bigV [48])),
pTrs 9 EhR (.cons (litX (bigV [48])).1 (litX (bigV [48])).2 .nil),
pRec 9 (RoR 9 EhR) (callX1 [110, 101, 103] (litX (bigV [48]))),
pRec 4 (RoR 4 VhR) (bigV [48]),
pRec 14 ExTR (ExT.mk (callX1 [110, 101, 103] (litX (bigV [48]))) (bigV [48]) 0),
PM.is (.string (bs (nin 200))),
pRec 4 (RoR 4 VhR) (bigV (nin 200)),
pRec 9 (RoR 9 EhR) (litX (bigV (nin 200))),
pRec 4 (RoR 4 VhR) (bigV [49]),
pRec 9 (RoR 9 EhR) (litX (bigV [49])),
pTrs 9 EhR (.cons (litX (bigV (nin 200))).1 (litX (bigV (nin 200))).2 (.cons (litX (bigV [49])).1 (litX (bigV [49])).2 .nil)),
pRec 9 (RoR 9 EhR) (callX2 [43] (litX (bigV (nin 200))) (litX (bigV [49]))),
pRec 4 (RoR 4 VhR) zV,
pRec 14 ExTR (ExT.mk (callX2 [43] (litX (bigV (nin 200))) (litX (bigV [49]))) zV 80),
pRec 9 (RoR 9 EhR) longX,
pRec 9 (RoR 9 EhR) longX,
pTrs 9 EhR (.cons longX.1 longX.2 (.cons longX.1 longX.2 .nil)),
pRec 9 (RoR 9 EhR) (callX2 [43, 43] longX longX),
pZz 4096,
PM.is (.string (bs (zz 4096))),
pRec 4 (RoR 4 VhR) (textV (zz 4096)),
pRec 14 ExTR (ExT.mk (callX2 [43, 43] longX longX) (textV (zz 4096)) 0),
pRec 9 (RoR 9 EhR) longX,
pRec 9 (RoR 9 EhR) longX,
pRec 4 (RoR 4 VhR) (textV [97]),
pRec 9 (RoR 9 EhR) (litX (textV [97])),
pTrs 9 EhR (.cons longX.1 longX.2 (.cons (litX (textV [97])).1 (litX (textV [97])).2 .nil)),
pRec 9 (RoR 9 EhR) (callX2 [43, 43] longX (litX (textV [97]))),
pTrs 9 EhR (.cons longX.1 longX.2 (.cons (callX2 [43, 43] longX (litX (textV [97]))).1 (callX2 [43, 43] longX (litX (textV [97]))).2 .nil)),
pRec 9 (RoR 9 EhR) (callX2 [43, 43] longX (callX2 [43, 43] longX (litX (textV [97])))),
pRec 4 (RoR 4 VhR) zV,
pRec 14 ExTR (ExT.mk (callX2 [43, 43] longX (callX2 [43, 43] longX (litX (textV [97])))) zV 80),
pRec 9 (RoR 9 EhR) (nX 1),
pRec 9 (RoR 9 EhR) longX,
pTrs 9 EhR (.cons (nX 1).1 (nX 1).2 (.cons longX.1 longX.2 .nil)),
pRec 9 (RoR 9 EhR) (callX2 [43, 43] (nX 1) longX),
pRec 4 (RoR 4 VhR) zV,
pRec 14 ExTR (ExT.mk (callX2 [43, 43] (nX 1) longX) zV 70),
pRec 4 (RoR 4 VhR) (textV [97, 98]),
pRec 9 (RoR 9 EhR) (litX (textV [97, 98])),
pTrs 9 EhR (.cons (litX (textV [97, 98])).1 (litX (textV [97, 98])).2 .nil),
pRec 9 (RoR 9 EhR) (callX1 [108, 101, 110] (litX (textV [97, 98]))),
pRec 4 (RoR 4 VhR) (intV 2),
pRec 14 ExTR (ExT.mk (callX1 [108, 101, 110] (litX (textV [97, 98]))) (intV 2) 0),
pRec 4 (RoR 4 VhR) (intV 3),
pRec 9 (RoR 9 EhR) (litX (intV 3)),
pTrs 9 EhR (.cons (litX (intV 3)).1 (litX (intV 3)).2 .nil),
pRec 9 (RoR 9 EhR) (callX1 [98, 105, 103] (litX (intV 3))),
pRec 4 (RoR 4 VhR) (bigV [51]),
pRec 14 ExTR (ExT.mk (callX1 [98, 105, 103] (litX (intV 3))) (bigV [51]) 0),
pRec 4 (RoR 4 VhR) (bigV [57, 50, 50, 51, 51, 55, 50, 48, 51, 54, 56, 53, 52, 55, 55, 53, 56, 48, 56]),
pRec 9 (RoR 9 EhR) (litX (bigV [57, 50, 50, 51, 51, 55, 50, 48, 51, 54, 56, 53, 52, 55, 55, 53, 56, 48, 56])),
pTrs 9 EhR (.cons (litX (bigV [57, 50, 50, 51, 51, 55, 50, 48, 51, 54, 56, 53, 52, 55, 55, 53, 56, 48, 56])).1 (litX (bigV [57, 50, 50, 51, 51, 55, 50, 48, 51, 54, 56, 53, 52, 55, 55, 53, 56, 48, 56])).2 .nil),
pRec 9 (RoR 9 EhR) (callX1 [105, 110, 116] (litX (bigV [57, 50, 50, 51, 51, 55, 50, 48, 51, 54, 56, 53, 52, 55, 55, 53, 56, 48, 56]))),
pRec 4 (RoR 4 VhR) zV,
pRec 14 ExTR (ExT.mk (callX1 [105, 110, 116] (litX (bigV [57, 50, 50, 51, 51, 55, 50, 48, 51, 54, 56, 53, 52, 55, 55, 53, 56, 48, 56]))) zV 80),
pRec 4 (RoR 4 VhR) (bigV [45, 57, 50, 50, 51, 51, 55, 50, 48, 51, 54, 56, 53, 52, 55, 55, 53, 56, 48, 56]),
pRec 9 (RoR 9 EhR) (litX (bigV [45, 57, 50, 50, 51, 51, 55, 50, 48, 51, 54, 56, 53, 52, 55, 55, 53, 56, 48, 56])),
pTrs 9 EhR (.cons (litX (bigV [45, 57, 50, 50, 51, 51, 55, 50, 48, 51, 54, 56, 53, 52, 55, 55, 53, 56, 48, 56])).1 (litX (bigV [45, 57, 50, 50, 51, 51, 55, 50, 48, 51, 54, 56, 53, 52, 55, 55, 53, 56, 48, 56])).2 .nil),
pRec 9 (RoR 9 EhR) (callX1 [105, 110, 116] (litX (bigV [45, 57, 50, 50, 51, 51, 55, 50, 48, 51, 54, 56, 53, 52, 55, 55, 53, 56, 48, 56]))),
pRec 4 (RoR 4 VhR) (intV (-9223372036854775808)),
pRec 14 ExTR (ExT.mk (callX1 [105, 110, 116] (litX (bigV [45, 57, 50, 50, 51, 51, 55, 50, 48, 51, 54, 56, 53, 52, 55, 55, 53, 56, 48, 56]))) (intV (-9223372036854775808)) 0),
pRec 9 (RoR 9 EhR) (nX 1),
pTrs 9 EhR (.cons (nX 1).1 (nX 1).2 .nil),
pRec 9 (RoR 9 EhR) (callX1 [105, 110, 116] (nX 1)),
pRec 4 (RoR 4 VhR) zV,
pRec 14 ExTR (ExT.mk (callX1 [105, 110, 116] (nX 1)) zV 70),
pRec 9 (RoR 9 EhR) (nX 1),
pTrs 9 EhR (.cons (nX 1).1 (nX 1).2 .nil),
pRec 9 (RoR 9 EhR) (callX1 [110, 111, 116] (nX 1)),
pRec 4 (RoR 4 VhR) zV,
pRec 14 ExTR (ExT.mk (callX1 [110, 111, 116] (nX 1)) zV 70),
pRec 4 (RoR 4 VhR) (boolV true),
pRec 9 (RoR 9 EhR) (litX (boolV true)),
pRec 9 (RoR 9 EhR) divX,
pTrs 9 EhR (.cons (litX (boolV true)).1 (litX (boolV true)).2 (.cons divX.1 divX.2 .nil)),
pRec 9 (RoR 9 EhR) (callX2 [111, 114] (litX (boolV true)) divX),
pRec 4 (RoR 4 VhR) (boolV true),
pRec 14 ExTR (ExT.mk (callX2 [111, 114] (litX (boolV true)) divX) (boolV true) 0),
pRec 4 (RoR 4 VhR) (boolV false),
pRec 9 (RoR 9 EhR) (litX (boolV false)),
pRec 9 (RoR 9 EhR) divX,
pTrs 9 EhR (.cons (litX (boolV false)).1 (litX (boolV false)).2 (.cons divX.1 divX.2 .nil)),
pRec 9 (RoR 9 EhR) (callX2 [111, 114] (litX (boolV false)) divX),
pRec 4 (RoR 4 VhR) zV,
pRec 14 ExTR (ExT.mk (callX2 [111, 114] (litX (boolV false)) divX) zV 81),
pRec 9 (RoR 9 EhR) (nX 1),
pRec 9 (RoR 9 EhR) divX,
pTrs 9 EhR (.cons (nX 1).1 (nX 1).2 (.cons divX.1 divX.2 .nil)),
pRec 9 (RoR 9 EhR) (callX2 [97, 110, 100] (nX 1) divX),
pRec 4 (RoR 4 VhR) zV,
pRec 14 ExTR (ExT.mk (callX2 [97, 110, 100] (nX 1) divX) zV 70),
pRec 4 (RoR 4 VhR) (boolV true),
pRec 9 (RoR 9 EhR) (litX (boolV true)),
pRec 9 (RoR 9 EhR) (nX 1),
pTrs 9 EhR (.cons (litX (boolV true)).1 (litX (boolV true)).2 (.cons (nX 1).1 (nX 1).2 .nil)),
pRec 9 (RoR 9 EhR) (callX2 [97, 110, 100] (litX (boolV true)) (nX 1)),
pRec 4 (RoR 4 VhR) zV,
pRec 14 ExTR (ExT.mk (callX2 [97, 110, 100] (litX (boolV true)) (nX 1)) zV 70),
pRec 4 (RoR 4 VhR) (boolV true),
pRec 9 (RoR 9 EhR) (litX (boolV true)),
pRec 9 (RoR 9 EhR) (nX 1),
pRec 9 (RoR 9 EhR) divX,
pTrs 9 EhR (.cons (litX (boolV true)).1 (litX (boolV true)).2 (.cons (nX 1).1 (nX 1).2 (.cons divX.1 divX.2 .nil))),
pRec 9 (RoR 9 EhR) (kX 8 [] (.cons (litX (boolV true)).1 (litX (boolV true)).2 (.cons (nX 1).1 (nX 1).2 (.cons divX.1 divX.2 .nil)))),
pRec 4 (RoR 4 VhR) (intV 1),
pRec 14 ExTR (ExT.mk (kX 8 [] (.cons (litX (boolV true)).1 (litX (boolV true)).2 (.cons (nX 1).1 (nX 1).2 (.cons divX.1 divX.2 .nil)))) (intV 1) 0),
pRec 4 (RoR 4 VhR) (boolV false),
pRec 9 (RoR 9 EhR) (litX (boolV false)),
pRec 9 (RoR 9 EhR) (nX 1),
pRec 9 (RoR 9 EhR) divX,
pTrs 9 EhR (.cons (litX (boolV false)).1 (litX (boolV false)).2 (.cons (nX 1).1 (nX 1).2 (.cons divX.1 divX.2 .nil))),
pRec 9 (RoR 9 EhR) (kX 8 [] (.cons (litX (boolV false)).1 (litX (boolV false)).2 (.cons (nX 1).1 (nX 1).2 (.cons divX.1 divX.2 .nil)))),
pRec 4 (RoR 4 VhR) zV,
pRec 14 ExTR (ExT.mk (kX 8 [] (.cons (litX (boolV false)).1 (litX (boolV false)).2 (.cons (nX 1).1 (nX 1).2 (.cons divX.1 divX.2 .nil)))) zV 81),
pRec 9 (RoR 9 EhR) (nX 1),
pRec 9 (RoR 9 EhR) divX,
pRec 9 (RoR 9 EhR) divX,
pTrs 9 EhR (.cons (nX 1).1 (nX 1).2 (.cons divX.1 divX.2 (.cons divX.1 divX.2 .nil))),
pRec 9 (RoR 9 EhR) (kX 8 [] (.cons (nX 1).1 (nX 1).2 (.cons divX.1 divX.2 (.cons divX.1 divX.2 .nil)))),
pRec 4 (RoR 4 VhR) zV,
pRec 14 ExTR (ExT.mk (kX 8 [] (.cons (nX 1).1 (nX 1).2 (.cons divX.1 divX.2 (.cons divX.1 divX.2 .nil)))) zV 70),
pRec 9 (RoR 9 EhR) (kX 2 [88] Rose.nil),
pRec 4 (RoR 4 VhR) zV,
pRec 14 ExTR (ExT.mk (kX 2 [88] Rose.nil) zV 71),
pRec 9 (RoR 9 EhR) (kX 3 [] Rose.nil),
pRec 4 (RoR 4 VhR) zV,
pRec 14 ExTR (ExT.mk (kX 3 [] Rose.nil) zV 4),
pRec 9 (RoR 9 EhR) (kX 5 [99] Rose.nil),
pRec 4 (RoR 4 VhR) zV,
pRec 14 ExTR (ExT.mk (kX 5 [99] Rose.nil) zV 63),
pRec 9 (RoR 9 EhR) (nX 1),
pTrs 9 EhR (.cons (nX 1).1 (nX 1).2 .nil),
pRec 9 (RoR 9 EhR) (kX 7 [102] (.cons (nX 1).1 (nX 1).2 .nil)),
pRec 4 (RoR 4 VhR) zV,
pRec 14 ExTR (ExT.mk (kX 7 [102] (.cons (nX 1).1 (nX 1).2 .nil)) zV 70),
PM.is (.func (.func 16) ⟨[]⟩ ⟨[]⟩),
pRec 4 (RoR 4 VhR) (intV 1),
pRec 4 (RoR 4 VhR) (textV [97]),
pRec 9 (RoR 9 EhR) (pairX (intV 1) (textV [97])),
PM.is (.func (.func 16) ⟨[]⟩ ⟨[]⟩),
pRec 4 (RoR 4 VhR) (intV 1),
pRec 4 (RoR 4 VhR) (textV [98]),
pRec 9 (RoR 9 EhR) (pairX (intV 1) (textV [98])),
pTrs 9 EhR (.cons (pairX (intV 1) (textV [97])).1 (pairX (intV 1) (textV [97])).2 (.cons (pairX (intV 1) (textV [98])).1 (pairX (intV 1) (textV [98])).2 .nil)),
pRec 9 (RoR 9 EhR) (callX2 [60] (pairX (intV 1) (textV [97])) (pairX (intV 1) (textV [98]))),
pRec 4 (RoR 4 VhR) (boolV true),
pRec 14 ExTR (ExT.mk (callX2 [60] (pairX (intV 1) (textV [97])) (pairX (intV 1) (textV [98]))) (boolV true) 0),
pRec 9 (RoR 9 EhR) (nX 1),
pRec 4 (RoR 4 VhR) (textV [49]),
pRec 9 (RoR 9 EhR) (litX (textV [49])),
pTrs 9 EhR (.cons (nX 1).1 (nX 1).2 (.cons (litX (textV [49])).1 (litX (textV [49])).2 .nil)),
pRec 9 (RoR 9 EhR) (callX2 [61, 61] (nX 1) (litX (textV [49]))),
pRec 4 (RoR 4 VhR) (boolV false),
pRec 14 ExTR (ExT.mk (callX2 [61, 61] (nX 1) (litX (textV [49]))) (boolV false) 0),
pRec 9 (RoR 9 EhR) (nX 1),
pRec 9 (RoR 9 EhR) (nX 1),
pTrs 9 EhR (.cons (nX 1).1 (nX 1).2 (.cons (nX 1).1 (nX 1).2 .nil)),
pRec 9 (RoR 9 EhR) (callX2 [60, 61] (nX 1) (nX 1)),
pRec 4 (RoR 4 VhR) (boolV true),
pRec 14 ExTR (ExT.mk (callX2 [60, 61] (nX 1) (nX 1)) (boolV true) 0),
pRec 9 (RoR 9 EhR) (nX 1),
pRec 9 (RoR 9 EhR) (nX 1),
pTrs 9 EhR (.cons (nX 1).1 (nX 1).2 (.cons (nX 1).1 (nX 1).2 .nil)),
pRec 9 (RoR 9 EhR) (callX2 [62, 61] (nX 1) (nX 1)),
pRec 4 (RoR 4 VhR) (boolV true),
pRec 14 ExTR (ExT.mk (callX2 [62, 61] (nX 1) (nX 1)) (boolV true) 0),
pRec 9 (RoR 9 EhR) (nX 1),
pRec 9 (RoR 9 EhR) (nX 1),
pTrs 9 EhR (.cons (nX 1).1 (nX 1).2 (.cons (nX 1).1 (nX 1).2 .nil)),
pRec 9 (RoR 9 EhR) (callX2 [60] (nX 1) (nX 1)),
pRec 4 (RoR 4 VhR) (boolV false),
pRec 14 ExTR (ExT.mk (callX2 [60] (nX 1) (nX 1)) (boolV false) 0),
pRec 9 (RoR 9 EhR) (nX 1),
pRec 9 (RoR 9 EhR) (nX 1),
pTrs 9 EhR (.cons (nX 1).1 (nX 1).2 (.cons (nX 1).1 (nX 1).2 .nil)),
pRec 9 (RoR 9 EhR) (callX2 [62] (nX 1) (nX 1)),
pRec 4 (RoR 4 VhR) (boolV false),
pRec 14 ExTR (ExT.mk (callX2 [62] (nX 1) (nX 1)) (boolV false) 0),
pRec 9 (RoR 9 EhR) (callH [61, 61], Rose.nil),
pRec 4 (RoR 4 VhR) zV,
pRec 14 ExTR (ExT.mk (callH [61, 61], Rose.nil) zV 4),
pRec 9 (RoR 9 EhR) (nX 1),
pTrs 9 EhR (.cons (nX 1).1 (nX 1).2 .nil),
pRec 9 (RoR 9 EhR) (callX1 [63] (nX 1)),
pRec 4 (RoR 4 VhR) zV,
pRec 14 ExTR (ExT.mk (callX1 [63] (nX 1)) zV 4),
pRec 9 (RoR 9 EhR) divX,
pRec 9 (RoR 9 EhR) (nX 1),
pTrs 9 EhR (.cons (nX 1).1 (nX 1).2 .nil),
pRec 9 (RoR 9 EhR) (callX1 [63] (nX 1)),
pTrs 9 EhR (.cons divX.1 divX.2 (.cons (callX1 [63] (nX 1)).1 (callX1 [63] (nX 1)).2 .nil)),
pRec 9 (RoR 9 EhR) (callX2 [43] divX (callX1 [63] (nX 1))),
pRec 4 (RoR 4 VhR) zV,
pRec 14 ExTR (ExT.mk (callX2 [43] divX (callX1 [63] (nX 1))) zV 4),
pRec 4 (RoR 4 VhR) zV,
pRec 9 (RoR 9 EhR) (litX zV),
pRec 4 (RoR 4 VhR) zV,
pRec 14 ExTR (ExT.mk (litX zV) zV 4),
pRec 9 (RoR 9 EhR) (nX 1),
pTrs 9 EhR (.cons (nX 1).1 (nX 1).2 .nil),
pRec 9 (RoR 9 EhR) (kX 4 [] (.cons (nX 1).1 (nX 1).2 .nil)),
pRec 4 (RoR 4 VhR) zV,
pRec 14 ExTR (ExT.mk (kX 4 [] (.cons (nX 1).1 (nX 1).2 .nil)) zV 4),
pRec 9 (RoR 9 EhR) (kX 4 [] Rose.nil),
pRec 4 (RoR 4 VhR) (VH.mk 5 0 [], Rose.nil),
pRec 14 ExTR (ExT.mk (kX 4 [] Rose.nil) (VH.mk 5 0 [], Rose.nil) 0),
pRec 9 (RoR 9 EhR) divX,
pRec 9 (RoR 9 EhR) (kX 2 [88] Rose.nil),
pTrs 9 EhR (.cons divX.1 divX.2 (.cons (kX 2 [88] Rose.nil).1 (kX 2 [88] Rose.nil).2 .nil)),
pRec 9 (RoR 9 EhR) (callX2 [43] divX (kX 2 [88] Rose.nil)),
pRec 4 (RoR 4 VhR) zV,
pRec 14 ExTR (ExT.mk (callX2 [43] divX (kX 2 [88] Rose.nil)) zV 81),
pRec 9 (RoR 9 EhR) (kX 2 [88] Rose.nil),
pRec 9 (RoR 9 EhR) divX,
pTrs 9 EhR (.cons (kX 2 [88] Rose.nil).1 (kX 2 [88] Rose.nil).2 (.cons divX.1 divX.2 .nil)),
pRec 9 (RoR 9 EhR) (callX2 [43] (kX 2 [88] Rose.nil) divX),
pRec 4 (RoR 4 VhR) zV,
pRec 14 ExTR (ExT.mk (callX2 [43] (kX 2 [88] Rose.nil) divX) zV 71),
pLim 14 ExTR ([(ExT.mk (callX2 [43] topX (nX 1)) zV 80), (ExT.mk (callX2 [45] lowX (nX 1)) zV 80), (ExT.mk (callX2 [42] topX (litX (intV 2))) zV 80), (ExT.mk (callX2 [42] lowX (litX (intV (-1)))) zV 80), (ExT.mk (callX2 [42] lowX (nX 1)) (intV (-9223372036854775808)) 0), (ExT.mk (callX2 [42] (litX (intV (-4294967296))) (litX (intV 2147483648))) (intV (-9223372036854775808)) 0), (ExT.mk (callX2 [42] (litX (intV 4294967296)) (litX (intV 2147483648))) zV 80), (ExT.mk (callX2 [47] lowX (litX (intV (-1)))) zV 80), (ExT.mk (callX2 [37] lowX (litX (intV (-1)))) (intV 0) 0), (ExT.mk (callX2 [37] (nX 1) (litX (intV 0))) zV 81), (ExT.mk (callX1 [110, 101, 103] lowX) zV 80), (ExT.mk (callX1 [110, 101, 103] topX) (intV (-9223372036854775807)) 0), (ExT.mk (callX2 [45] (nX 1) lowX) zV 80), (ExT.mk (callX2 [45] (litX (intV (-1))) lowX) (intV 9223372036854775807) 0), (ExT.mk (callX2 [43] (nX 1) (litX (bigV [49]))) zV 70), (ExT.mk (callX1 [110, 101, 103] (litX (bigV [48]))) (bigV [48]) 0), (ExT.mk (callX2 [43] (litX (bigV (nin 200))) (litX (bigV [49]))) zV 80), (ExT.mk (callX2 [43, 43] longX longX) (textV (zz 4096)) 0), (ExT.mk (callX2 [43, 43] longX (callX2 [43, 43] longX (litX (textV [97])))) zV 80), (ExT.mk (callX2 [43, 43] (nX 1) longX) zV 70), (ExT.mk (callX1 [108, 101, 110] (litX (textV [97, 98]))) (intV 2) 0), (ExT.mk (callX1 [98, 105, 103] (litX (intV 3))) (bigV [51]) 0), (ExT.mk (callX1 [105, 110, 116] (litX (bigV [57, 50, 50, 51, 51, 55, 50, 48, 51, 54, 56, 53, 52, 55, 55, 53, 56, 48, 56]))) zV 80), (ExT.mk (callX1 [105, 110, 116] (litX (bigV [45, 57, 50, 50, 51, 51, 55, 50, 48, 51, 54, 56, 53, 52, 55, 55, 53, 56, 48, 56]))) (intV (-9223372036854775808)) 0), (ExT.mk (callX1 [105, 110, 116] (nX 1)) zV 70), (ExT.mk (callX1 [110, 111, 116] (nX 1)) zV 70), (ExT.mk (callX2 [111, 114] (litX (boolV true)) divX) (boolV true) 0), (ExT.mk (callX2 [111, 114] (litX (boolV false)) divX) zV 81), (ExT.mk (callX2 [97, 110, 100] (nX 1) divX) zV 70), (ExT.mk (callX2 [97, 110, 100] (litX (boolV true)) (nX 1)) zV 70), (ExT.mk (kX 8 [] (.cons (litX (boolV true)).1 (litX (boolV true)).2 (.cons (nX 1).1 (nX 1).2 (.cons divX.1 divX.2 .nil)))) (intV 1) 0), (ExT.mk (kX 8 [] (.cons (litX (boolV false)).1 (litX (boolV false)).2 (.cons (nX 1).1 (nX 1).2 (.cons divX.1 divX.2 .nil)))) zV 81), (ExT.mk (kX 8 [] (.cons (nX 1).1 (nX 1).2 (.cons divX.1 divX.2 (.cons divX.1 divX.2 .nil)))) zV 70), (ExT.mk (kX 2 [88] Rose.nil) zV 71), (ExT.mk (kX 3 [] Rose.nil) zV 4), (ExT.mk (kX 5 [99] Rose.nil) zV 63), (ExT.mk (kX 7 [102] (.cons (nX 1).1 (nX 1).2 .nil)) zV 70), (ExT.mk (callX2 [60] (pairX (intV 1) (textV [97])) (pairX (intV 1) (textV [98]))) (boolV true) 0), (ExT.mk (callX2 [61, 61] (nX 1) (litX (textV [49]))) (boolV false) 0), (ExT.mk (callX2 [60, 61] (nX 1) (nX 1)) (boolV true) 0), (ExT.mk (callX2 [62, 61] (nX 1) (nX 1)) (boolV true) 0), (ExT.mk (callX2 [60] (nX 1) (nX 1)) (boolV false) 0), (ExT.mk (callX2 [62] (nX 1) (nX 1)) (boolV false) 0), (ExT.mk (callH [61, 61], Rose.nil) zV 4), (ExT.mk (callX1 [63] (nX 1)) zV 4), (ExT.mk (callX2 [43] divX (callX1 [63] (nX 1))) zV 4), (ExT.mk (litX zV) zV 4), (ExT.mk (kX 4 [] (.cons (nX 1).1 (nX 1).2 .nil)) zV 4), (ExT.mk (kX 4 [] Rose.nil) (VH.mk 5 0 [], Rose.nil) 0), (ExT.mk (callX2 [43] divX (kX 2 [88] Rose.nil)) zV 81), (ExT.mk (callX2 [43] (kX 2 [88] Rose.nil) divX) zV 71)] : List ExT),
PM.is (.int .i64 51),
PM.is (.int .i64 0)]
theorem zzEnF0 {p : Prop} (h : p := by (replace S := stOne (St.pullB b5 S); refine ⟨_, b5, _, T.mono (fun b o h => hF41 _ _ (hF40 _ _ (hF39 _ _ (hF38 _ _ h)))), r41, ?_⟩; (refine S.keep ?_; exact zk))) : p := h
theorem enNamesCt (F : Heap) (K : EnK F) : Ct Tryz.prog 4 [] F [] (fun _ _ u => u = .bool true) := by
  refine Ct.enter Tryz.func4 rfl Tryz.ntmps4 rfl fun w0 a S => ?_
  (revert S a; refine go 6 ?_; intro Z hZ Z hZ a S)
  (refine wc0 S (worksCt F K.T K.E) ?_; clear S a; intro v9 a w hv S; subst hv)
  iterate 17 (refine wv S (sv_lit (c := false) (sv_pure S rfl) (by rfl)) ?_; clear S a; intro a S)
  (revert S a; revert hZ Z; refine go 2 ?_; intro a S)
  refine wpc_false S rfl ?_
  (revert S a; revert hZ Z; refine go 3 ?_; intro Z hZ a S)
  (refine wcF S (lnumCt F _) ?_; clear S a; intro v27 F27 a w hv hF27 S; obtain ⟨c27, rfl, -, r27⟩ := hv; obtain ⟨xa27, xb27, he27, -, -⟩ := vac_slc (ror_vac r27); subst he27; replace K := K.mono hF27)
  (refine wcF S (llitCt F27 _ _ r27) ?_; clear S a; intro v28 F28 a w hv hF28 S; obtain ⟨c28, rfl, -, r28⟩ := hv; obtain ⟨xa28, xb28, xc28, xd28, xe28, he28, -, -⟩ := exc_slc (ror_exc r28); subst he28; replace K := K.mono hF28)
  (refine wpl_alloc S rfl rfl rfl rfl ?_; clear S a; intro b1 a w S)
  (refine wso S rfl rfl ?_; clear S; intro w S)
  (revert S a; revert hZ Z; refine go 3 ?_; intro Z hZ a S)
  (refine wcF S (lnumCt F28 _) ?_; clear S a; intro v29 F29 a w hv hF29 S; obtain ⟨c29, rfl, -, r29⟩ := hv; obtain ⟨xa29, xb29, he29, -, -⟩ := vac_slc (ror_vac r29); subst he29; replace K := K.mono hF29)
  (refine wcF S (llitCt F29 _ _ r29) ?_; clear S a; intro v30 F30 a w hv hF30 S; obtain ⟨c30, rfl, -, r30⟩ := hv; obtain ⟨xa30, xb30, xc30, xd30, xe30, he30, -, -⟩ := exc_slc (ror_exc r30); subst he30; replace K := K.mono hF30)
  (refine wpl_alloc S rfl rfl rfl rfl ?_; clear S a; intro b2 a w S)
  (refine wso S rfl rfl ?_; clear S; intro w S)
  (revert S a; revert hZ Z; refine go 3 ?_; intro Z hZ a S)
  (refine wcF S (lnumCt F30 _) ?_; clear S a; intro v31 F31 a w hv hF31 S; obtain ⟨c31, rfl, -, r31⟩ := hv; obtain ⟨xa31, xb31, he31, -, -⟩ := vac_slc (ror_vac r31); subst he31; replace K := K.mono hF31)
  (refine wcF S (llitCt F31 _ _ r31) ?_; clear S a; intro v32 F32 a w hv hF32 S; obtain ⟨c32, rfl, -, r32⟩ := hv; obtain ⟨xa32, xb32, xc32, xd32, xe32, he32, -, -⟩ := exc_slc (ror_exc r32); subst he32; replace K := K.mono hF32)
  (refine wpl_alloc S rfl rfl rfl rfl ?_; clear S a; intro b3 a w S)
  (refine wso S rfl rfl ?_; clear S; intro w S)
  (revert S a; revert hZ Z; refine go 3 ?_; intro Z hZ a S)
  (refine wpl_makeSlice (q := 2048) S rfl rfl rfl rfl rfl rfl rfl (by decide) (by decide) ?_; clear S a; intro b33 a w hown S)
  (refine wv S (sv_toStr (l := zz 2048) S rfl rfl (by rw [zz_map]; exact hown)) ?_; clear S a; intro a S; clear hown; replace S := S.drop1)
  (refine wcF S (ltextCt F32 (zz 2048) zz_len) ?_; clear S a; intro v35 F35 a w hv hF35 S; obtain ⟨c35, rfl, -, r35⟩ := hv; obtain ⟨xa35, xb35, he35, -, -⟩ := vac_slc (ror_vac r35); subst he35; replace K := K.mono hF35)
  (refine wcF S (llitCt F35 _ _ r35) ?_; clear S a; intro v36 F36 a w hv hF36 S; obtain ⟨c36, rfl, -, r36⟩ := hv; obtain ⟨xa36, xb36, xc36, xd36, xe36, he36, -, -⟩ := exc_slc (ror_exc r36); subst he36; replace K := K.mono hF36)
  (refine wpl_alloc S rfl rfl rfl rfl ?_; clear S a; intro b4 a w S)
  (refine wso S rfl rfl ?_; clear S; intro w S)
  (revert S a; revert hZ Z; refine go 2 ?_; intro a S)
  (refine wp_seq_k ?_; intro Z hZ)
  replace hZ : ∀ (a' : Act) (w' : World), (∃ (D : Heap) (b5 : Nat) (cs5 : List Value), EnT D b1 b2 b3 b4 ∧ ReR D divX cs5 ∧ St 383 [(0, .bool false), (1, ptr b1), (2, ptr b2), (3, ptr b3), (4, ptr b4), (5, ptr b5)] w0 F [] D [[(b5, .cells ⟨cs5⟩ 36 (0, 0))]] a' w') → Z a' w' := (by
   (intro a w hM; refine hZ _ _ ?_; clear hZ Z; clear S; obtain ⟨D, b5, cs5, T, k5, S⟩ := hM)
   (revert S a; refine go 5 ?_; intro Z hZ a S)
   (refine wp_seq_k ?_; intro Z hZ)
   (replace S := St.pullB b5 S; have S' := frz1 S; clear S; obtain ⟨E5, hE5, hb5, S⟩ := S'; replace T := T.mono hE5; have c5 := cels_of hb5; replace k5 := Mon.h hE5 k5; have K := T.K; obtain ⟨cs1, c1, k1⟩ := T.f1; obtain ⟨cs2, c2, k2⟩ := T.f2; obtain ⟨cs3, c3, k3⟩ := T.f3; obtain ⟨cs4, c4, k4⟩ := T.f4; obtain ⟨ya1, yb1, yc1, yd1, ye1, ey1, -, -⟩ := exc_slc (ror_exc k1); subst ey1; obtain ⟨ya2, yb2, yc2, yd2, ye2, ey2, -, -⟩ := exc_slc (ror_exc k2); subst ey2; obtain ⟨ya3, yb3, yc3, yd3, ye3, ey3, -, -⟩ := exc_slc (ror_exc k3); subst ey3; obtain ⟨ya4, yb4, yc4, yd4, ye4, ey4, -, -⟩ := exc_slc (ror_exc k4); subst ey4; obtain ⟨ya5, yb5, yc5, yd5, ye5, ey5, -, -⟩ := exc_slc (ror_exc k5); subst ey5)
   refine wpc_facts (L0 := [(0, .bool false), (6, .func (.func 16) ⟨[]⟩ ⟨[]⟩), (1, ptr b1), (2, ptr b2), (3, ptr b3), (4, ptr b4), (5, ptr b5)]) enD (enP) (S.keep ⟨rfl, rfl, rfl, rfl, rfl, rfl, rfl, trivial⟩) mixed (by kernel_rfl) ?_ ?_
   · (clear S)
     refine ⟨dy_load c1 k1, ?_⟩
     refine ⟨dy_load c3 k3, ?_⟩
     refine ⟨dy_sl2 (e := 36) 0 1, ?_⟩
     refine ⟨dy_call 2, ?_⟩
     refine ⟨dy_zero, ?_⟩
     refine ⟨dy_row 3 4 (n9 := 80), ?_⟩
     refine ⟨dy_load c2 k2, ?_⟩
     refine ⟨dy_load c3 k3, ?_⟩
     refine ⟨dy_sl2 (e := 36) 6 7, ?_⟩
     refine ⟨dy_call 8, ?_⟩
     refine ⟨dy_zero, ?_⟩
     refine ⟨dy_row 9 10 (n9 := 80), ?_⟩
     refine ⟨dy_load c1 k1, ?_⟩
     refine ⟨dy_c1 (fun F => lnumCt F 2), ?_⟩
     refine ⟨dy_r1 (sz1 := 4) (fun F cs h => llitCt F (intV 2) cs h) 13, ?_⟩
     refine ⟨dy_sl2 (e := 36) 12 14, ?_⟩
     refine ⟨dy_call 15, ?_⟩
     refine ⟨dy_zero, ?_⟩
     refine ⟨dy_row 16 17 (n9 := 80), ?_⟩
     refine ⟨dy_load c2 k2, ?_⟩
     refine ⟨dy_c1 (fun F => lnumCt F (-1)), ?_⟩
     refine ⟨dy_r1 (sz1 := 4) (fun F cs h => llitCt F (intV (-1)) cs h) 20, ?_⟩
     refine ⟨dy_sl2 (e := 36) 19 21, ?_⟩
     refine ⟨dy_call 22, ?_⟩
     refine ⟨dy_zero, ?_⟩
     refine ⟨dy_row 23 24 (n9 := 80), ?_⟩
     refine ⟨dy_load c2 k2, ?_⟩
     refine ⟨dy_load c3 k3, ?_⟩
     refine ⟨dy_sl2 (e := 36) 26 27, ?_⟩
     refine ⟨dy_call 28, ?_⟩
     refine ⟨dy_c1 (fun F => lnumCt F (-9223372036854775808)), ?_⟩
     refine ⟨dy_row 29 30 (n9 := 0), ?_⟩
     refine ⟨dy_c1 (fun F => lnumCt F (-4294967296)), ?_⟩
     refine ⟨dy_r1 (sz1 := 4) (fun F cs h => llitCt F (intV (-4294967296)) cs h) 32, ?_⟩
     refine ⟨dy_c1 (fun F => lnumCt F 2147483648), ?_⟩
     refine ⟨dy_r1 (sz1 := 4) (fun F cs h => llitCt F (intV 2147483648) cs h) 34, ?_⟩
     refine ⟨dy_sl2 (e := 36) 33 35, ?_⟩
     refine ⟨dy_call 36, ?_⟩
     refine ⟨dy_c1 (fun F => lnumCt F (-9223372036854775808)), ?_⟩
     refine ⟨dy_row 37 38 (n9 := 0), ?_⟩
     refine ⟨dy_c1 (fun F => lnumCt F 4294967296), ?_⟩
     refine ⟨dy_r1 (sz1 := 4) (fun F cs h => llitCt F (intV 4294967296) cs h) 40, ?_⟩
     refine ⟨dy_c1 (fun F => lnumCt F 2147483648), ?_⟩
     refine ⟨dy_r1 (sz1 := 4) (fun F cs h => llitCt F (intV 2147483648) cs h) 42, ?_⟩
     refine ⟨dy_sl2 (e := 36) 41 43, ?_⟩
     refine ⟨dy_call 44, ?_⟩
     refine ⟨dy_zero, ?_⟩
     refine ⟨dy_row 45 46 (n9 := 80), ?_⟩
     refine ⟨dy_load c2 k2, ?_⟩
     refine ⟨dy_c1 (fun F => lnumCt F (-1)), ?_⟩
     refine ⟨dy_r1 (sz1 := 4) (fun F cs h => llitCt F (intV (-1)) cs h) 49, ?_⟩
     refine ⟨dy_sl2 (e := 36) 48 50, ?_⟩
     refine ⟨dy_call 51, ?_⟩
     refine ⟨dy_zero, ?_⟩
     refine ⟨dy_row 52 53 (n9 := 80), ?_⟩
     refine ⟨dy_load c2 k2, ?_⟩
     refine ⟨dy_c1 (fun F => lnumCt F (-1)), ?_⟩
     refine ⟨dy_r1 (sz1 := 4) (fun F cs h => llitCt F (intV (-1)) cs h) 56, ?_⟩
     refine ⟨dy_sl2 (e := 36) 55 57, ?_⟩
     refine ⟨dy_call 58, ?_⟩
     refine ⟨dy_c1 (fun F => lnumCt F 0), ?_⟩
     refine ⟨dy_row 59 60 (n9 := 0), ?_⟩
     refine ⟨dy_load c3 k3, ?_⟩
     refine ⟨dy_c1 (fun F => lnumCt F 0), ?_⟩
     refine ⟨dy_r1 (sz1 := 4) (fun F cs h => llitCt F (intV 0) cs h) 63, ?_⟩
     refine ⟨dy_sl2 (e := 36) 62 64, ?_⟩
     refine ⟨dy_call 65, ?_⟩
     refine ⟨dy_zero, ?_⟩
     refine ⟨dy_row 66 67 (n9 := 81), ?_⟩
     refine ⟨dy_load c2 k2, ?_⟩
     refine ⟨dy_sl1 (e := 36) 69, ?_⟩
     refine ⟨dy_call 70, ?_⟩
     refine ⟨dy_zero, ?_⟩
     refine ⟨dy_row 71 72 (n9 := 80), ?_⟩
     refine ⟨dy_load c1 k1, ?_⟩
     refine ⟨dy_sl1 (e := 36) 74, ?_⟩
     refine ⟨dy_call 75, ?_⟩
     refine ⟨dy_c1 (fun F => lnumCt F (-9223372036854775807)), ?_⟩
     refine ⟨dy_row 76 77 (n9 := 0), ?_⟩
     refine ⟨dy_load c3 k3, ?_⟩
     refine ⟨dy_load c2 k2, ?_⟩
     refine ⟨dy_sl2 (e := 36) 79 80, ?_⟩
     refine ⟨dy_call 81, ?_⟩
     refine ⟨dy_zero, ?_⟩
     refine ⟨dy_row 82 83 (n9 := 80), ?_⟩
     refine ⟨dy_c1 (fun F => lnumCt F (-1)), ?_⟩
     refine ⟨dy_r1 (sz1 := 4) (fun F cs h => llitCt F (intV (-1)) cs h) 85, ?_⟩
     refine ⟨dy_load c2 k2, ?_⟩
     refine ⟨dy_sl2 (e := 36) 86 87, ?_⟩
     refine ⟨dy_call 88, ?_⟩
     refine ⟨dy_c1 (fun F => lnumCt F 9223372036854775807), ?_⟩
     refine ⟨dy_row 89 90 (n9 := 0), ?_⟩
     refine ⟨dy_load c3 k3, ?_⟩
     refine ⟨dy_c1 (fun F => lhugeCt F [49] (by decide)), ?_⟩
     refine ⟨dy_r1 (sz1 := 4) (fun F cs h => llitCt F (bigV [49]) cs h) 93, ?_⟩
     refine ⟨dy_sl2 (e := 36) 92 94, ?_⟩
     refine ⟨dy_call 95, ?_⟩
     refine ⟨dy_zero, ?_⟩
     refine ⟨dy_row 96 97 (n9 := 70), ?_⟩
     refine ⟨dy_c1 (fun F => lhugeCt F [48] (by decide)), ?_⟩
     refine ⟨dy_r1 (sz1 := 4) (fun F cs h => llitCt F (bigV [48]) cs h) 99, ?_⟩
     refine ⟨dy_sl1 (e := 36) 100, ?_⟩
     refine ⟨dy_call 101, ?_⟩
     refine ⟨dy_c1 (fun F => lhugeCt F [48] (by decide)), ?_⟩
     refine ⟨dy_row 102 103 (n9 := 0), ?_⟩
     refine ⟨?_, ?_⟩
     · rintro L F a w hF hL S -
       replace S := S.keep (kp0)
       refine stepM_of rfl ?_
       (refine wc0 S (ninesCt 200 _ (by decide)) ?_; clear S a; intro v a w hv S; subst hv)
       exact wpList_nil ⟨_, _, fun _ _ h => h, S.keep ⟨rfl, trivial⟩, rfl⟩
     refine ⟨dy_s1 (fun F => lhugeCt F (nin 200) (by decide)) 105, ?_⟩
     refine ⟨dy_r1 (sz1 := 4) (fun F cs h => llitCt F (bigV (nin 200)) cs h) 106, ?_⟩
     refine ⟨dy_c1 (fun F => lhugeCt F [49] (by decide)), ?_⟩
     refine ⟨dy_r1 (sz1 := 4) (fun F cs h => llitCt F (bigV [49]) cs h) 108, ?_⟩
     refine ⟨dy_sl2 (e := 36) 107 109, ?_⟩
     refine ⟨dy_call 110, ?_⟩
     refine ⟨dy_zero, ?_⟩
     refine ⟨dy_row 111 112 (n9 := 80), ?_⟩
     refine ⟨dy_load c4 k4, ?_⟩
     refine ⟨dy_load c4 k4, ?_⟩
     refine ⟨dy_sl2 (e := 36) 114 115, ?_⟩
     refine ⟨dy_call 116, ?_⟩
     refine ⟨?_, ?_⟩
     · rintro L F a w hF hL S -
       replace S := S.keep (kp0)
       refine stepM_of rfl ?_
       (refine wpl_makeSlice (q := 4096) S rfl rfl rfl rfl rfl rfl rfl (by decide) (by decide) ?_; clear S a; intro b a w hown S; have S' := frz1 S; clear S; obtain ⟨F', hle, hb, S⟩ := S')
       exact wpList_nil ⟨_, _, hle, S.keep ⟨rfl, trivial⟩, ⟨b, rfl, cels_of hb⟩⟩
     refine ⟨?_, ?_⟩
     · rintro L F a w hF hL S ⟨h0, -⟩
       obtain ⟨v160, e160, bz160, rfl, hz160⟩ := h0 rfl
       replace S := S.keep (kp e160 kp0)
       refine stepM_of rfl ?_
       (refine wv S (sv_toStrF (l := zz 4096) S rfl rfl (by rw [zz_map]; exact ⟨rfl, hz160⟩)) ?_; clear S a; intro a S)
       exact wpList_nil ⟨_, _, fun _ _ h => h, S.keep ⟨rfl, trivial⟩, rfl⟩
     refine ⟨dy_s1 (fun F => ltextCt F (zz 4096) (zz_len)) 119, ?_⟩
     refine ⟨dy_row 117 120 (n9 := 0), ?_⟩
     refine ⟨dy_load c4 k4, ?_⟩
     refine ⟨dy_load c4 k4, ?_⟩
     refine ⟨dy_c1 (fun F => ltextCt F [97] (by decide)), ?_⟩
     refine ⟨dy_r1 (sz1 := 4) (fun F cs h => llitCt F (textV [97]) cs h) 124, ?_⟩
     refine ⟨dy_sl2 (e := 36) 123 125, ?_⟩
     refine ⟨dy_call 126, ?_⟩
     refine ⟨dy_sl2 (e := 36) 122 127, ?_⟩
     refine ⟨dy_call 128, ?_⟩
     refine ⟨dy_zero, ?_⟩
     refine ⟨dy_row 129 130 (n9 := 80), ?_⟩
     refine ⟨dy_load c3 k3, ?_⟩
     refine ⟨dy_load c4 k4, ?_⟩
     refine ⟨dy_sl2 (e := 36) 132 133, ?_⟩
     refine ⟨dy_call 134, ?_⟩
     refine ⟨dy_zero, ?_⟩
     refine ⟨dy_row 135 136 (n9 := 70), ?_⟩
     refine ⟨dy_c1 (fun F => ltextCt F [97, 98] (by decide)), ?_⟩
     refine ⟨dy_r1 (sz1 := 4) (fun F cs h => llitCt F (textV [97, 98]) cs h) 138, ?_⟩
     refine ⟨dy_sl1 (e := 36) 139, ?_⟩
     refine ⟨dy_call 140, ?_⟩
     refine ⟨dy_c1 (fun F => lnumCt F 2), ?_⟩
     refine ⟨dy_row 141 142 (n9 := 0), ?_⟩
     refine ⟨dy_c1 (fun F => lnumCt F 3), ?_⟩
     refine ⟨dy_r1 (sz1 := 4) (fun F cs h => llitCt F (intV 3) cs h) 144, ?_⟩
     refine ⟨dy_sl1 (e := 36) 145, ?_⟩
     refine ⟨dy_call 146, ?_⟩
     refine ⟨dy_c1 (fun F => lhugeCt F [51] (by decide)), ?_⟩
     refine ⟨dy_row 147 148 (n9 := 0), ?_⟩
     refine ⟨dy_c1 (fun F => lhugeCt F [57, 50, 50, 51, 51, 55, 50, 48, 51, 54, 56, 53, 52, 55, 55, 53, 56, 48, 56] (by decide)), ?_⟩
     refine ⟨dy_r1 (sz1 := 4) (fun F cs h => llitCt F (bigV [57, 50, 50, 51, 51, 55, 50, 48, 51, 54, 56, 53, 52, 55, 55, 53, 56, 48, 56]) cs h) 150, ?_⟩
     refine ⟨dy_sl1 (e := 36) 151, ?_⟩
     refine ⟨dy_call 152, ?_⟩
     refine ⟨dy_zero, ?_⟩
     refine ⟨dy_row 153 154 (n9 := 80), ?_⟩
     refine ⟨dy_c1 (fun F => lhugeCt F [45, 57, 50, 50, 51, 51, 55, 50, 48, 51, 54, 56, 53, 52, 55, 55, 53, 56, 48, 56] (by decide)), ?_⟩
     refine ⟨dy_r1 (sz1 := 4) (fun F cs h => llitCt F (bigV [45, 57, 50, 50, 51, 51, 55, 50, 48, 51, 54, 56, 53, 52, 55, 55, 53, 56, 48, 56]) cs h) 156, ?_⟩
     refine ⟨dy_sl1 (e := 36) 157, ?_⟩
     refine ⟨dy_call 158, ?_⟩
     refine ⟨dy_c1 (fun F => lnumCt F (-9223372036854775808)), ?_⟩
     refine ⟨dy_row 159 160 (n9 := 0), ?_⟩
     refine ⟨dy_load c3 k3, ?_⟩
     refine ⟨dy_sl1 (e := 36) 162, ?_⟩
     refine ⟨dy_call 163, ?_⟩
     refine ⟨dy_zero, ?_⟩
     refine ⟨dy_row 164 165 (n9 := 70), ?_⟩
     refine ⟨dy_load c3 k3, ?_⟩
     refine ⟨dy_sl1 (e := 36) 167, ?_⟩
     refine ⟨dy_call 168, ?_⟩
     refine ⟨dy_zero, ?_⟩
     refine ⟨dy_row 169 170 (n9 := 70), ?_⟩
     refine ⟨dy_c1 (fun F => ltruthCt F true), ?_⟩
     refine ⟨dy_r1 (sz1 := 4) (fun F cs h => llitCt F (boolV true) cs h) 172, ?_⟩
     refine ⟨dy_load c5 k5, ?_⟩
     refine ⟨dy_sl2 (e := 36) 173 174, ?_⟩
     refine ⟨dy_call 175, ?_⟩
     refine ⟨dy_c1 (fun F => ltruthCt F true), ?_⟩
     refine ⟨dy_row 176 177 (n9 := 0), ?_⟩
     refine ⟨dy_c1 (fun F => ltruthCt F false), ?_⟩
     refine ⟨dy_r1 (sz1 := 4) (fun F cs h => llitCt F (boolV false) cs h) 179, ?_⟩
     refine ⟨dy_load c5 k5, ?_⟩
     refine ⟨dy_sl2 (e := 36) 180 181, ?_⟩
     refine ⟨dy_call 182, ?_⟩
     refine ⟨dy_zero, ?_⟩
     refine ⟨dy_row 183 184 (n9 := 81), ?_⟩
     refine ⟨dy_load c3 k3, ?_⟩
     refine ⟨dy_load c5 k5, ?_⟩
     refine ⟨dy_sl2 (e := 36) 186 187, ?_⟩
     refine ⟨dy_call 188, ?_⟩
     refine ⟨dy_zero, ?_⟩
     refine ⟨dy_row 189 190 (n9 := 70), ?_⟩
     refine ⟨dy_c1 (fun F => ltruthCt F true), ?_⟩
     refine ⟨dy_r1 (sz1 := 4) (fun F cs h => llitCt F (boolV true) cs h) 192, ?_⟩
     refine ⟨dy_load c3 k3, ?_⟩
     refine ⟨dy_sl2 (e := 36) 193 194, ?_⟩
     refine ⟨dy_call 195, ?_⟩
     refine ⟨dy_zero, ?_⟩
     refine ⟨dy_row 196 197 (n9 := 70), ?_⟩
     refine ⟨dy_c1 (fun F => ltruthCt F true), ?_⟩
     refine ⟨dy_r1 (sz1 := 4) (fun F cs h => llitCt F (boolV true) cs h) 199, ?_⟩
     refine ⟨dy_load c3 k3, ?_⟩
     refine ⟨dy_load c5 k5, ?_⟩
     refine ⟨dy_sl3 (e := 36) 200 201 202, ?_⟩
     refine ⟨?_, ?_⟩
     · rintro L F a w hF hL S ⟨h0, -⟩
       obtain ⟨v245, e245, p245⟩ := h0 rfl
       have q245 := p245; obtain ⟨oa245, oc245, rfl, -⟩ := p245
       replace S := S.keep (kp e245 kp0)
       refine stepM_of rfl ?_
       (revert S a; refine go 1 ?_; intro a S)
       exact wpList_nil ⟨_, _, fun _ _ h => h, S.keep ⟨rfl, trivial⟩, ⟨_, rfl, rfl, ⟨[_, _, _, _, _, _, _, _], _, rfl, rfl, ⟨_, rfl, (TrS.nil _ _ _)⟩, q245⟩⟩⟩
     refine ⟨dy_c1 (fun F => lnumCt F 1), ?_⟩
     refine ⟨dy_row 204 205 (n9 := 0), ?_⟩
     refine ⟨dy_c1 (fun F => ltruthCt F false), ?_⟩
     refine ⟨dy_r1 (sz1 := 4) (fun F cs h => llitCt F (boolV false) cs h) 207, ?_⟩
     refine ⟨dy_load c3 k3, ?_⟩
     refine ⟨dy_load c5 k5, ?_⟩
     refine ⟨dy_sl3 (e := 36) 208 209 210, ?_⟩
     refine ⟨?_, ?_⟩
     · rintro L F a w hF hL S ⟨h0, -⟩
       obtain ⟨v253, e253, p253⟩ := h0 rfl
       have q253 := p253; obtain ⟨oa253, oc253, rfl, -⟩ := p253
       replace S := S.keep (kp e253 kp0)
       refine stepM_of rfl ?_
       (revert S a; refine go 1 ?_; intro a S)
       exact wpList_nil ⟨_, _, fun _ _ h => h, S.keep ⟨rfl, trivial⟩, ⟨_, rfl, rfl, ⟨[_, _, _, _, _, _, _, _], _, rfl, rfl, ⟨_, rfl, (TrS.nil _ _ _)⟩, q253⟩⟩⟩
     refine ⟨dy_zero, ?_⟩
     refine ⟨dy_row 212 213 (n9 := 81), ?_⟩
     refine ⟨dy_load c3 k3, ?_⟩
     refine ⟨dy_load c5 k5, ?_⟩
     refine ⟨dy_load c5 k5, ?_⟩
     refine ⟨dy_sl3 (e := 36) 215 216 217, ?_⟩
     refine ⟨?_, ?_⟩
     · rintro L F a w hF hL S ⟨h0, -⟩
       obtain ⟨v260, e260, p260⟩ := h0 rfl
       have q260 := p260; obtain ⟨oa260, oc260, rfl, -⟩ := p260
       replace S := S.keep (kp e260 kp0)
       refine stepM_of rfl ?_
       (revert S a; refine go 1 ?_; intro a S)
       exact wpList_nil ⟨_, _, fun _ _ h => h, S.keep ⟨rfl, trivial⟩, ⟨_, rfl, rfl, ⟨[_, _, _, _, _, _, _, _], _, rfl, rfl, ⟨_, rfl, (TrS.nil _ _ _)⟩, q260⟩⟩⟩
     refine ⟨dy_zero, ?_⟩
     refine ⟨dy_row 219 220 (n9 := 70), ?_⟩
     refine ⟨?_, ?_⟩
     · rintro L F a w hF hL S -
       replace S := S.keep (kp0)
       refine stepM_of rfl ?_
       (revert S a; refine go 1 ?_; intro a S)
       exact wpList_nil ⟨_, _, fun _ _ h => h, S.keep ⟨rfl, trivial⟩, ⟨_, rfl, rfl, ⟨[_, _, _, _, _, _, _, _], _, rfl, rfl, ⟨_, rfl, (TrS.nil _ _ _)⟩, (TrS.nil _ _ _)⟩⟩⟩
     refine ⟨dy_zero, ?_⟩
     refine ⟨dy_row 222 223 (n9 := 71), ?_⟩
     refine ⟨?_, ?_⟩
     · rintro L F a w hF hL S -
       replace S := S.keep (kp0)
       refine stepM_of rfl ?_
       (revert S a; refine go 1 ?_; intro a S)
       exact wpList_nil ⟨_, _, fun _ _ h => h, S.keep ⟨rfl, trivial⟩, ⟨_, rfl, rfl, ⟨[_, _, _, _, _, _, _, _], _, rfl, rfl, ⟨_, rfl, (TrS.nil _ _ _)⟩, (TrS.nil _ _ _)⟩⟩⟩
     refine ⟨dy_zero, ?_⟩
     refine ⟨dy_row 225 226 (n9 := 4), ?_⟩
     refine ⟨?_, ?_⟩
     · rintro L F a w hF hL S -
       replace S := S.keep (kp0)
       refine stepM_of rfl ?_
       (revert S a; refine go 1 ?_; intro a S)
       exact wpList_nil ⟨_, _, fun _ _ h => h, S.keep ⟨rfl, trivial⟩, ⟨_, rfl, rfl, ⟨[_, _, _, _, _, _, _, _], _, rfl, rfl, ⟨_, rfl, (TrS.nil _ _ _)⟩, (TrS.nil _ _ _)⟩⟩⟩
     refine ⟨dy_zero, ?_⟩
     refine ⟨dy_row 228 229 (n9 := 63), ?_⟩
     refine ⟨dy_load c3 k3, ?_⟩
     refine ⟨dy_sl1 (e := 36) 231, ?_⟩
     refine ⟨?_, ?_⟩
     · rintro L F a w hF hL S ⟨h0, -⟩
       obtain ⟨v274, e274, p274⟩ := h0 rfl
       have q274 := p274; obtain ⟨oa274, oc274, rfl, -⟩ := p274
       replace S := S.keep (kp e274 kp0)
       refine stepM_of rfl ?_
       (revert S a; refine go 1 ?_; intro a S)
       exact wpList_nil ⟨_, _, fun _ _ h => h, S.keep ⟨rfl, trivial⟩, ⟨_, rfl, rfl, ⟨[_, _, _, _, _, _, _, _], _, rfl, rfl, ⟨_, rfl, (TrS.nil _ _ _)⟩, q274⟩⟩⟩
     refine ⟨dy_zero, ?_⟩
     refine ⟨dy_row 233 234 (n9 := 70), ?_⟩
     refine ⟨?_, ?_⟩
     · rintro L F a w hF hL S -
       replace S := S.keep (kp (hL 6 _ rfl) kp0)
       refine stepM_of rfl ?_
       (revert S a; refine go 1 ?_; intro a S)
       exact wpList_nil ⟨_, _, fun _ _ h => h, S.keep ⟨rfl, trivial⟩, rfl⟩
     refine ⟨dy_c1 (fun F => lnumCt F 1), ?_⟩
     refine ⟨dy_c1 (fun F => ltextCt F [97] (by decide)), ?_⟩
     refine ⟨dy_p2 (sz1 := 4) (fun F c1 c2 h1 h2 => enPairCt F (intV 1) (textV [97]) c1 c2 h1 h2) 236 237 238, ?_⟩
     refine ⟨?_, ?_⟩
     · rintro L F a w hF hL S -
       replace S := S.keep (kp (hL 6 _ rfl) kp0)
       refine stepM_of rfl ?_
       (revert S a; refine go 1 ?_; intro a S)
       exact wpList_nil ⟨_, _, fun _ _ h => h, S.keep ⟨rfl, trivial⟩, rfl⟩
     refine ⟨dy_c1 (fun F => lnumCt F 1), ?_⟩
     refine ⟨dy_c1 (fun F => ltextCt F [98] (by decide)), ?_⟩
     refine ⟨dy_p2 (sz1 := 4) (fun F c1 c2 h1 h2 => enPairCt F (intV 1) (textV [98]) c1 c2 h1 h2) 240 241 242, ?_⟩
     refine ⟨dy_sl2 (e := 36) 239 243, ?_⟩
     refine ⟨dy_call 244, ?_⟩
     refine ⟨dy_c1 (fun F => ltruthCt F true), ?_⟩
     refine ⟨dy_row 245 246 (n9 := 0), ?_⟩
     refine ⟨dy_load c3 k3, ?_⟩
     refine ⟨dy_c1 (fun F => ltextCt F [49] (by decide)), ?_⟩
     refine ⟨dy_r1 (sz1 := 4) (fun F cs h => llitCt F (textV [49]) cs h) 249, ?_⟩
     refine ⟨dy_sl2 (e := 36) 248 250, ?_⟩
     refine ⟨dy_call 251, ?_⟩
     refine ⟨dy_c1 (fun F => ltruthCt F false), ?_⟩
     refine ⟨dy_row 252 253 (n9 := 0), ?_⟩
     refine ⟨dy_load c3 k3, ?_⟩
     refine ⟨dy_load c3 k3, ?_⟩
     refine ⟨dy_sl2 (e := 36) 255 256, ?_⟩
     refine ⟨dy_call 257, ?_⟩
     refine ⟨dy_c1 (fun F => ltruthCt F true), ?_⟩
     refine ⟨dy_row 258 259 (n9 := 0), ?_⟩
     refine ⟨dy_load c3 k3, ?_⟩
     refine ⟨dy_load c3 k3, ?_⟩
     refine ⟨dy_sl2 (e := 36) 261 262, ?_⟩
     refine ⟨dy_call 263, ?_⟩
     refine ⟨dy_c1 (fun F => ltruthCt F true), ?_⟩
     refine ⟨dy_row 264 265 (n9 := 0), ?_⟩
     refine ⟨dy_load c3 k3, ?_⟩
     refine ⟨dy_load c3 k3, ?_⟩
     refine ⟨dy_sl2 (e := 36) 267 268, ?_⟩
     refine ⟨dy_call 269, ?_⟩
     refine ⟨dy_c1 (fun F => ltruthCt F false), ?_⟩
     refine ⟨dy_row 270 271 (n9 := 0), ?_⟩
     refine ⟨dy_load c3 k3, ?_⟩
     refine ⟨dy_load c3 k3, ?_⟩
     refine ⟨dy_sl2 (e := 36) 273 274, ?_⟩
     refine ⟨dy_call 275, ?_⟩
     refine ⟨dy_c1 (fun F => ltruthCt F false), ?_⟩
     refine ⟨dy_row 276 277 (n9 := 0), ?_⟩
     refine ⟨dy_c2 (fun F => lcallCt F [61, 61] .nil _ (TrS.nil _ _ _)), ?_⟩
     refine ⟨dy_zero, ?_⟩
     refine ⟨dy_row 279 280 (n9 := 4), ?_⟩
     refine ⟨dy_load c3 k3, ?_⟩
     refine ⟨dy_sl1 (e := 36) 282, ?_⟩
     refine ⟨dy_call 283, ?_⟩
     refine ⟨dy_zero, ?_⟩
     refine ⟨dy_row 284 285 (n9 := 4), ?_⟩
     refine ⟨dy_load c5 k5, ?_⟩
     refine ⟨dy_load c3 k3, ?_⟩
     refine ⟨dy_sl1 (e := 36) 288, ?_⟩
     refine ⟨dy_call 289, ?_⟩
     refine ⟨dy_sl2 (e := 36) 287 290, ?_⟩
     refine ⟨dy_call 291, ?_⟩
     refine ⟨dy_zero, ?_⟩
     refine ⟨dy_row 292 293 (n9 := 4), ?_⟩
     refine ⟨dy_zero, ?_⟩
     refine ⟨dy_r1 (sz1 := 4) (fun F cs h => llitCt F zV cs h) 295, ?_⟩
     refine ⟨dy_zero, ?_⟩
     refine ⟨dy_row 296 297 (n9 := 4), ?_⟩
     refine ⟨dy_load c3 k3, ?_⟩
     refine ⟨dy_sl1 (e := 36) 299, ?_⟩
     refine ⟨?_, ?_⟩
     · rintro L F a w hF hL S ⟨h0, -⟩
       obtain ⟨v342, e342, p342⟩ := h0 rfl
       have q342 := p342; obtain ⟨oa342, oc342, rfl, -⟩ := p342
       replace S := S.keep (kp e342 kp0)
       refine stepM_of rfl ?_
       (revert S a; refine go 1 ?_; intro a S)
       exact wpList_nil ⟨_, _, fun _ _ h => h, S.keep ⟨rfl, trivial⟩, ⟨_, rfl, rfl, ⟨[_, _, _, _, _, _, _, _], _, rfl, rfl, ⟨_, rfl, (TrS.nil _ _ _)⟩, q342⟩⟩⟩
     refine ⟨dy_zero, ?_⟩
     refine ⟨dy_row 301 302 (n9 := 4), ?_⟩
     refine ⟨?_, ?_⟩
     · rintro L F a w hF hL S -
       replace S := S.keep (kp0)
       refine stepM_of rfl ?_
       (revert S a; refine go 1 ?_; intro a S)
       exact wpList_nil ⟨_, _, fun _ _ h => h, S.keep ⟨rfl, trivial⟩, ⟨_, rfl, rfl, ⟨[_, _, _, _, _, _, _, _], _, rfl, rfl, ⟨_, rfl, (TrS.nil _ _ _)⟩, (TrS.nil _ _ _)⟩⟩⟩
     refine ⟨?_, ?_⟩
     · rintro L F a w hF hL S -
       replace S := S.keep (kp0)
       refine stepM_of rfl ?_
       (revert S a; refine go 1 ?_; intro a S)
       exact wpList_nil ⟨_, _, fun _ _ h => h, S.keep ⟨rfl, trivial⟩, ⟨_, rfl, rfl, ⟨[_, _, _], _, rfl, rfl, ⟨rfl, by decide⟩, (TrS.nil _ _ _)⟩⟩⟩
     refine ⟨dy_row 304 305 (n9 := 0), ?_⟩
     refine ⟨dy_load c5 k5, ?_⟩
     refine ⟨?_, ?_⟩
     · rintro L F a w hF hL S -
       replace S := S.keep (kp0)
       refine stepM_of rfl ?_
       (revert S a; refine go 1 ?_; intro a S)
       exact wpList_nil ⟨_, _, fun _ _ h => h, S.keep ⟨rfl, trivial⟩, ⟨_, rfl, rfl, ⟨[_, _, _, _, _, _, _, _], _, rfl, rfl, ⟨_, rfl, (TrS.nil _ _ _)⟩, (TrS.nil _ _ _)⟩⟩⟩
     refine ⟨dy_sl2 (e := 36) 307 308, ?_⟩
     refine ⟨dy_call 309, ?_⟩
     refine ⟨dy_zero, ?_⟩
     refine ⟨dy_row 310 311 (n9 := 81), ?_⟩
     refine ⟨?_, ?_⟩
     · rintro L F a w hF hL S -
       replace S := S.keep (kp0)
       refine stepM_of rfl ?_
       (revert S a; refine go 1 ?_; intro a S)
       exact wpList_nil ⟨_, _, fun _ _ h => h, S.keep ⟨rfl, trivial⟩, ⟨_, rfl, rfl, ⟨[_, _, _, _, _, _, _, _], _, rfl, rfl, ⟨_, rfl, (TrS.nil _ _ _)⟩, (TrS.nil _ _ _)⟩⟩⟩
     refine ⟨dy_load c5 k5, ?_⟩
     refine ⟨dy_sl2 (e := 36) 313 314, ?_⟩
     refine ⟨dy_call 315, ?_⟩
     refine ⟨dy_zero, ?_⟩
     refine ⟨dy_row 316 317 (n9 := 71), ?_⟩
     refine ⟨?_, ?_⟩
     · rintro L F a w hF hL S ⟨h0, h1, h2, h3, h4, h5, h6, h7, h8, h9, h10, h11, h12, h13, h14, h15, h16, h17, h18, h19, h20, h21, h22, h23, h24, h25, h26, h27, h28, h29, h30, h31, h32, h33, h34, h35, h36, h37, h38, h39, h40, h41, h42, h43, h44, h45, h46, h47, h48, h49, h50, -⟩
       obtain ⟨v47, e47, cs47, rfl, hn47, hR47⟩ := h0 rfl
       obtain ⟨v53, e53, cs53, rfl, hn53, hR53⟩ := h1 rfl
       obtain ⟨v60, e60, cs60, rfl, hn60, hR60⟩ := h2 rfl
       obtain ⟨v67, e67, cs67, rfl, hn67, hR67⟩ := h3 rfl
       obtain ⟨v73, e73, cs73, rfl, hn73, hR73⟩ := h4 rfl
       obtain ⟨v81, e81, cs81, rfl, hn81, hR81⟩ := h5 rfl
       obtain ⟨v89, e89, cs89, rfl, hn89, hR89⟩ := h6 rfl
       obtain ⟨v96, e96, cs96, rfl, hn96, hR96⟩ := h7 rfl
       obtain ⟨v103, e103, cs103, rfl, hn103, hR103⟩ := h8 rfl
       obtain ⟨v110, e110, cs110, rfl, hn110, hR110⟩ := h9 rfl
       obtain ⟨v115, e115, cs115, rfl, hn115, hR115⟩ := h10 rfl
       obtain ⟨v120, e120, cs120, rfl, hn120, hR120⟩ := h11 rfl
       obtain ⟨v126, e126, cs126, rfl, hn126, hR126⟩ := h12 rfl
       obtain ⟨v133, e133, cs133, rfl, hn133, hR133⟩ := h13 rfl
       obtain ⟨v140, e140, cs140, rfl, hn140, hR140⟩ := h14 rfl
       obtain ⟨v146, e146, cs146, rfl, hn146, hR146⟩ := h15 rfl
       obtain ⟨v155, e155, cs155, rfl, hn155, hR155⟩ := h16 rfl
       obtain ⟨v163, e163, cs163, rfl, hn163, hR163⟩ := h17 rfl
       obtain ⟨v173, e173, cs173, rfl, hn173, hR173⟩ := h18 rfl
       obtain ⟨v179, e179, cs179, rfl, hn179, hR179⟩ := h19 rfl
       obtain ⟨v185, e185, cs185, rfl, hn185, hR185⟩ := h20 rfl
       obtain ⟨v191, e191, cs191, rfl, hn191, hR191⟩ := h21 rfl
       obtain ⟨v197, e197, cs197, rfl, hn197, hR197⟩ := h22 rfl
       obtain ⟨v203, e203, cs203, rfl, hn203, hR203⟩ := h23 rfl
       obtain ⟨v208, e208, cs208, rfl, hn208, hR208⟩ := h24 rfl
       obtain ⟨v213, e213, cs213, rfl, hn213, hR213⟩ := h25 rfl
       obtain ⟨v220, e220, cs220, rfl, hn220, hR220⟩ := h26 rfl
       obtain ⟨v227, e227, cs227, rfl, hn227, hR227⟩ := h27 rfl
       obtain ⟨v233, e233, cs233, rfl, hn233, hR233⟩ := h28 rfl
       obtain ⟨v240, e240, cs240, rfl, hn240, hR240⟩ := h29 rfl
       obtain ⟨v248, e248, cs248, rfl, hn248, hR248⟩ := h30 rfl
       obtain ⟨v256, e256, cs256, rfl, hn256, hR256⟩ := h31 rfl
       obtain ⟨v263, e263, cs263, rfl, hn263, hR263⟩ := h32 rfl
       obtain ⟨v266, e266, cs266, rfl, hn266, hR266⟩ := h33 rfl
       obtain ⟨v269, e269, cs269, rfl, hn269, hR269⟩ := h34 rfl
       obtain ⟨v272, e272, cs272, rfl, hn272, hR272⟩ := h35 rfl
       obtain ⟨v277, e277, cs277, rfl, hn277, hR277⟩ := h36 rfl
       obtain ⟨v289, e289, cs289, rfl, hn289, hR289⟩ := h37 rfl
       obtain ⟨v296, e296, cs296, rfl, hn296, hR296⟩ := h38 rfl
       obtain ⟨v302, e302, cs302, rfl, hn302, hR302⟩ := h39 rfl
       obtain ⟨v308, e308, cs308, rfl, hn308, hR308⟩ := h40 rfl
       obtain ⟨v314, e314, cs314, rfl, hn314, hR314⟩ := h41 rfl
       obtain ⟨v320, e320, cs320, rfl, hn320, hR320⟩ := h42 rfl
       obtain ⟨v323, e323, cs323, rfl, hn323, hR323⟩ := h43 rfl
       obtain ⟨v328, e328, cs328, rfl, hn328, hR328⟩ := h44 rfl
       obtain ⟨v336, e336, cs336, rfl, hn336, hR336⟩ := h45 rfl
       obtain ⟨v340, e340, cs340, rfl, hn340, hR340⟩ := h46 rfl
       obtain ⟨v345, e345, cs345, rfl, hn345, hR345⟩ := h47 rfl
       obtain ⟨v348, e348, cs348, rfl, hn348, hR348⟩ := h48 rfl
       obtain ⟨v354, e354, cs354, rfl, hn354, hR354⟩ := h49 rfl
       obtain ⟨v360, e360, cs360, rfl, hn360, hR360⟩ := h50 rfl
       replace S := S.keep (kp e47 (kp e53 (kp e60 (kp e67 (kp e73 (kp e81 (kp e89 (kp e96 (kp e103 (kp e110 (kp e115 (kp e120 (kp e126 (kp e133 (kp e140 (kp e146 (kp e155 (kp e163 (kp e173 (kp e179 (kp e185 (kp e191 (kp e197 (kp e203 (kp e208 (kp e213 (kp e220 (kp e227 (kp e233 (kp e240 (kp e248 (kp e256 (kp e263 (kp e266 (kp e269 (kp e272 (kp e277 (kp e289 (kp e296 (kp e302 (kp e308 (kp e314 (kp e320 (kp e323 (kp e328 (kp e336 (kp e340 (kp e345 (kp e348 (kp e354 (kp e360 kp0)))))))))))))))))))))))))))))))))))))))))))))))))))
       refine stepM_of rfl ?_
       (refine wpl_buildSlice S rfl rfl rfl rfl rfl rfl (by rfl) (by first | (simp [Value.cells]; done) | (simp only [List.mem_cons, List.not_mem_nil, or_false, forall_eq_or_imp, forall_eq, Value.cells]; repeat' constructor) <;> assumption) rfl (by rfl) (by rfl) ?_; clear S a; intro b a w hown S; (simp only [Value.cells, List.flatMap_cons, List.flatMap_nil, List.append_nil] at S); have S' := frz1 S; clear S; obtain ⟨F', hle, hb, S⟩ := S')
       exact wpList_nil ⟨_, _, hle, S.keep ⟨rfl, trivial⟩, lim_of (l := ([(ExT.mk (callX2 [43] topX (nX 1)) zV 80), (ExT.mk (callX2 [45] lowX (nX 1)) zV 80), (ExT.mk (callX2 [42] topX (litX (intV 2))) zV 80), (ExT.mk (callX2 [42] lowX (litX (intV (-1)))) zV 80), (ExT.mk (callX2 [42] lowX (nX 1)) (intV (-9223372036854775808)) 0), (ExT.mk (callX2 [42] (litX (intV (-4294967296))) (litX (intV 2147483648))) (intV (-9223372036854775808)) 0), (ExT.mk (callX2 [42] (litX (intV 4294967296)) (litX (intV 2147483648))) zV 80), (ExT.mk (callX2 [47] lowX (litX (intV (-1)))) zV 80), (ExT.mk (callX2 [37] lowX (litX (intV (-1)))) (intV 0) 0), (ExT.mk (callX2 [37] (nX 1) (litX (intV 0))) zV 81), (ExT.mk (callX1 [110, 101, 103] lowX) zV 80), (ExT.mk (callX1 [110, 101, 103] topX) (intV (-9223372036854775807)) 0), (ExT.mk (callX2 [45] (nX 1) lowX) zV 80), (ExT.mk (callX2 [45] (litX (intV (-1))) lowX) (intV 9223372036854775807) 0), (ExT.mk (callX2 [43] (nX 1) (litX (bigV [49]))) zV 70), (ExT.mk (callX1 [110, 101, 103] (litX (bigV [48]))) (bigV [48]) 0), (ExT.mk (callX2 [43] (litX (bigV (nin 200))) (litX (bigV [49]))) zV 80), (ExT.mk (callX2 [43, 43] longX longX) (textV (zz 4096)) 0), (ExT.mk (callX2 [43, 43] longX (callX2 [43, 43] longX (litX (textV [97])))) zV 80), (ExT.mk (callX2 [43, 43] (nX 1) longX) zV 70), (ExT.mk (callX1 [108, 101, 110] (litX (textV [97, 98]))) (intV 2) 0), (ExT.mk (callX1 [98, 105, 103] (litX (intV 3))) (bigV [51]) 0), (ExT.mk (callX1 [105, 110, 116] (litX (bigV [57, 50, 50, 51, 51, 55, 50, 48, 51, 54, 56, 53, 52, 55, 55, 53, 56, 48, 56]))) zV 80), (ExT.mk (callX1 [105, 110, 116] (litX (bigV [45, 57, 50, 50, 51, 51, 55, 50, 48, 51, 54, 56, 53, 52, 55, 55, 53, 56, 48, 56]))) (intV (-9223372036854775808)) 0), (ExT.mk (callX1 [105, 110, 116] (nX 1)) zV 70), (ExT.mk (callX1 [110, 111, 116] (nX 1)) zV 70), (ExT.mk (callX2 [111, 114] (litX (boolV true)) divX) (boolV true) 0), (ExT.mk (callX2 [111, 114] (litX (boolV false)) divX) zV 81), (ExT.mk (callX2 [97, 110, 100] (nX 1) divX) zV 70), (ExT.mk (callX2 [97, 110, 100] (litX (boolV true)) (nX 1)) zV 70), (ExT.mk (kX 8 [] (.cons (litX (boolV true)).1 (litX (boolV true)).2 (.cons (nX 1).1 (nX 1).2 (.cons divX.1 divX.2 .nil)))) (intV 1) 0), (ExT.mk (kX 8 [] (.cons (litX (boolV false)).1 (litX (boolV false)).2 (.cons (nX 1).1 (nX 1).2 (.cons divX.1 divX.2 .nil)))) zV 81), (ExT.mk (kX 8 [] (.cons (nX 1).1 (nX 1).2 (.cons divX.1 divX.2 (.cons divX.1 divX.2 .nil)))) zV 70), (ExT.mk (kX 2 [88] Rose.nil) zV 71), (ExT.mk (kX 3 [] Rose.nil) zV 4), (ExT.mk (kX 5 [99] Rose.nil) zV 63), (ExT.mk (kX 7 [102] (.cons (nX 1).1 (nX 1).2 .nil)) zV 70), (ExT.mk (callX2 [60] (pairX (intV 1) (textV [97])) (pairX (intV 1) (textV [98]))) (boolV true) 0), (ExT.mk (callX2 [61, 61] (nX 1) (litX (textV [49]))) (boolV false) 0), (ExT.mk (callX2 [60, 61] (nX 1) (nX 1)) (boolV true) 0), (ExT.mk (callX2 [62, 61] (nX 1) (nX 1)) (boolV true) 0), (ExT.mk (callX2 [60] (nX 1) (nX 1)) (boolV false) 0), (ExT.mk (callX2 [62] (nX 1) (nX 1)) (boolV false) 0), (ExT.mk (callH [61, 61], Rose.nil) zV 4), (ExT.mk (callX1 [63] (nX 1)) zV 4), (ExT.mk (callX2 [43] divX (callX1 [63] (nX 1))) zV 4), (ExT.mk (litX zV) zV 4), (ExT.mk (kX 4 [] (.cons (nX 1).1 (nX 1).2 .nil)) zV 4), (ExT.mk (kX 4 [] Rose.nil) (VH.mk 5 0 [], Rose.nil) 0), (ExT.mk (callX2 [43] divX (kX 2 [88] Rose.nil)) zV 81), (ExT.mk (callX2 [43] (kX 2 [88] Rose.nil) divX) zV 71)] : List ExT)) hb ((LiC.app (l := [(ExT.mk (callX2 [43] topX (nX 1)) zV 80)]) (LiC.one hn47 (Mon.h hle hR47)) (LiC.app (l := [(ExT.mk (callX2 [45] lowX (nX 1)) zV 80)]) (LiC.one hn53 (Mon.h hle hR53)) (LiC.app (l := [(ExT.mk (callX2 [42] topX (litX (intV 2))) zV 80)]) (LiC.one hn60 (Mon.h hle hR60)) (LiC.app (l := [(ExT.mk (callX2 [42] lowX (litX (intV (-1)))) zV 80)]) (LiC.one hn67 (Mon.h hle hR67)) (LiC.app (l := [(ExT.mk (callX2 [42] lowX (nX 1)) (intV (-9223372036854775808)) 0)]) (LiC.one hn73 (Mon.h hle hR73)) (LiC.app (l := [(ExT.mk (callX2 [42] (litX (intV (-4294967296))) (litX (intV 2147483648))) (intV (-9223372036854775808)) 0)]) (LiC.one hn81 (Mon.h hle hR81)) (LiC.app (l := [(ExT.mk (callX2 [42] (litX (intV 4294967296)) (litX (intV 2147483648))) zV 80)]) (LiC.one hn89 (Mon.h hle hR89)) (LiC.app (l := [(ExT.mk (callX2 [47] lowX (litX (intV (-1)))) zV 80)]) (LiC.one hn96 (Mon.h hle hR96)) (LiC.app (l := [(ExT.mk (callX2 [37] lowX (litX (intV (-1)))) (intV 0) 0)]) (LiC.one hn103 (Mon.h hle hR103)) (LiC.app (l := [(ExT.mk (callX2 [37] (nX 1) (litX (intV 0))) zV 81)]) (LiC.one hn110 (Mon.h hle hR110)) (LiC.app (l := [(ExT.mk (callX1 [110, 101, 103] lowX) zV 80)]) (LiC.one hn115 (Mon.h hle hR115)) (LiC.app (l := [(ExT.mk (callX1 [110, 101, 103] topX) (intV (-9223372036854775807)) 0)]) (LiC.one hn120 (Mon.h hle hR120)) (LiC.app (l := [(ExT.mk (callX2 [45] (nX 1) lowX) zV 80)]) (LiC.one hn126 (Mon.h hle hR126)) (LiC.app (l := [(ExT.mk (callX2 [45] (litX (intV (-1))) lowX) (intV 9223372036854775807) 0)]) (LiC.one hn133 (Mon.h hle hR133)) (LiC.app (l := [(ExT.mk (callX2 [43] (nX 1) (litX (bigV [49]))) zV 70)]) (LiC.one hn140 (Mon.h hle hR140)) (LiC.app (l := [(ExT.mk (callX1 [110, 101, 103] (litX (bigV [48]))) (bigV [48]) 0)]) (LiC.one hn146 (Mon.h hle hR146)) (LiC.app (l := [(ExT.mk (callX2 [43] (litX (bigV (nin 200))) (litX (bigV [49]))) zV 80)]) (LiC.one hn155 (Mon.h hle hR155)) (LiC.app (l := [(ExT.mk (callX2 [43, 43] longX longX) (textV (zz 4096)) 0)]) (LiC.one hn163 (Mon.h hle hR163)) (LiC.app (l := [(ExT.mk (callX2 [43, 43] longX (callX2 [43, 43] longX (litX (textV [97])))) zV 80)]) (LiC.one hn173 (Mon.h hle hR173)) (LiC.app (l := [(ExT.mk (callX2 [43, 43] (nX 1) longX) zV 70)]) (LiC.one hn179 (Mon.h hle hR179)) (LiC.app (l := [(ExT.mk (callX1 [108, 101, 110] (litX (textV [97, 98]))) (intV 2) 0)]) (LiC.one hn185 (Mon.h hle hR185)) (LiC.app (l := [(ExT.mk (callX1 [98, 105, 103] (litX (intV 3))) (bigV [51]) 0)]) (LiC.one hn191 (Mon.h hle hR191)) (LiC.app (l := [(ExT.mk (callX1 [105, 110, 116] (litX (bigV [57, 50, 50, 51, 51, 55, 50, 48, 51, 54, 56, 53, 52, 55, 55, 53, 56, 48, 56]))) zV 80)]) (LiC.one hn197 (Mon.h hle hR197)) (LiC.app (l := [(ExT.mk (callX1 [105, 110, 116] (litX (bigV [45, 57, 50, 50, 51, 51, 55, 50, 48, 51, 54, 56, 53, 52, 55, 55, 53, 56, 48, 56]))) (intV (-9223372036854775808)) 0)]) (LiC.one hn203 (Mon.h hle hR203)) (LiC.app (l := [(ExT.mk (callX1 [105, 110, 116] (nX 1)) zV 70)]) (LiC.one hn208 (Mon.h hle hR208)) (LiC.app (l := [(ExT.mk (callX1 [110, 111, 116] (nX 1)) zV 70)]) (LiC.one hn213 (Mon.h hle hR213)) (LiC.app (l := [(ExT.mk (callX2 [111, 114] (litX (boolV true)) divX) (boolV true) 0)]) (LiC.one hn220 (Mon.h hle hR220)) (LiC.app (l := [(ExT.mk (callX2 [111, 114] (litX (boolV false)) divX) zV 81)]) (LiC.one hn227 (Mon.h hle hR227)) (LiC.app (l := [(ExT.mk (callX2 [97, 110, 100] (nX 1) divX) zV 70)]) (LiC.one hn233 (Mon.h hle hR233)) (LiC.app (l := [(ExT.mk (callX2 [97, 110, 100] (litX (boolV true)) (nX 1)) zV 70)]) (LiC.one hn240 (Mon.h hle hR240)) (LiC.app (l := [(ExT.mk (kX 8 [] (.cons (litX (boolV true)).1 (litX (boolV true)).2 (.cons (nX 1).1 (nX 1).2 (.cons divX.1 divX.2 .nil)))) (intV 1) 0)]) (LiC.one hn248 (Mon.h hle hR248)) (LiC.app (l := [(ExT.mk (kX 8 [] (.cons (litX (boolV false)).1 (litX (boolV false)).2 (.cons (nX 1).1 (nX 1).2 (.cons divX.1 divX.2 .nil)))) zV 81)]) (LiC.one hn256 (Mon.h hle hR256)) (LiC.app (l := [(ExT.mk (kX 8 [] (.cons (nX 1).1 (nX 1).2 (.cons divX.1 divX.2 (.cons divX.1 divX.2 .nil)))) zV 70)]) (LiC.one hn263 (Mon.h hle hR263)) (LiC.app (l := [(ExT.mk (kX 2 [88] Rose.nil) zV 71)]) (LiC.one hn266 (Mon.h hle hR266)) (LiC.app (l := [(ExT.mk (kX 3 [] Rose.nil) zV 4)]) (LiC.one hn269 (Mon.h hle hR269)) (LiC.app (l := [(ExT.mk (kX 5 [99] Rose.nil) zV 63)]) (LiC.one hn272 (Mon.h hle hR272)) (LiC.app (l := [(ExT.mk (kX 7 [102] (.cons (nX 1).1 (nX 1).2 .nil)) zV 70)]) (LiC.one hn277 (Mon.h hle hR277)) (LiC.app (l := [(ExT.mk (callX2 [60] (pairX (intV 1) (textV [97])) (pairX (intV 1) (textV [98]))) (boolV true) 0)]) (LiC.one hn289 (Mon.h hle hR289)) (LiC.app (l := [(ExT.mk (callX2 [61, 61] (nX 1) (litX (textV [49]))) (boolV false) 0)]) (LiC.one hn296 (Mon.h hle hR296)) (LiC.app (l := [(ExT.mk (callX2 [60, 61] (nX 1) (nX 1)) (boolV true) 0)]) (LiC.one hn302 (Mon.h hle hR302)) (LiC.app (l := [(ExT.mk (callX2 [62, 61] (nX 1) (nX 1)) (boolV true) 0)]) (LiC.one hn308 (Mon.h hle hR308)) (LiC.app (l := [(ExT.mk (callX2 [60] (nX 1) (nX 1)) (boolV false) 0)]) (LiC.one hn314 (Mon.h hle hR314)) (LiC.app (l := [(ExT.mk (callX2 [62] (nX 1) (nX 1)) (boolV false) 0)]) (LiC.one hn320 (Mon.h hle hR320)) (LiC.app (l := [(ExT.mk (callH [61, 61], Rose.nil) zV 4)]) (LiC.one hn323 (Mon.h hle hR323)) (LiC.app (l := [(ExT.mk (callX1 [63] (nX 1)) zV 4)]) (LiC.one hn328 (Mon.h hle hR328)) (LiC.app (l := [(ExT.mk (callX2 [43] divX (callX1 [63] (nX 1))) zV 4)]) (LiC.one hn336 (Mon.h hle hR336)) (LiC.app (l := [(ExT.mk (litX zV) zV 4)]) (LiC.one hn340 (Mon.h hle hR340)) (LiC.app (l := [(ExT.mk (kX 4 [] (.cons (nX 1).1 (nX 1).2 .nil)) zV 4)]) (LiC.one hn345 (Mon.h hle hR345)) (LiC.app (l := [(ExT.mk (kX 4 [] Rose.nil) (VH.mk 5 0 [], Rose.nil) 0)]) (LiC.one hn348 (Mon.h hle hR348)) (LiC.app (l := [(ExT.mk (callX2 [43] divX (kX 2 [88] Rose.nil)) zV 81)]) (LiC.one hn354 (Mon.h hle hR354)) (LiC.one hn360 (Mon.h hle hR360))))))))))))))))))))))))))))))))))))))))))))))))))))) (by decide)⟩
     refine ⟨?_, ?_⟩
     · rintro L F a w hF hL S ⟨h0, -⟩
       obtain ⟨v361, e361, p361⟩ := h0 rfl
       have q361 := p361; obtain ⟨oa361, oc361, rfl, -⟩ := p361
       replace S := S.keep (kp e361 kp0)
       refine stepM_of rfl ?_
       (revert S a; refine go 1 ?_; intro a S)
       exact wpList_nil ⟨_, _, fun _ _ h => h, S.keep ⟨rfl, trivial⟩, rfl⟩
     refine ⟨?_, ?_⟩
     · rintro L F a w hF hL S -
       replace S := S.keep (kp0)
       refine stepM_of rfl ?_
       (revert S a; refine go 1 ?_; intro a S)
       exact wpList_nil ⟨_, _, fun _ _ h => h, S.keep ⟨rfl, trivial⟩, rfl⟩
     exact trivial
   (clear S; intro L E9 a w hF hL S hall)
   obtain ⟨v361, e361, p361⟩ := hall 319 (by decide)
   obtain ⟨v362, e362, rfl⟩ := hall 320 (by decide)
   obtain ⟨v363, e363, rfl⟩ := hall 321 (by decide)
   replace S := S.keep (kp e361 (kp e362 (kp e363 (kp (hL 0 _ rfl) (kp (hL 6 _ rfl) (kp (hL 1 _ rfl) (kp (hL 2 _ rfl) (kp (hL 3 _ rfl) (kp (hL 4 _ rfl) (kp (hL 5 _ rfl) kp0))))))))))
   (replace K := K.mono hF; have hz : LiM E9 14 ExTR v361 exT := p361; obtain ⟨az, cz, hvz, -, hposz⟩ := hz; rw [exT_len] at hvz; subst hvz)
   (refine hZ _ _ ?_; clear hZ Z)
   refine wp_block ?_
   refine wpc_loop (fun m a' w' => ∃ (i : Nat), m = 51 - i ∧ i ≤ 51 ∧ St 383 [(361, .slice az 51 cz), (362, .int .i64 51), (363, .int .i64 (i : Int))] w0 F [] E9 [] a' w') ?_ ?_
   · (refine ⟨51, 0, rfl, Nat.zero_le _, ?_⟩; refine S.keep ?_; exact zk)
   (clear S; rintro m av w ⟨i, rfl, hi, S⟩)
   (revert S a; refine go 5 ?_; intro Z hZ a S)
   refine wpc_sp S rfl ?_ ?_ <;> intro h
   · (revert S a; revert hZ Z; refine go 4 ?_; intro Z hZ a S)
     (refine wp_seq_k ?_; intro Z hZ)
     (obtain ⟨bz, oz, hao, t, cs1, hx, hc1, ct1, ct2, rfl, h91, h41, hR1, hR2⟩ := LiM.pos (l := exT) hposz (k := i) (by rw [exT_len]; omega); rw [hao] at S; obtain ⟨g1, g2⟩ := exT_at (List.mem_of_getElem? hx); obtain ⟨ya, yb, yc, yd, ye, hy, -, -⟩ := exc_slc (ror_exc hR1); subst hy; obtain ⟨za, zb, hz, -, -⟩ := vac_slc (ror_vac hR2); subst hz)
     (revert S a; refine go 2 ?_; intro a S)
     (refine wv S (sv_loadAF S rfl rfl hc1 rfl) ?_; clear S a; intro a S)
     (refine wpl_alloc S rfl rfl rfl rfl ?_; clear S a; intro b8 a w S)
     (refine wso S rfl rfl ?_; clear S; intro w S)
     (revert S a; revert hZ Z; refine go 9 ?_; intro Z hZ a S)
     (refine wc0 S (comesCt E9 K.T K.E t.x _ hR1 g2 t.v _ hR2 t.e) ?_; clear S a; intro v373 a w hv S; subst hv; rw [g1] at S)
     (refine wv S (sv_lit (c := false) (sv_pure S rfl) (by rfl)) ?_; clear S a; intro a S)
     (revert S a; revert hZ Z; refine go 2 ?_; intro a S)
     refine wpc_false S rfl ?_
     (revert S a; revert hZ Z; refine go 6 ?_; intro a S)
     change ∃ m', _ ∧ _
     (rw [← hao] at S; replace S := nogrpE S; refine ⟨51 - (i + 1), by omega, i + 1, rfl, by omega, ?_⟩; refine S.keep ?_; exact zk)
   (refine wp_exit ?_; conv => whnf)
   clear hZ Z
   (refine hZ _ _ ?_; clear hZ Z)
   (refine wp_seq_k ?_; intro Z hZ)
   skip
   refine wp_region_lit ?_
   (refine wc0 S (enRecordsCt E9 K) ?_; clear S a; intro v376 a w hv S; subst hv)
   (refine wv S (sv_lit (c := true) (sv_pure S rfl) (by rfl)) ?_; clear S a; intro a S)
   refine wpl_take S rfl rfl rfl ?_
   (refine wc0 S (enDeepsCt E9 K) ?_; clear S a; intro v378 a w hv S; subst hv)
   iterate 2 (refine wv S (sv_lit (c := true) (sv_pure S rfl) (by rfl)) ?_; clear S a; intro a S)
   refine wpl_take S rfl rfl rfl ?_
   (refine wc0 S (enWidesCt E9 K) ?_; clear S a; intro v381 a w hv S; subst hv)
   (refine wv S (sv_lit (c := true) (sv_pure S rfl) (by rfl)) ?_; clear S a; intro a S)
   (revert S a; revert hZ Z; refine go 3 ?_; intro a S)
   refine wp_ret (fr1 S Tryz.results4 ?_)
   rfl)
  (replace S := St.pullB b1 S; have S' := frz1 S; clear S; obtain ⟨E1, hE1, hb1, S⟩ := S'; replace K := K.mono hE1; replace S := St.pullB b2 S; have S' := frz1 S; clear S; obtain ⟨E2, hE2, hb2, S⟩ := S'; replace K := K.mono hE2; replace S := St.pullB b3 S; have S' := frz1 S; clear S; obtain ⟨E3, hE3, hb3, S⟩ := S'; replace K := K.mono hE3; replace S := St.pullB b4 S; have S' := frz1 S; clear S; obtain ⟨E4, hE4, hb4, S⟩ := S'; replace K := K.mono hE4; have c1 : Cels E4 b1 0 (exl topX xa28 xb28 xc28 xd28 xe28) := Cels.mono (fun b o h => hE4 _ _ (hE3 _ _ (hE2 _ _ h))) (cels_of hb1); have k1 : ReR E4 topX (exl topX xa28 xb28 xc28 xd28 xe28) := Mon.h (fun b o h => hE4 _ _ (hE3 _ _ (hE2 _ _ (hE1 _ _ (hF36 _ _ (hF35 _ _ (hF32 _ _ (hF31 _ _ (hF30 _ _ (hF29 _ _ h)))))))))) r28; have c2 : Cels E4 b2 0 (exl lowX xa30 xb30 xc30 xd30 xe30) := Cels.mono (fun b o h => hE4 _ _ (hE3 _ _ h)) (cels_of hb2); have k2 : ReR E4 lowX (exl lowX xa30 xb30 xc30 xd30 xe30) := Mon.h (fun b o h => hE4 _ _ (hE3 _ _ (hE2 _ _ (hE1 _ _ (hF36 _ _ (hF35 _ _ (hF32 _ _ (hF31 _ _ h)))))))) r30; have c3 : Cels E4 b3 0 (exl (nX 1) xa32 xb32 xc32 xd32 xe32) := Cels.mono (fun b o h => hE4 _ _ h) (cels_of hb3); have k3 : ReR E4 (nX 1) (exl (nX 1) xa32 xb32 xc32 xd32 xe32) := Mon.h (fun b o h => hE4 _ _ (hE3 _ _ (hE2 _ _ (hE1 _ _ (hF36 _ _ (hF35 _ _ h)))))) r32; have c4 : Cels E4 b4 0 (exl longX xa36 xb36 xc36 xd36 xe36) := Cels.mono (fun _ _ h => h) (cels_of hb4); have k4 : ReR E4 longX (exl longX xa36 xb36 xc36 xd36 xe36) := Mon.h (fun b o h => hE4 _ _ (hE3 _ _ (hE2 _ _ (hE1 _ _ h)))) r36; have T : EnT E4 b1 b2 b3 b4 := ⟨K, ⟨_, c1, k1⟩, ⟨_, c2, k2⟩, ⟨_, c3, k3⟩, ⟨_, c4, k4⟩⟩)
  (refine wpc_mixM [0] [0] [] (.one 0 (.two 1 5 (.two 2 5 (.two 3 5 (.two 4 5 (.one 5 (.one 6 .nil)) (.one 4 (.one 6 .nil))) (.one 3 (.one 4 (.one 6 .nil)))) (.one 2 (.one 3 (.one 4 (.one 6 .nil))))) (.one 1 (.one 2 (.one 3 (.one 4 (.one 6 .nil))))))) [] S mixed (by kernel_rfl) ?_; clear S; intro w S)
  (refine wlF S rfl (fun w' S => sv_loadAF S rfl rfl c3 rfl) ?_; clear S a; intro a S)
  refine wpm_two rfl rfl (kwa S) ?_ ?_
  · skip
    (refine wcF S (lnumCt E4 _) ?_; clear S a; intro v38 F38 a w hv hF38 S; obtain ⟨c38, rfl, -, r38⟩ := hv; obtain ⟨xa38, xb38, he38, -, -⟩ := vac_slc (ror_vac r38); subst he38; replace K := K.mono hF38)
    refine wpList_nil ?_
    refine wpm_two rfl rfl (kwa S) ?_ ?_
    · skip
      (refine wcF S (llitCt F38 _ _ r38) ?_; clear S a; intro v39 F39 a w hv hF39 S; obtain ⟨c39, rfl, -, r39⟩ := hv; obtain ⟨xa39, xb39, xc39, xd39, xe39, he39, -, -⟩ := exc_slc (ror_exc r39); subst he39; replace K := K.mono hF39)
      refine wpList_nil ?_
      refine wpm_two rfl rfl (kwa S) ?_ ?_
      · skip
        (refine wpl_buildSlice S rfl rfl rfl rfl rfl rfl (by rfl) (by simp [Value.cells, splice]) rfl (by rfl) (by rfl) ?_; clear S a; intro b40 a w hown S; have S' := frz1 S; clear S; obtain ⟨F40, hF40, hb40, S⟩ := S'; have r40 := trs_lim (lim_of (l := ([(nX 1), (litX (intV 0))] : List Ex)) hb40 (LiC.app (l := ([(nX 1)] : List Ex)) (LiC.one (sz := 9) rfl (Mon.h (fun b o h => hF40 _ _ (hF39 _ _ (hF38 _ _ h))) k3)) (LiC.one (sz := 9) rfl (Mon.h (fun b o h => hF40 _ _ h) r39))) (show 2 ≤ _ by decide)); replace K := K.mono hF40)
        refine wpList_nil ?_
        refine wpm_two rfl rfl (kwa S) ?_ ?_
        · skip
          (refine wcF S (lcallCt F40 [47] (.cons (nX 1).1 (nX 1).2 (.cons (litX (intV 0)).1 (litX (intV 0)).2 .nil)) _ r40) ?_; clear S a; intro v41 F41 a w hv hF41 S; obtain ⟨c41, rfl, -, r41⟩ := hv; obtain ⟨xa41, xb41, xc41, xd41, xe41, he41, -, -⟩ := exc_slc (ror_exc r41); subst he41; replace K := K.mono hF41)
          (revert S a; refine go 2 ?_; intro a S)
          (refine wpl_alloc S rfl rfl rfl rfl ?_; clear S a; intro b5 a w S)
          (revert S a; refine go 2 ?_; intro a S)
          (refine wso S rfl rfl ?_; clear S; intro w S)
          (revert S a; refine go 2 ?_; intro a S)
          (refine hZ _ _ ?_)
          exact zzEnF0
        skip
        (refine wpl_alloc S rfl rfl rfl rfl ?_; clear S a; intro b5 a w S)
        (revert S a; refine go 2 ?_; intro a S)
        (refine wcF S (lcallCt F40 [47] (.cons (nX 1).1 (nX 1).2 (.cons (litX (intV 0)).1 (litX (intV 0)).2 .nil)) _ r40) ?_; clear S a; intro v41 F41 a w hv hF41 S; obtain ⟨c41, rfl, -, r41⟩ := hv; obtain ⟨xa41, xb41, xc41, xd41, xe41, he41, -, -⟩ := exc_slc (ror_exc r41); subst he41; replace K := K.mono hF41)
        (revert S a; refine go 2 ?_; intro a S)
        (refine wso S rfl rfl ?_; clear S; intro w S)
        (revert S a; refine go 2 ?_; intro a S)
        (refine hZ _ _ ?_)
        exact zzEnF0
      skip
      (refine wpl_alloc S rfl rfl rfl rfl ?_; clear S a; intro b5 a w S)
      (revert S a; refine go 2 ?_; intro a S)
      (refine wpl_buildSlice S rfl rfl rfl rfl rfl rfl (by rfl) (by simp [Value.cells, splice]) rfl (by rfl) (by rfl) ?_; clear S a; intro b40 a w hown S; have S' := frz1 S; clear S; obtain ⟨F40, hF40, hb40, S⟩ := S'; have r40 := trs_lim (lim_of (l := ([(nX 1), (litX (intV 0))] : List Ex)) hb40 (LiC.app (l := ([(nX 1)] : List Ex)) (LiC.one (sz := 9) rfl (Mon.h (fun b o h => hF40 _ _ (hF39 _ _ (hF38 _ _ h))) k3)) (LiC.one (sz := 9) rfl (Mon.h (fun b o h => hF40 _ _ h) r39))) (show 2 ≤ _ by decide)); replace K := K.mono hF40)
      (revert S a; refine go 2 ?_; intro a S)
      (refine wcF S (lcallCt F40 [47] (.cons (nX 1).1 (nX 1).2 (.cons (litX (intV 0)).1 (litX (intV 0)).2 .nil)) _ r40) ?_; clear S a; intro v41 F41 a w hv hF41 S; obtain ⟨c41, rfl, -, r41⟩ := hv; obtain ⟨xa41, xb41, xc41, xd41, xe41, he41, -, -⟩ := exc_slc (ror_exc r41); subst he41; replace K := K.mono hF41)
      (revert S a; refine go 2 ?_; intro a S)
      (refine wso S rfl rfl ?_; clear S; intro w S)
      (revert S a; refine go 2 ?_; intro a S)
      (refine hZ _ _ ?_)
      exact zzEnF0
    skip
    (refine wpl_alloc S rfl rfl rfl rfl ?_; clear S a; intro b5 a w S)
    (revert S a; refine go 2 ?_; intro a S)
    (refine wcF S (llitCt F38 _ _ r38) ?_; clear S a; intro v39 F39 a w hv hF39 S; obtain ⟨c39, rfl, -, r39⟩ := hv; obtain ⟨xa39, xb39, xc39, xd39, xe39, he39, -, -⟩ := exc_slc (ror_exc r39); subst he39; replace K := K.mono hF39)
    (revert S a; refine go 2 ?_; intro a S)
    (refine wpl_buildSlice S rfl rfl rfl rfl rfl rfl (by rfl) (by simp [Value.cells, splice]) rfl (by rfl) (by rfl) ?_; clear S a; intro b40 a w hown S; have S' := frz1 S; clear S; obtain ⟨F40, hF40, hb40, S⟩ := S'; have r40 := trs_lim (lim_of (l := ([(nX 1), (litX (intV 0))] : List Ex)) hb40 (LiC.app (l := ([(nX 1)] : List Ex)) (LiC.one (sz := 9) rfl (Mon.h (fun b o h => hF40 _ _ (hF39 _ _ (hF38 _ _ h))) k3)) (LiC.one (sz := 9) rfl (Mon.h (fun b o h => hF40 _ _ h) r39))) (show 2 ≤ _ by decide)); replace K := K.mono hF40)
    (revert S a; refine go 2 ?_; intro a S)
    (refine wcF S (lcallCt F40 [47] (.cons (nX 1).1 (nX 1).2 (.cons (litX (intV 0)).1 (litX (intV 0)).2 .nil)) _ r40) ?_; clear S a; intro v41 F41 a w hv hF41 S; obtain ⟨c41, rfl, -, r41⟩ := hv; obtain ⟨xa41, xb41, xc41, xd41, xe41, he41, -, -⟩ := exc_slc (ror_exc r41); subst he41; replace K := K.mono hF41)
    (revert S a; refine go 2 ?_; intro a S)
    (refine wso S rfl rfl ?_; clear S; intro w S)
    (revert S a; refine go 2 ?_; intro a S)
    (refine hZ _ _ ?_)
    exact zzEnF0
  skip
  (refine wpl_alloc S rfl rfl rfl rfl ?_; clear S a; intro b5 a w S)
  (revert S a; refine go 2 ?_; intro a S)
  (refine wcF S (lnumCt E4 _) ?_; clear S a; intro v38 F38 a w hv hF38 S; obtain ⟨c38, rfl, -, r38⟩ := hv; obtain ⟨xa38, xb38, he38, -, -⟩ := vac_slc (ror_vac r38); subst he38; replace K := K.mono hF38)
  (revert S a; refine go 2 ?_; intro a S)
  (refine wcF S (llitCt F38 _ _ r38) ?_; clear S a; intro v39 F39 a w hv hF39 S; obtain ⟨c39, rfl, -, r39⟩ := hv; obtain ⟨xa39, xb39, xc39, xd39, xe39, he39, -, -⟩ := exc_slc (ror_exc r39); subst he39; replace K := K.mono hF39)
  (revert S a; refine go 2 ?_; intro a S)
  (refine wpl_buildSlice S rfl rfl rfl rfl rfl rfl (by rfl) (by simp [Value.cells, splice]) rfl (by rfl) (by rfl) ?_; clear S a; intro b40 a w hown S; have S' := frz1 S; clear S; obtain ⟨F40, hF40, hb40, S⟩ := S'; have r40 := trs_lim (lim_of (l := ([(nX 1), (litX (intV 0))] : List Ex)) hb40 (LiC.app (l := ([(nX 1)] : List Ex)) (LiC.one (sz := 9) rfl (Mon.h (fun b o h => hF40 _ _ (hF39 _ _ (hF38 _ _ h))) k3)) (LiC.one (sz := 9) rfl (Mon.h (fun b o h => hF40 _ _ h) r39))) (show 2 ≤ _ by decide)); replace K := K.mono hF40)
  (revert S a; refine go 2 ?_; intro a S)
  (refine wcF S (lcallCt F40 [47] (.cons (nX 1).1 (nX 1).2 (.cons (litX (intV 0)).1 (litX (intV 0)).2 .nil)) _ r40) ?_; clear S a; intro v41 F41 a w hv hF41 S; obtain ⟨c41, rfl, -, r41⟩ := hv; obtain ⟨xa41, xb41, xc41, xd41, xe41, he41, -, -⟩ := exc_slc (ror_exc r41); subst he41; replace K := K.mono hF41)
  (revert S a; refine go 2 ?_; intro a S)
  (refine wso S rfl rfl ?_; clear S; intro w S)
  (revert S a; refine go 2 ?_; intro a S)
  (refine hZ _ _ ?_)
  exact zzEnF0
end Go.Proofs.YtgefmjghdijbfaaGreatDoor
