/- Walks. -/
import Derived.Test.YthnafdbebniapaaGreatDoorQ37
import Derived.Test.YthnafdbebniapaaGreatDoorQ32
import Derived.Test.YthnafdbebniapaaGreatDoorQ04
import Derived.OpenShut
import Derived.Below
import Derived.Carry
import Derived.SizedLaws
import Derived.Deep.Slices
import Derived.Deep.Strs
import Derived.Test.YthnafdbebniapaaGreatDoorRows
import Derived.Test.YthnafdbebniapaaGreatDoorCards
import Derived.Test.YthnafdbebniapaaGreatDoorTie
import Derived.WalkKit
import Derived.ProofKit
import Derived.LaidMore
import Derived.LaidHandle
import Derived.Lay
import Derived.ShutString
import Derived.Stop.Joined
import Derived.ChangeOld
import Derived.Handed
import Derived.Shelf.Vars
import Derived.SevenTiedAt
import Derived.Test.YthnafdbebniapaaGreatDoorQ08
import Derived.Test.YthnafdbebniapaaGreatDoorQ12
set_option maxHeartbeats 64000000
set_option maxRecDepth 20000
namespace Go.Proofs.YthnafdbebniapaaGreatDoor
open Go Go.Wk Go.Un Go.De Go.Cv
set_option linter.unusedSimpArgs false
set_option linter.unusedVariables false
attribute [local irreducible] Go.wpList Go.Code.wp Go.wpStill Go.Wk.wpPre Go.bodyPost Go.Calls Go.Wk.Ct Go.Wk.OwnS Go.Wk.wpG Go.Wk.wpM
def vOne : VH := ⟨2, 1, []⟩
def vTwo : VH := ⟨2, 2, []⟩
def xE : EH := ⟨2, 0, 0, [88], ⟨0, 0, []⟩, .nil⟩
def litE1 (n : Int) : EH := ⟨1, 0, 0, [], ⟨1, n, []⟩, .nil⟩
def L2 : Ef := .cons xE .nil (.cons xE .nil .nil)
def V2 (a b : VH) : Vf := .cons a .nil (.cons b .nil .nil)
def sg (h : EH) : Ef := .cons h .nil .nil
theorem ex_1 : MatF tupE L2 (⟨5, 0, []⟩, V2 vOne vOne) [] = some [([88], (vOne, .nil))] := by kernel_rfl
theorem ex_2 : MatF tupE L2 (⟨5, 0, []⟩, V2 vOne vTwo) [] = none := by kernel_rfl
theorem ex_3 : MatF xE .nil (vOne, .nil) [([88], (vTwo, .nil))] = none := by kernel_rfl
theorem ex_4 : okT [listTD] = true := by kernel_rfl
theorem ex_5 : chkE [listTD] [(sBool, .nil)] [sg (litE1 1), sg (litE1 0)] = 0 := by kernel_rfl
theorem ex_6 : covC [listTD] [(sBool, .nil)] [sg (litE1 1), sg (litE1 0)] = true := by kernel_rfl
theorem ex_7 : chkE [listTD] [(sBool, .nil)] [sg (litE1 1)] = 0 := by kernel_rfl
theorem ex_8 : covC [listTD] [(sBool, .nil)] [sg (litE1 1)] = false := by kernel_rfl
theorem ex_9 : FitsF [listTD] xE .nil (sInt, .nil) = true := by kernel_rfl
theorem ex_10 : FitsF [listTD] (litE1 1) .nil (sInt, .nil) = false := by kernel_rfl
theorem sm_list : SmT [listTD] := ⟨by decide, fun x hx => by
 rw [List.mem_singleton] at hx
 subst hx
 refine ⟨by decide, by decide, fun c hc => ?_⟩
 have : c = ⟨[110, 105, 108], []⟩ ∨ c = ⟨[99, 111, 110, 115], [⟨[], [39, 97], .nil⟩, ⟨[], [108, 105, 115, 116], .cons [39, 97] .nil .nil⟩]⟩ := by simpa [listTD] using hc
 rcases this with rfl | rfl <;> decide⟩
theorem ma_none {F' : Heap} {G' : List Grp} {u : Value} (h : MaP none F' G' u) : u = .tuple ⟨[.slice none 0 0, .bool false]⟩ := by
 rcases h with ⟨-, h⟩ | ⟨v, a, g, xs, h, -⟩
 ·exact h
 ·cases h
theorem ma_some {a : List Bd} {F' : Heap} {G' : List Grp} {u : Value} (h : MaP (some a) F' G' u) : ∃ (v : Value) (g : Grp) (xs : List Value), u = .tuple ⟨[v, .bool true]⟩ ∧ G' = [g] ∧ OwnS 44 5 v a.length xs g ∧ LiC F' 5 BvR xs a := by
 rcases h with ⟨h, -⟩ | ⟨v, b, g, xs, h, h2⟩
 ·cases h
 ·cases h; exact ⟨v, g, xs, h2⟩
theorem px_one {F : Heap} {h : EH} (hv : h.vl = .nil) : PxC F [.int .u8 (h.k : Int), .int .i64 h.l, .int .i64 h.c, .string (bs h.nm), .int .u8 (h.v.k : Int), .int .i64 h.v.n, .string (bs h.v.s), .slice none 0 0, .slice none 0 0] h .nil :=
 ⟨none, 0, 0, none, 0, rfl, by rw [hv]; exact TrS.nil _ _ _, TrS.nil _ _ _⟩
theorem va_one {F : Heap} {h : VH} (hs : h.s.length ≤ 1000) : VaC F [.int .u8 (h.k : Int), .int .i64 h.n, .string (bs h.s), .slice none 0 0] h .nil := ⟨_, rfl, TrS.nil _ _ _, by omega⟩
theorem li_px {F : Heap} {h : EH} {L : Ef} {cs : List Value} (hX : PxC F cs h L) : RoR 9 EhR F (h, L) cs := by
 obtain ⟨a1, n1, c1, ao, cap, rfl, h2, h3⟩ := hX
 exact ⟨_, _, rfl, rfl, ⟨_, rfl, h2⟩, h3⟩
theorem tr_px1 {F : Heap} {b : Nat} {e : TypeId} {h : EH} {L : Ef} {cs : List Value} (hb : F b = some (.cells ⟨cs⟩ e (0, 0))) (hX : PxC F cs h L) (hl : cs.length = 9) : TrS F 9 EhR (.slice (some ⟨b, 0, none⟩) 1 1) (.cons h L .nil) :=
 trs_kids (l := .cons h L .nil) (lim_of (l := [(h, L)]) hb ⟨cs, [], by rw [List.append_nil], hl, li_px hX, rfl⟩ (by show 1 ≤ _; omega))
theorem tr_px2 {F : Heap} {b : Nat} {e : TypeId} {h h2 : EH} {L M : Ef} {cs ds : List Value} (hb : F b = some (.cells ⟨cs ++ ds⟩ e (0, 0))) (hX : PxC F cs h L) (hl : cs.length = 9) (hY : PxC F ds h2 M) (hm : ds.length = 9) : TrS F 9 EhR (.slice (some ⟨b, 0, none⟩) 2 2) (.cons h L (.cons h2 M .nil)) :=
 trs_kids (l := .cons h L (.cons h2 M .nil)) (lim_of (l := [(h, L), (h2, M)]) hb ⟨cs, ds, rfl, hl, li_px hX, ⟨ds, [], by rw [List.append_nil], hm, li_px hY, rfl⟩⟩ (by show 2 ≤ _; omega))
theorem tr_va2 {F : Heap} {b : Nat} {e : TypeId} {h h2 : VH} {cs ds : List Value} (hb : F b = some (.cells ⟨cs ++ ds⟩ e (0, 0))) (hX : VaC F cs h .nil) (hl : cs.length = 4) (hY : VaC F ds h2 .nil) (hm : ds.length = 4) : TrS F 4 VhR (.slice (some ⟨b, 0, none⟩) 2 2) (V2 h h2) :=
 trs_kids (l := V2 h h2) (lim_of (l := ([(h, .nil), (h2, .nil)] : List (VH × Vf))) hb ⟨cs, ds, rfl, hl, vac_ror hX, ⟨ds, [], by rw [List.append_nil], hm, vac_ror hY, rfl⟩⟩ (by show 2 ≤ _; omega))
theorem li_row1 {F : Heap} {b : Nat} {e : TypeId} {u : Value} {r : Ef} (hb : F b = some (.cells ⟨[u]⟩ e (0, 0))) (h : TrS F 9 EhR u r) : LiM F 1 RwR (.slice (some ⟨b, 0, none⟩) 1 1) [r] :=
 lim_of (l := [r]) hb ⟨[u], [], rfl, rfl, ⟨u, rfl, h⟩, rfl⟩ (by show 1 ≤ _; omega)
theorem li_row2 {F : Heap} {b : Nat} {e : TypeId} {u u2 : Value} {r r2 : Ef} (hb : F b = some (.cells ⟨[u, u2]⟩ e (0, 0))) (h : TrS F 9 EhR u r) (h2 : TrS F 9 EhR u2 r2) : LiM F 1 RwR (.slice (some ⟨b, 0, none⟩) 2 2) [r, r2] :=
 lim_of (l := [r, r2]) hb ⟨[u], [u2], rfl, rfl, ⟨u, rfl, h⟩, ⟨[u2], [], rfl, rfl, ⟨u2, rfl, h2⟩, rfl⟩⟩ (by show 2 ≤ _; omega)
theorem sg_ok (n : Int) (h : -9223372036854775808 ≤ n ∧ n ≤ 9223372036854775807) : BndL (sg (litE1 n)) ∧ RgL (sg (litE1 n)) := ⟨⟨⟨Nat.zero_le _, Nat.zero_le _⟩, trivial, trivial⟩, h, trivial, trivial⟩
def xsB : Fo := .cons sBool .nil .nil
abbrev cV (n : Int) : List Value := [.int .u8 2, .int .i64 n, .string (bs []), .slice none 0 0]
abbrev cX : List Value := [.int .u8 2, .int .i64 0, .int .i64 0, .string (bs [88]), .int .u8 0, .int .i64 0, .string (bs []), .slice none 0 0, .slice none 0 0]
abbrev cT (b : Nat) : List Value := [.int .u8 4, .int .i64 0, .int .i64 0, .string (bs []), .int .u8 0, .int .i64 0, .string (bs []), .slice none 0 0, .slice (some ⟨b, 0, none⟩) 2 2]
abbrev cL (n : Int) : List Value := [.int .u8 1, .int .i64 0, .int .i64 0, .string (bs []), .int .u8 1, .int .i64 n, .string (bs []), .slice none 0 0, .slice none 0 0]
structure AwS (F E : Heap) (b1 b2 b3 b4 b25 : Nat) : Prop where
  le : ∀ b o, F b = some o → E b = some o
  c1 : Cels E b1 0 (cV 1)
  c2 : Cels E b2 0 (cV 2)
  cx : Cels E b3 0 cX
  ct : Cels E b4 0 (cT b25)
  pT : PxC E (cT b25) tupE L2
theorem AwS.mono {F E E' : Heap} {b1 b2 b3 b4 b25 : Nat} (h : AwS F E b1 b2 b3 b4 b25) (hF : ∀ b o, E b = some o → E' b = some o) : AwS F E' b1 b2 b3 b4 b25 := ⟨fun b o x => hF _ _ (h.le _ _ x), h.c1.mono hF, h.c2.mono hF, h.cx.mono hF, h.ct.mono hF, h.pT.mono hF⟩
structure AwB (E : Heap) (b : Nat) (a : Option Addr) (c : Nat) : Prop where
  c0 : Cel E b 0 (.string (bs [88]))
  c1 : Cels E b 1 [.int .u8 2, .int .i64 1, .string (bs []), .slice a 0 c]
  v : VaC E [.int .u8 2, .int .i64 1, .string (bs []), .slice a 0 c] vOne .nil
theorem AwB.mono {E E' : Heap} {b : Nat} {a : Option Addr} {c : Nat} (h : AwB E b a c) (hF : ∀ b o, E b = some o → E' b = some o) : AwB E' b a c := ⟨h.c0.mono hF, h.c1.mono hF, h.v.mono hF⟩
def AwL (E : Heap) (b b' : Nat) : Prop := Cels E b 0 (cL 1) ∧ Cels E b' 0 (cL 0)
theorem AwL.mono {E E' : Heap} {b b' : Nat} (h : AwL E b b') (hF : ∀ b o, E b = some o → E' b = some o) : AwL E' b b' := ⟨h.1.mono hF, h.2.mono hF⟩
theorem cels_tk1 {F : Heap} {b : Nat} {u a1 a2 a3 a4 : Value} {r s : List Value} (h : Cels F b 0 ([u, a1, a2, a3, a4] ++ r ++ s)) : Cels F b 1 [a1, a2, a3, a4] := (h.drop 1).take 4
theorem dropA {n : Sz} {L : List (Nat × Value)} {w0 : World} {F0 : Heap} {K0 : List Nat} {F : Heap} {G : List Grp} {a : Act} {w : World} (S : St n L w0 F0 K0 F (G ++ []) a w) : St n L w0 F0 K0 F [] a w := ⟨S.fr, S.tr.sub (List.nil_sublist _)⟩
theorem bnd_t : BndH tupE := ⟨Nat.zero_le _, Nat.zero_le _⟩
theorem bnd_x : BndH xE := ⟨by decide, Nat.zero_le _⟩
theorem bnd_1 : BndH (litE1 1) := ⟨Nat.zero_le _, Nat.zero_le _⟩
theorem bnd_l2 : BndL L2 := ⟨bnd_x, trivial, bnd_x, trivial, trivial⟩
theorem rb_1 : RowsB [sg (litE1 1)] := fun r hr => by
 rw [List.mem_singleton] at hr; subst hr; exact sg_ok 1 (by omega)
theorem rb_2 : RowsB [sg (litE1 1), sg (litE1 0)] := fun r hr => by
 rcases List.mem_cons.1 hr with rfl | hr
 ·exact sg_ok 1 (by omega)
 ·rw [List.mem_singleton] at hr; subst hr; exact sg_ok 0 (by omega)
theorem awakeCt (F : Heap) (hM : MaxF F) (hT : TabF F) (hE : ErrT F) : Ct Tryz.prog 11 [] F [] (fun _ _ u => u = .bool true) := by
 refine Ct.enter Tryz.func11 rfl Tryz.ntmps11 rfl fun w0 a S => ?_
 (revert S a; refine go 7 ?_; intro Z hZ a S)
 (refine wpl_alloc S rfl rfl rfl rfl ?_; clear S a; intro b1 a w S)
 (refine wpl_alloc S rfl rfl rfl rfl ?_; clear S a; intro b2 a w S)
 iterate 2 (refine wso S rfl rfl ?_; clear S; intro w S)
 (revert S a; revert hZ Z; refine go 4 ?_; intro Z hZ a S)
 (refine wpl_alloc S rfl rfl rfl rfl ?_; clear S a; intro b3 a w S)
 (refine wso S rfl rfl ?_; clear S; intro w S)
 (revert S a; revert hZ Z; refine go 5 ?_; intro Z hZ a S)
 (refine wpl_buildSlice S rfl rfl rfl rfl rfl rfl (by rfl) (by simp [Value.cells, splice, splice]) rfl (by rfl) (by rfl) ?_; clear S a; intro b25 a w hown S)
 (revert S a; refine go 1 ?_; intro a S)
 (refine wpl_alloc S rfl rfl rfl rfl ?_; clear S a; intro b4 a w S)
 (refine wso S rfl rfl ?_; clear S; intro w S)
 (revert S a; revert hZ Z; refine go 2 ?_; intro a S)
 (refine wp_seq_k ?_; intro Z hZ)
 (have S' := frz1 S; clear S; obtain ⟨E1, he1, hb4, S⟩ := S'; have S' := frz1 S; clear S; obtain ⟨E2, he2, hb25, S⟩ := S'; have S' := frz1 S; clear S; obtain ⟨E3, he3, hb3, S⟩ := S'; have S' := frz1 S; clear S; obtain ⟨E4, he4, hb2, S⟩ := S'; have S' := frz1 S; clear S; obtain ⟨E5, he5, hb1, S⟩ := S'; have A : AwS F E5 b1 b2 b3 b4 b25 := ⟨fun b o h => he5 _ _ (he4 _ _ (he3 _ _ (he2 _ _ (he1 _ _ h)))), cels_of hb1, cels_of (he5 _ _ hb2), cels_of (he5 _ _ (he4 _ _ hb3)), cels_of (he5 _ _ (he4 _ _ (he3 _ _ (he2 _ _ hb4)))), tup_px (tr_px2 (cs := cX) (ds := cX) (he5 _ _ (he4 _ _ (he3 _ _ hb25))) (px_one (h := xE) rfl) rfl (px_one (h := xE) rfl) rfl)⟩; clear hown hb1 hb2 hb3 hb4 hb25 he1 he2 he3 he4 he5; obtain ⟨-, hc1, hc2, hcX, hcT, -⟩ := id A)
 (revert S a; refine go 4 ?_; intro a S)
 (refine wpl_buildSlice S rfl rfl rfl rfl rfl rfl (by rfl) (by simp [Value.cells, splice, splice]) rfl (by rfl) (by rfl) ?_; clear S a; intro b31 a w hown S; clear hown; have S' := frz1 S; clear S; obtain ⟨D31, he, hb31, S⟩ := S'; replace A := A.mono he; clear he)
 (revert S a; refine go 1 ?_; intro a S)
 (refine wpl_call (Gs := []) (Gr := []) S rfl rfl rfl rfl rfl rfl (MatchCt D31 (hM.mono A.le) tupE L2 _ ⟨5, 0, []⟩ (V2 vOne vOne) ([.int .u8 5, .int .i64 0, .string (bs []), .slice (some ⟨b31, 0, none⟩) 2 2]) _ [] (by decide) A.pT bnd_t bnd_l2 (⟨_, rfl, tr_va2 (cs := cV 1) (ds := cV 1) hb31 (va_one (h := vOne) (by decide)) rfl (va_one (h := vOne) (by decide)) rfl, by decide⟩) (by decide) (by exact ⟨by decide, trivial, by decide, trivial, trivial⟩) (LiM.nil _ _ _)) rfl (by exact List.Perm.refl _) ?_; clear S a; intro v33 D33 G9 a w hv he S; rw [ex_1] at hv; obtain ⟨vB, gB, xB, rfl, rfl, hoB, hlB⟩ := ma_some hv; obtain ⟨bB, cB, zB, rfl, rfl, -, -, -, -⟩ := ownS_blkN hoB (by decide); obtain ⟨kB, rB, rfl, -, ⟨aB, dB, rfl, hvB⟩, -⟩ := hlB; replace A := A.mono he; replace S := cDrop (B := []) S; have S' := frz1 S; clear S; obtain ⟨D34, he2, hbB, S⟩ := S'; replace A := A.mono he2; have B : AwB D34 bB aB dB := ⟨(cels_of hbB).cel (j := 0) rfl, cels_tk1 (cels_of hbB), hvB.mono he2⟩; clear he he2 hbB hoB hv)
 (revert S a; revert hZ Z; refine go 7 ?_; intro a S)
 (refine wp_seq_k ?_; intro Z hZ)
 (obtain ⟨-, hc1, hc2, hcX, hcT, -⟩ := id A)
 (revert S a; refine go 4 ?_; intro a S)
 (refine wpl_buildSlice S rfl rfl rfl rfl rfl rfl (by rfl) (by simp [Value.cells, splice, splice]) rfl (by rfl) (by rfl) ?_; clear S a; intro b40 a w hown S; clear hown; have S' := frz1 S; clear S; obtain ⟨D40, he, hb40, S⟩ := S'; replace A := A.mono he; replace B := B.mono he; clear he)
 (revert S a; refine go 1 ?_; intro a S)
 (refine wpl_call (Gs := []) (Gr := []) S rfl rfl rfl rfl rfl rfl (MatchCt D40 (hM.mono A.le) tupE L2 _ ⟨5, 0, []⟩ (V2 vOne vTwo) ([.int .u8 5, .int .i64 0, .string (bs []), .slice (some ⟨b40, 0, none⟩) 2 2]) _ [] (by decide) A.pT bnd_t bnd_l2 (⟨_, rfl, tr_va2 (cs := cV 1) (ds := cV 2) hb40 (va_one (h := vOne) (by decide)) rfl (va_one (h := vTwo) (by decide)) rfl, by decide⟩) (by decide) (by exact ⟨by decide, trivial, by decide, trivial, trivial⟩) (LiM.nil _ _ _)) rfl (by exact List.Perm.refl _) ?_; clear S a; intro v42 D42 G9 a w hv he S; rw [ex_2] at hv; obtain rfl := ma_none hv; replace A := A.mono he; replace B := B.mono he; replace S := dropA S; clear hv he)
 (revert S a; revert hZ Z; refine go 7 ?_; intro a S)
 (refine wp_seq_k ?_; intro Z hZ)
 (obtain ⟨-, hc1, hc2, hcX, hcT, -⟩ := id A)
 (revert S a; refine go 5 ?_; intro a S)
 (refine wpl_buildSlice S rfl rfl rfl rfl rfl rfl (by rfl) (by simp [Value.cells, splice, splice]) rfl (by rfl) (by rfl) ?_; clear S a; intro b50 a w hown S; clear hown; have S' := frz1 S; clear S; obtain ⟨D50, he, hb50, S⟩ := S'; replace A := A.mono he; replace B := B.mono he; clear he)
 (refine wpl_call (Gs := []) (Gr := []) S rfl rfl rfl rfl rfl rfl (MatchCt D50 (hM.mono A.le) xE .nil cX vOne .nil (cV 1) _ [([88], (vTwo, .nil))] (by decide) (px_one (h := xE) rfl) bnd_x trivial (va_one (h := vOne) (by decide)) (by decide) trivial (lim_of (sz := 5) (R := BvR) (l := ([([88], (vTwo, Rose.nil))] : List Bd)) (cs := .string (bs [88]) :: cV 2) hb50 ⟨.string (bs [88]) :: cV 2, [], rfl, rfl, ⟨none, 0, rfl, va_one (h := vTwo) (by decide)⟩, rfl⟩ (by decide))) rfl (by exact List.Perm.refl _) ?_; clear S a; intro v51 D51 G9 a w hv he S; rw [ex_3] at hv; obtain rfl := ma_none hv; replace A := A.mono he; replace B := B.mono he; replace S := dropA S; clear hv he)
 (revert S a; revert hZ Z; refine go 8 ?_; intro Z hZ a S)
 (refine wcF S (listCt D51) ?_; clear S a; intro v55 D55 a w hv he S; obtain ⟨c55, rfl, hT55, -⟩ := hv; obtain ⟨w1, w2, rfl, ht1, ht2⟩ := hT55; replace A := A.mono he; replace B := B.mono he; obtain ⟨s1, z1, rfl, -, -⟩ := id ht1; obtain ⟨s2, z2, rfl, -, -⟩ := id ht2)
 (refine wpl_buildSlice S rfl rfl rfl rfl rfl rfl (by rfl) (by simp [Value.cells, splice, splice]) rfl (by rfl) (by rfl) ?_; clear S a; intro b56 a w hown S; clear hown; have S' := frz1 S; clear S; obtain ⟨D56, he, hb56, S⟩ := S'; replace A := A.mono he; replace B := B.mono he; have hL56 : LiM D56 6 TdR (.slice (some ⟨b56, 0, none⟩) 1 1) [listTD] := lim_of (l := [listTD]) hb56 ⟨_, [], (List.append_nil _).symm, rfl, ⟨_, _, rfl, ht1.mono he, ht2.mono he⟩, rfl⟩ (by decide); clear he)
 (refine wcF S (tableCt D56 (hE.mono A.le) [listTD] _ hL56 sm_list) ?_; clear S a; intro v57 D57 a w hv he S; obtain ⟨p1, p2, rfl, hok⟩ := hv; obtain ⟨tb, tp, rfl, rfl, hC, -, hTk⟩ := hok ex_4; rw [ex_4] at S; replace A := A.mono he; replace B := B.mono he; clear he hok)
 (revert S a; revert hZ Z; refine go 12 ?_; intro Z hZ a S)
 (refine wpl_alloc S rfl rfl rfl rfl ?_; clear S a; intro b14 a w S)
 (refine wso S rfl rfl ?_; clear S; intro w S)
 (revert S a; revert hZ Z; refine go 5 ?_; intro Z hZ a S)
 (refine wpl_alloc S rfl rfl rfl rfl ?_; clear S a; intro b15 a w S)
 (refine wso S rfl rfl ?_; clear S; intro w S)
 (revert S a; revert hZ Z; refine go 2 ?_; intro a S)
 (refine wp_seq_k ?_; intro Z hZ)
 (have S' := frz1 S; clear S; obtain ⟨E14, he, hb15, S⟩ := S'; have S' := frz1 S; clear S; obtain ⟨E15, he2, hb14, S⟩ := S'; replace A := (A.mono he).mono he2; replace B := (B.mono he).mono he2; replace hC := (hC.mono he).mono he2; have C : AwL E15 b14 b15 := ⟨cels_of hb14, cels_of (he2 _ _ hb15)⟩; clear he he2 hb14 hb15; have hc14 := C.1; have hc15 := C.2)
 (revert S a; refine go 3 ?_; intro a S)
 (refine wpl_buildSlice S rfl rfl rfl rfl rfl rfl (by rfl) (by simp [Value.cells, splice, splice]) rfl (by rfl) (by rfl) ?_; clear S a; intro b68 a w hown S; clear hown; have S' := frz1 S; clear S; obtain ⟨D68, he, hb68, S⟩ := S'; replace A := A.mono he; replace B := B.mono he; replace hC := hC.mono he; replace C := C.mono he; have hx := slf_one1 hb68 (SlF.nil _); have hc14 := C.1; clear he)
 (revert S a; refine go 1 ?_; intro a S)
 (refine wpl_buildSlice S rfl rfl rfl rfl rfl rfl (by rfl) (by simp [Value.cells, splice, splice]) rfl (by rfl) (by rfl) ?_; clear S a; intro b70 a w hown S; clear hown; have S' := frz1 S; clear S; obtain ⟨D70, he, hb70, S⟩ := S'; replace A := A.mono he; replace B := B.mono he; replace hC := hC.mono he; replace C := C.mono he; replace hx := hx.mono he; have h1 : TrS D70 9 EhR (.slice (some ⟨b70, 0, none⟩) 1 1) (sg (litE1 1)) := tr_px1 (cs := cL 1) hb70 (px_one (h := litE1 1) rfl) rfl; have hc15 := C.2; clear he)
 (revert S a; refine go 1 ?_; intro a S)
 (refine wpl_buildSlice S rfl rfl rfl rfl rfl rfl (by rfl) (by simp [Value.cells, splice, splice]) rfl (by rfl) (by rfl) ?_; clear S a; intro b72 a w hown S; clear hown; have S' := frz1 S; clear S; obtain ⟨D72, he, hb72, S⟩ := S'; replace A := A.mono he; replace B := B.mono he; replace hC := hC.mono he; replace C := C.mono he; replace hx := hx.mono he; replace h1 := h1.mono he; have h2 : TrS D72 9 EhR (.slice (some ⟨b72, 0, none⟩) 1 1) (sg (litE1 0)) := tr_px1 (cs := cL 0) hb72 (px_one (h := litE1 0) rfl) rfl; clear he)
 (refine wpl_buildSlice S rfl rfl rfl rfl rfl rfl (by rfl) (by simp [Value.cells, splice, splice]) rfl (by rfl) (by rfl) ?_; clear S a; intro b73 a w hown S; clear hown; have S' := frz1 S; clear S; obtain ⟨D73, he, hb73, S⟩ := S'; replace A := A.mono he; replace B := B.mono he; replace hC := hC.mono he; replace C := C.mono he; replace hx := hx.mono he; replace h1 := h1.mono he; replace h2 := h2.mono he; have hr : LiM D73 1 RwR (.slice (some ⟨b73, 0, none⟩) 2 2) [sg (litE1 1), sg (litE1 0)] := li_row2 hb73 h1 h2; clear he)
 (refine wc0 S (coversCt D73 (hM.mono A.le) (hT.mono A.le) tb [listTD] hC sm_list.tsz _ _ (tysOf xsB) [sg (litE1 1), sg (litE1 0)] (ckb_of (by decide) (by decide) rb_2) hx hr (fun h => uru_cov sm_list hTk (by decide) (by decide) rb_2 h)) ?_; clear S a; intro v74 a w hv S; unfold CoQ at hv; replace hv := hv.trans (by rw [show chkE [listTD] (tysOf xsB) _ = 0 from ex_5, show covC [listTD] (tysOf xsB) _ = true from ex_6]); subst hv; clear hx hr h1 h2; have hc14 := C.1)
 (revert S a; revert hZ Z; refine go 10 ?_; intro Z hZ a S)
 (refine wpl_buildSlice S rfl rfl rfl rfl rfl rfl (by rfl) (by simp [Value.cells, splice, splice]) rfl (by rfl) (by rfl) ?_; clear S a; intro b80 a w hown S; clear hown; have S' := frz1 S; clear S; obtain ⟨D80, he, hb80, S⟩ := S'; replace A := A.mono he; replace B := B.mono he; replace hC := hC.mono he; replace C := C.mono he; have hx := slf_one1 hb80 (SlF.nil _); have hc14 := C.1; clear he)
 (revert S a; refine go 1 ?_; intro a S)
 (refine wpl_buildSlice S rfl rfl rfl rfl rfl rfl (by rfl) (by simp [Value.cells, splice, splice]) rfl (by rfl) (by rfl) ?_; clear S a; intro b82 a w hown S; clear hown; have S' := frz1 S; clear S; obtain ⟨D82, he, hb82, S⟩ := S'; replace A := A.mono he; replace B := B.mono he; replace hC := hC.mono he; replace C := C.mono he; replace hx := hx.mono he; have h1 : TrS D82 9 EhR (.slice (some ⟨b82, 0, none⟩) 1 1) (sg (litE1 1)) := tr_px1 (cs := cL 1) hb82 (px_one (h := litE1 1) rfl) rfl; clear he)
 (refine wpl_buildSlice S rfl rfl rfl rfl rfl rfl (by rfl) (by simp [Value.cells, splice, splice]) rfl (by rfl) (by rfl) ?_; clear S a; intro b83 a w hown S; clear hown; have S' := frz1 S; clear S; obtain ⟨D83, he, hb83, S⟩ := S'; replace A := A.mono he; replace B := B.mono he; replace hC := hC.mono he; replace C := C.mono he; replace hx := hx.mono he; replace h1 := h1.mono he; have hr : LiM D83 1 RwR (.slice (some ⟨b83, 0, none⟩) 1 1) [sg (litE1 1)] := li_row1 hb83 h1; clear he)
 (refine wc0 S (coversCt D83 (hM.mono A.le) (hT.mono A.le) tb [listTD] hC sm_list.tsz _ _ (tysOf xsB) [sg (litE1 1)] (ckb_of (by decide) (by decide) rb_1) hx hr (fun h => uru_cov sm_list hTk (by decide) (by decide) rb_1 h)) ?_; clear S a; intro v84 a w hv S; unfold CoQ at hv; replace hv := hv.trans (by rw [show chkE [listTD] (tysOf xsB) _ = 0 from ex_7, show covC [listTD] (tysOf xsB) _ = false from ex_8]); subst hv; clear hx hr h1)
 (revert S a; revert hZ Z; refine go 7 ?_; intro a S)
 (refine wp_seq_k ?_; intro Z hZ)
 (obtain ⟨-, hc1, hc2, hcX, hcT, -⟩ := id A; obtain ⟨hcb0, hcb1, -⟩ := id B; have hc14 := C.1)
 (refine wpc_mixM [0, 1, 2, 3, 4, 5, 6, 7, 8, 9, 10, 11, 12, 13, 14, 15, 16, 17, 18, 19, 20, 21, 23, 24, 25, 26, 27, 28, 29, 30, 31, 32, 33, 34, 35, 36, 37, 38, 39, 40, 41, 42, 43, 44, 45, 46, 47, 48, 49, 50, 52, 53, 54, 55, 56, 58, 59] [13, 20, 21, 49, 55] [] (.one 0 (.one 1 (.one 2 (.one 3 (.one 4 (.one 5 (.one 6 (.one 7 (.one 8 (.one 9 (.one 10 (.one 11 (.one 12 (.one 13 (.one 14 (.one 15 (.one 16 (.one 17 (.one 18 (.one 19 (.one 20 (.one 21 (.one 22 (.one 23 (.one 24 (.one 25 (.one 26 (.one 27 (.one 28 (.one 29 (.one 30 (.one 31 (.one 32 (.one 33 (.one 34 (.one 35 (.one 36 (.one 37 (.one 38 (.one 39 (.one 40 (.one 41 (.one 42 (.one 43 (.one 44 (.one 45 (.one 46 (.one 47 (.one 48 (.one 49 (.one 50 (.one 51 (.one 52 (.one 53 (.one 54 (.one 55 (.one 56 (.one 57 (.one 58 (.one 59 (.one 60 .nil))))))))))))))))))))))))))))))))))))))))))))))))))))))))))))) [] S mixed (by kernel_rfl) ?_; clear S; intro w S)
 (revert S a; refine go 1 ?_; intro a S)
 (refine wpm_v S rfl rfl rfl (want_none _ rfl) rfl rfl (fun w' S => sv_lit (c := true) (sv_pure S rfl) (by rfl)) ?_; clear S a; intro a S)
 (revert S a; refine go 2 ?_; intro a S)
 (refine wpm_v S rfl rfl rfl (want_none _ rfl) rfl rfl (fun w' S => sv_lit (c := true) (sv_pure S rfl) (by rfl)) ?_; clear S a; intro a S)
 (revert S a; refine go 2 ?_; intro a S)
 (refine wpm_v S rfl rfl rfl (want_yes S rfl rfl rfl) rfl rfl (fun w' S => sv_lit (c := true) (sv_pure S rfl) (by rfl)) ?_; clear S a; intro a S)
 (revert S a; refine go 1 ?_; intro a S)
 (refine wpm_v S rfl rfl rfl (want_none _ rfl) rfl rfl (fun w' S => sv_lit (c := true) (sv_pure S rfl) (by rfl)) ?_; clear S a; intro a S)
 (revert S a; refine go 4 ?_; intro a S)
 (refine wpm_v S rfl rfl rfl (want_yes S rfl rfl rfl) rfl rfl (fun w' S => sv_lit (c := true) (sv_pure S rfl) (by rfl)) ?_; clear S a; intro a S)
 (revert S a; refine go 1 ?_; intro a S)
 (refine wpm_v S rfl rfl rfl (want_none _ rfl) rfl rfl (fun w' S => sv_lit (c := true) (sv_pure S rfl) (by rfl)) ?_; clear S a; intro a S)
 (revert S a; refine go 7 ?_; intro a S)
 (refine wc0 S (sameCt 1000 _ ((vOne, .nil) : Vv) ((vOne, .nil) : Vv) _ (cV 1) (by decide) B.v (va_one (h := vOne) (by decide))) ?_; clear S a; intro v109 a w hv S; replace hv := hv.trans (congrArg Value.bool (show sameV ((vOne, .nil) : Vv) ((vOne, .nil) : Vv) = true by decide)); subst hv)
 (revert S a; refine go 2 ?_; intro a S)
 (refine wpm_v S rfl rfl rfl (want_none _ rfl) rfl rfl (fun w' S => sv_lit (c := true) (sv_pure S rfl) (by rfl)) ?_; clear S a; intro a S)
 (revert S a; refine go 1 ?_; intro a S)
 (refine wpm_v S rfl rfl rfl (want_yes S rfl rfl rfl) rfl rfl (fun w' S => sv_lit (c := true) (sv_pure S rfl) (by rfl)) ?_; clear S a; intro a S)
 (revert S a; refine go 1 ?_; intro a S)
 (refine wpm_v S rfl rfl rfl (want_none _ rfl) rfl rfl (fun w' S => sv_lit (c := true) (sv_pure S rfl) (by rfl)) ?_; clear S a; intro a S)
 (revert S a; refine go 1 ?_; intro a S)
 (refine wpm_v S rfl rfl rfl (want_yes S rfl rfl rfl) rfl rfl (fun w' S => sv_lit (c := true) (sv_pure S rfl) (by rfl)) ?_; clear S a; intro a S)
 (revert S a; refine go 1 ?_; intro a S)
 (refine wpm_v S rfl rfl rfl (want_none _ rfl) rfl rfl (fun w' S => sv_lit (c := true) (sv_pure S rfl) (by rfl)) ?_; clear S a; intro a S)
 (revert S a; refine go 2 ?_; intro a S)
 (refine wpm_v S rfl rfl rfl (want_none _ rfl) rfl rfl (fun w' S => sv_lit (c := true) (sv_pure S rfl) (by rfl)) ?_; clear S a; intro a S)
 (revert S a; refine go 1 ?_; intro a S)
 (refine wpm_v S rfl rfl rfl (want_yes S rfl rfl rfl) rfl rfl (fun w' S => sv_lit (c := true) (sv_pure S rfl) (by rfl)) ?_; clear S a; intro a S)
 (revert S a; refine go 1 ?_; intro a S)
 (refine wpm_v S rfl rfl rfl (want_none _ rfl) rfl rfl (fun w' S => sv_lit (c := true) (sv_pure S rfl) (by rfl)) ?_; clear S a; intro a S)
 (revert S a; refine go 1 ?_; intro a S)
 (refine wpm_v S rfl rfl rfl (want_yes S rfl rfl rfl) rfl rfl (fun w' S => sv_lit (c := true) (sv_pure S rfl) (by rfl)) ?_; clear S a; intro a S)
 (revert S a; refine go 1 ?_; intro a S)
 (refine wpm_v S rfl rfl rfl (want_none _ rfl) rfl rfl (fun w' S => sv_lit (c := true) (sv_pure S rfl) (by rfl)) ?_; clear S a; intro a S)
 (revert S a; refine go 1 ?_; intro a S)
 (refine wpm_v S rfl rfl rfl (want_yes S rfl rfl rfl) rfl rfl (fun w' S => sv_lit (c := true) (sv_pure S rfl) (by rfl)) ?_; clear S a; intro a S)
 (revert S a; refine go 1 ?_; intro a S)
 (refine wpm_v S rfl rfl rfl (want_none _ rfl) rfl rfl (fun w' S => sv_lit (c := true) (sv_pure S rfl) (by rfl)) ?_; clear S a; intro a S)
 (revert S a; refine go 5 ?_; intro a S)
 (refine wc0 S (FitsCt _ (hM.mono A.le) tb [listTD] hC xE .nil cX (sInt, .nil) [.string (bs sInt), .slice none 0 0] (px_one (h := xE) rfl) bnd_x trivial ⟨_, rfl, SlF.nil _⟩ (by exact ⟨by decide, trivial⟩) (by decide)) ?_; clear S a; intro v138 a w hv S; rw [ex_9] at hv; subst hv)
 (revert S a; refine go 2 ?_; intro a S)
 (refine wpm_v S rfl rfl rfl (want_none _ rfl) rfl rfl (fun w' S => sv_lit (c := true) (sv_pure S rfl) (by rfl)) ?_; clear S a; intro a S)
 (revert S a; refine go 5 ?_; intro a S)
 (refine wc0 S (FitsCt _ (hM.mono A.le) tb [listTD] hC (litE1 1) .nil (cL 1) (sInt, .nil) [.string (bs sInt), .slice none 0 0] (px_one (h := litE1 1) rfl) bnd_1 trivial ⟨_, rfl, SlF.nil _⟩ (by exact ⟨by decide, trivial⟩) (by decide)) ?_; clear S a; intro v144 a w hv S; rw [ex_10] at hv; subst hv)
 (revert S a; revert hZ Z; refine go 8 ?_; intro a S)
 refine wp_ret (fr1 S Tryz.results11 ?_)
 rfl
end Go.Proofs.YthnafdbebniapaaGreatDoor
namespace Go.Wk
open Go Go.ChangeShapes Go.WideShapes
set_option linter.unusedSimpArgs false
set_option linter.unusedVariables false
def heapOf (w : World) : Heap := fun b => w.heap[b]?
theorem cel_of {W : World} {a : Addr} {v : Value} (h : W.cell? a = some v) : a.spot = none ∧ Cel (heapOf W) a.block a.off v := by
 refine ⟨World.cell?_spot h, ?_⟩
 unfold World.cell? at h
 split at h
 ·rename_i c e f hc
  split at h
  ·cases h
  ·exact ⟨c, e, f, hc, h⟩
 ·cases h
theorem add_none (b off n : Nat) : (⟨b, off, none⟩ : Addr).add n = ⟨b, off + n, none⟩ := by
 unfold Addr.add; split
 ·rename_i h; subst h; rfl
 ·rfl
theorem Cels.append {F : Heap} {b off : Nat} {xs ys : List Value} (h1 : Cels F b off xs) (h2 : Cels F b (off + xs.length) ys) : Cels F b off (xs ++ ys) := by
 intro j v hv
 by_cases hj : j < xs.length
 ·rw [List.getElem?_append_left hj] at hv; exact h1 j v hv
 ·rw [List.getElem?_append_right (by omega)] at hv
  have := h2 _ v hv
  rw [show off + xs.length + (j - xs.length) = off + j by omega] at this
  exact this
end Go.Wk
namespace Go.Proofs.YthnafdbebniapaaGreatDoor
open Go Go.Wk Go.Un Go.De Go.Cv Go.ChangeShapes Go.WideShapes Go.ChangeAt Go.RowKit
set_option linter.unusedSimpArgs false
set_option linter.unusedVariables false
open Go.ChangeMaps (open_string shut_string)
theorem change_and_shaped {H : Type} {enc : TypeId × Value → H} {a : Assume} {C : Checked} {os : Os} {f : FuncId} {fn : Func} {s : ChangeSpec} {conds : List PathCond} {apart fresh handsOn again : Bool} {X : World → Array Value → Prop}
  (hX : ∀ (w w' : World) (args : Array Value), w.heap = w'.heap → X w args → X w' args)
  (own : ownKnob C.prog.godebug = none) (started : os.Started) (noInit : C.prog.inits.idxOf? f = none) (hfn : C.prog.funcs[f]? = some fn)
  (witness : ∃ (w : World) (tape : Tape) (i : Input), w.os = os ∧ (w.forCall tape i).Shaped C.prog ∧ i.vars = [] ∧ Input.okWide C.prog (w.forCall tape i) .any w.heap.size f i ∧
   ((s.pre enc C.prog fn conds apart (w.forCall tape i).memory i.args ∧ X (w.forCall tape i).memory i.args) ∧ sizedMet enc C.prog fn (OpenSpec.ofChange s) apart (w.forCall tape i).memory i.args) ∧ a.holds C.prog (lone (Frame.enter C.prog f i.args .normal) [] (w.forCall tape i)))
  (contract : ∀ (W : World) (base : Nat) (args : Array Value) (ds gs : List (DataW H)) (before : List MemPlace),
   (∀ (j : Nat) t v, fn.params[j]? = some t → args[j]? = some v → Value.okWide C.prog W .any base t v) →
   DataW.Whole enc C.prog fn.params.toList s.vars apart W args.toList ds gs before →
   (DataW.weightsEach C.prog (fn.params.toList ++ s.plain.varTypes C.prog) (ds ++ gs)).all (· ≤ reachBytes) = true → X W args → W.ShapedOpen C.prog →
   Calls C.prog f args W fun e W' => ∃ v, e = .returned v ∧ s.post enc C.prog fn apart fresh handsOn again W args v W') :
  ReturnsInHanded a C os f .any (fun w args => (s.pre enc C.prog fn conds apart w args ∧ X w args) ∧ sizedMet enc C.prog fn (OpenSpec.ofChange s) apart w args) (s.post enc C.prog fn apart fresh handsOn again) := by
 refine returnsInHanded_of_calls own started noInit witness ?_
 intro w tape i _ hsh _ hok hpre hholds
 obtain ⟨_, _, _, fn', hfn', _, _, _, _, hval⟩ := hok
 have e : fn' = fn := Option.some.inj (hfn'.symm.trans hfn)
 subst e
 obtain ⟨⟨⟨ds, gs, before, hw, hc⟩, hx⟩, hz⟩ := hpre
 have hw' := DataW.Whole.of_heap (w' := w.forCall tape i) (by rfl) hw
 refine (contract (w.forCall tape i) w.heap.size i.args ds gs before hval hw' (hz.weights hw) (hX _ _ _ (by rfl) hx) hsh).mono fun e W' ⟨v, he, hp⟩ => ?_
 subst he
 exact ChangeSpec.post_blind hp
theorem maxF_of {W : World} (h : W.ShapedOpen Tryz.prog) : MaxF (heapOf W) := by
 obtain ⟨m, hm⟩ := cell_of_shapedOpen_int (P := Tryz.prog) (g := 1) (t := 3) (zero := #[.int .i64 0]) h (of_decide_eq_true (by kernel_rfl)) (by kernel_rfl) rfl (by kernel_rfl) (by kernel_rfl) Tryz.underlying3
 exact ⟨m, (cel_of hm).2⟩
theorem ownK : ownKnob Tryz.prog.godebug = none := by kernel_rfl
theorem laidOut : laidOutB Tryz.prog = true := by kernel_rfl
theorem gPow : Tryz.prog.globalNamed "internal/strconv.uint64pow10" = some 2 := by kernel_rfl
theorem tPow : (Tryz.prog.globals[2]?).map (·.type) = some 307 := by kernel_rfl
theorem cPow : Tryz.prog.cellsOf 307 = 20 := by kernel_rfl
theorem cU64 : Tryz.prog.cellsOf 295 = 1 := by kernel_rfl
theorem powData : (Rows.laid_internal_strconv_uint64pow10 : DataW Unit) = Lib.tabData .u64 Lib.pow10Tab := rfl
theorem tabF_of {W : World} (h : Lib.TabIs Tryz.prog W "internal/strconv.uint64pow10" .u64 Lib.pow10Tab) : TabF (heapOf W) := by
 intro w hw
 unfold Lib.TabIs World.var? at *
 cases hg : Tryz.prog.globalNamed "internal/strconv.uint64pow10" with
 | none => rw [hg] at h; cases h
 | some g =>
  rw [hg] at h
  simp only [Option.bind_some] at h ⊢
  cases hb : W.heap[g]? with
  | none => rw [hb] at h; cases h
  | some o => rw [hw g o hb]; rw [hb] at h; exact h
def laidD : List (String × DataW Unit) := [("math/bits.deBruijn32tab", Rows.laid_math_bits_deBruijn32tab), ("math/bits.deBruijn64tab", Rows.laid_math_bits_deBruijn64tab), ("internal/strconv.uint64pow10", Rows.laid_internal_strconv_uint64pow10), ("unicode/utf8.acceptRanges", Rows.laid_unicode_utf8_acceptRanges), ("unicode/utf8.first", Rows.laid_unicode_utf8_first)]
def laidA : List (String × DataW Unit) := [("math/bits.deBruijn32tab", Rows.laid_math_bits_deBruijn32tab), ("math/bits.deBruijn64tab", Rows.laid_math_bits_deBruijn64tab), ("internal/strconv.uint64pow10", Rows.laid_internal_strconv_uint64pow10), ("unicode/utf8.acceptRanges", Rows.laid_unicode_utf8_acceptRanges), ("errors.errorType", Rows.laid_errors_errorType), ("unicode/utf8.first", Rows.laid_unicode_utf8_first)]
theorem gErr : Tryz.prog.globalNamed "errors.errorType" = some 0 := by kernel_rfl
theorem rtErr : (Tryz.prog.cutTypes.find? (·.1 == "internal/reflectlite.rtype")).map (·.2) = some 212 := by kernel_rfl
theorem oneErr : ((List.range Tryz.prog.types.size).filter fun t => Tryz.prog.rowNamed t [101, 114, 114, 111, 114]) = [115] := by kernel_rfl
theorem vars_of {W : World} (h : laidMetH Tryz.prog laidA W) : TabF (heapOf W) ∧ ErrT (heapOf W) := by
 have h' : laidMet Tryz.prog laidD W ∧ handlesMet Tryz.prog [("errors.errorType", Rows.laid_errors_errorType)] W := h
 constructor
 ·obtain ⟨ps, ⟨g0, t0, cs0, f0, p0, q0, _, _, _, _, ⟨g1, t1, cs1, f1, p1, q1, _, _, _, _, ⟨g2, t2, cs2, f2, p2, q2, hg2, ht2, hv2, hd2, _, _⟩, _⟩, _⟩, _, _⟩ := h'.1
  obtain rfl := Option.some.inj (gPow.symm.trans hg2)
  obtain rfl := Option.some.inj (tPow.symm.trans ht2)
  refine tabF_of ?_
  unfold Lib.TabIs
  rw [hv2, ← Lib.cells_of_tab Tryz.underlying307 Tryz.underlying295 cU64 cPow (by rw [← powData]; exact hd2)]
 ·obtain ⟨name, u, ty, e1, e2, e3, e4, e5⟩ := h'.2 _ (List.mem_singleton.2 rfl)
  have en : name = [101, 114, 114, 111, 114] := (Option.some.inj e1).symm
  subst en
  obtain rfl := Option.some.inj (rtErr.symm.trans e2)
  have hm : ty ∈ (List.range Tryz.prog.types.size).filter fun t => Tryz.prog.rowNamed t [101, 114, 114, 111, 114] := List.mem_filter.2 ⟨List.mem_range.2 e3, e4⟩
  rw [oneErr] at hm
  obtain rfl := List.mem_singleton.1 hm
  have hh : typeHandle Tryz.prog 115 = hd 115 := by kernel_rfl
  rw [hh] at e5
  have h6 : W.cell? ⟨0, 0, none⟩ = some (.iface 212 (.agg #[hd 115])) := by simpa using World.var?_cell gErr e5 0
  exact (cel_of h6).2
noncomputable def startW (os : Os) : World := (World.doorLaid Tryz.prog 400 os).layVars Tryz.prog laidD
theorem startW_os (os : Os) : (startW os).os = os := (World.layVars_os _ _ _).trans rfl
theorem laidD_met (os : Os) : laidMet Tryz.prog laidD (startW os) :=
 laidMet_layVars (w0 := World.doorLaid Tryz.prog 400 os) ["math/bits.deBruijn32tab", "math/bits.deBruijn64tab", "internal/strconv.uint64pow10", "unicode/utf8.acceptRanges", "unicode/utf8.first"] [] (by kernel_rfl) (by kernel_rfl) (by kernel_rfl) LaidIn.none
theorem doorA (os : Os) (args : Array Value) : laidMetH Tryz.prog laidA ((startW os).forCall (fun _ _ => 0) ⟨#[], args, []⟩).memory :=
 laidMetH_of_parts3 (fuel := 8) ((laidD_met os).of_heap (by simp [World.memory, World.forCall, Input.heap])) (by kernel_rfl) (by kernel_rfl)
theorem vac_of {F : Heap} {x : VH × Vf} {cs : List Value} (h : RoR 4 VhR F x cs) : VaC F cs x.1 x.2 := by
 obtain ⟨c0, v, rfl, -, ⟨rfl, hs⟩, hv⟩ := h
 exact ⟨v, rfl, hv, hs⟩
end Go.Proofs.YthnafdbebniapaaGreatDoor
namespace Go.Wk
open Go
set_option linter.unusedVariables false
set_option linter.unusedSimpArgs false
structure PM where
  p : Value → Heap → Prop
  mono : ∀ v F F', (∀ b o, F b = some o → F' b = some o) → p v F → p v F'
def PM.is (v : Value) : PM := ⟨fun u _ => u = v, fun _ _ _ _ h => h⟩
end Go.Wk
namespace Go.Proofs.YthnafdbebniapaaGreatDoor
open Go Go.Wk Go.Un Go.De Go.Cv
set_option linter.unusedSimpArgs false
set_option linter.unusedVariables false
attribute [local irreducible] Go.wpList Go.Code.wp Go.wpStill Go.Wk.wpPre Go.bodyPost Go.Calls Go.Wk.Ct Go.Wk.OwnS Go.Wk.wpG Go.Wk.wpM
abbrev pairV : Vf := V2 vOne vTwo
abbrev pairH : VH := ⟨5, 0, []⟩
def sCons : List UInt8 := [99, 111, 110, 115]
def nE (n : Int) : EH := ⟨1, 0, 0, [], ⟨2, n, []⟩, .nil⟩
def mE (s : List UInt8) : EH := ⟨5, 0, 0, s, ⟨0, 0, []⟩, .nil⟩
abbrev E1 (h : EH) (L : Ef) : Ef := .cons h L .nil
abbrev E2 (h : EH) (L : Ef) (h2 : EH) (L2 : Ef) : Ef := .cons h L (.cons h2 L2 .nil)
abbrev gC (L : Ef) : Ef := E1 (mE sCons) L
abbrev kB (n : Int) : Ef := E2 (nE n) .nil anyE .nil
structure NmS (F E : Heap) (b2 : Nat) : Prop where
  le : ∀ b o, F b = some o → E b = some o
  ca : Cels E b2 0 anyCs
theorem NmS.mono {F E E' : Heap} {b2 : Nat} (h : NmS F E b2) (hF : ∀ b o, E b = some o → E' b = some o) : NmS F E' b2 := ⟨fun b o x => hF _ _ (h.le _ _ x), h.ca.mono hF⟩
structure NmP (E : Heap) (b8 bP : Nat) : Prop where
  c8 : Cels E b8 0 [.int .u8 5, .int .i64 0, .string (bs []), .slice (some ⟨bP, 0, none⟩) 2 2]
  cP : Cels E bP 0 (cV 1 ++ cV 2)
  v : VaC E [.int .u8 5, .int .i64 0, .string (bs []), .slice (some ⟨bP, 0, none⟩) 2 2] pairH pairV
theorem NmP.mono {E E' : Heap} {b8 bP : Nat} (h : NmP E b8 bP) (hF : ∀ b o, E b = some o → E' b = some o) : NmP E' b8 bP := ⟨h.c8.mono hF, h.cP.mono hF, h.v.mono hF⟩
abbrev anyP : EH × Ef := (anyE, .nil)
end Go.Proofs.YthnafdbebniapaaGreatDoor
