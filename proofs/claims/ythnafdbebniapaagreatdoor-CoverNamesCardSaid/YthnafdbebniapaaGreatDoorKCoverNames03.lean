/- Walks. -/
import Derived.Test.YthnafdbebniapaaGreatDoorKCoverNames02
import Derived.Test.YthnafdbebniapaaGreatDoorKCoverNames01
import Derived.Test.YthnafdbebniapaaGreatDoorQ38
set_option maxHeartbeats 64000000
set_option maxRecDepth 20000
namespace Go.Proofs.YthnafdbebniapaaGreatDoor
open Go Go.Wk Go.Un Go.De Go.Cv
set_option linter.unusedSimpArgs false
set_option linter.unusedVariables false
attribute [local irreducible] Go.wpList Go.Code.wp Go.wpStill Go.Wk.wpPre Go.bodyPost Go.Calls Go.Wk.Ct Go.Wk.OwnS Go.Wk.wpG Go.Wk.wpM
theorem ex_ty : typedE [listTD] = 0 := by kernel_rfl
theorem ex_o : MatF (mE [97]) .nil (⟨6, 0, [98]⟩, .nil) [] = none := by kernel_rfl
theorem cv_9 : (decide ((70 : Int) = 0) && covC [listTD] (tysOf tInts) rows9) = false := rfl
theorem cv_10 : (decide ((70 : Int) = 0) && covC [listTD] (tysOf tVar) []) = false := rfl
theorem cv_11 : (decide ((74 : Int) = 0) && covC [listTD] (tysOf tInts) rows11) = false := rfl
theorem px_mk {F : Heap} (s : List UInt8) {a : Option Addr} {l c : Nat} {r : Ef} (h : TrS F 9 EhR (.slice a l c) r) : PxC F (cMn s (.slice a l c)) (mE s) r := by
 obtain ⟨_, _, e, -⟩ := id h
 cases e
 exact ⟨none, 0, 0, a, c, rfl, TrS.nil _ _ _, h⟩
theorem slf_two {F : Heap} {b : Nat} {e : TypeId} {nm nm2 : List UInt8} {v v2 : Value} {ar ar2 : Fo} (h : F b = some (.cells ⟨[.string (bs nm), v, .string (bs nm2), v2]⟩ e (0, 0))) (hv : SlF F v ar) (hv2 : SlF F v2 ar2) : SlF F (.slice (some ⟨b, 0, none⟩) 2 2) (.cons nm ar (.cons nm2 ar2 .nil)) := by
 obtain ⟨ao, cap, rfl, h1, h2⟩ := hv
 obtain ⟨ao2, cap2, rfl, h3, h4⟩ := hv2
 exact ⟨_, 2, rfl, ⟨Nat.le_refl _, by show 2 ≤ _; omega⟩, fun _ => ⟨b, 0, rfl, ⟨_, _, _, h, rfl⟩, ⟨ao, cap, ⟨_, _, _, h, rfl⟩, h1, h2⟩, ⟨_, _, _, h, rfl⟩, ⟨ao2, cap2, ⟨_, _, _, h, rfl⟩, h3, h4⟩, trivial⟩⟩
theorem coL (F : Heap) (hM : MaxF F) (hT : TabF F) (tb : Nat) (hC : CTab F tb [listTD]) (hTk : TOk [listTD]) (xs : Fo) (rows : List Ef) (v1 v2 : Value) (h1 : SlF F v1 xs) (h2 : LiM F 1 RwR v2 rows) (hx : xs.size < 30) (hr : totR rows ≤ 200) (hb : rows.all okE = true) {e : Int} {q : Bool} (he : chkE [listTD] (tysOf xs) rows = e) (hq : (decide (e = 0) && covC [listTD] (tysOf xs) rows) = q) :
  Ct Tryz.prog 28 [.pointer (some ⟨tb, 0, none⟩), v1, v2] F [] (fun _ _ u => u = .tuple ⟨[.bool q, .int .i64 e]⟩) := by
 subst he; subst hq
 exact coversCt F hM hT tb [listTD] hC sm_list.tsz v1 v2 (tysOf xs) rows (ckb_of hx (by omega) (rb_ok hb)) (by rw [fo_tys]; exact h1) h2 (fun h => uru_cov sm_list hTk hx hr (rb_ok hb) h)
theorem usC (F : Heap) (hM : MaxF F) (hT : TabF F) (tb : Nat) (hC : CTab F tb [listTD]) (hTk : TOk [listTD]) (xs : Fo) (rows : List Ef) (v1 v2 : Value) (h1 : SlF F v1 xs) (h2 : LiM F 1 RwR v2 rows) (hx : xs.size < 30) (hr : totR rows ≤ 200) (hb : rows.all okE = true) :
  Ct Tryz.prog 29 [.pointer (some ⟨tb, 0, none⟩), v1, v2] F [] (fun _ G' u => UsQ (chkE [listTD] (tysOf xs) rows) (uslC [listTD] (tysOf xs) rows) G' u) :=
 uselessCt F hM hT tb [listTD] hC sm_list.tsz v1 v2 (tysOf xs) rows (ckb_of hx (by omega) (rb_ok hb)) (by rw [fo_tys]; exact h1) h2 (fun h => uru_usl sm_list hTk hx hr (rb_ok hb) h)
theorem usL (F : Heap) (hM : MaxF F) (hT : TabF F) (tb : Nat) (hC : CTab F tb [listTD]) (hTk : TOk [listTD]) (xs : Fo) (rows : List Ef) (v1 v2 : Value) (h1 : SlF F v1 xs) (h2 : LiM F 1 RwR v2 rows) (hx : xs.size < 30) (hr : totR rows ≤ 200) (hb : rows.all okE = true) {l : List Nat} (he : chkE [listTD] (tysOf xs) rows = 0) (hl : uslC [listTD] (tysOf xs) rows = l) :
  Ct Tryz.prog 29 [.pointer (some ⟨tb, 0, none⟩), v1, v2] F [] (fun _ G' u => ∃ v g, u = .tuple ⟨[v, .int .i64 0]⟩ ∧ G' = [g] ∧ OwnS 3 1 v l.length (ints l) g) := by
 subst hl
 exact (usC F hM hT tb hC hTk xs rows v1 v2 h1 h2 hx hr hb).mono fun _ _ _ h => h.elim (fun h => absurd he h.1) (fun h => h.2)
theorem usE (F : Heap) (hM : MaxF F) (hT : TabF F) (tb : Nat) (hC : CTab F tb [listTD]) (hTk : TOk [listTD]) (xs : Fo) (rows : List Ef) (v1 v2 : Value) (h1 : SlF F v1 xs) (h2 : LiM F 1 RwR v2 rows) (hx : xs.size < 30) (hr : totR rows ≤ 200) (hb : rows.all okE = true) (he : chkE [listTD] (tysOf xs) rows = 70) :
  Ct Tryz.prog 29 [.pointer (some ⟨tb, 0, none⟩), v1, v2] F [] (fun _ _ u => u = .tuple ⟨[.slice none 0 0, .int .i64 70]⟩) := by
 refine (usC F hM hT tb hC hTk xs rows v1 v2 h1 h2 hx hr hb).mono fun _ _ _ h => ?_
 rw [he] at h
 exact h.elim (fun h => h.2) (fun h => absurd h.1 (by decide))
def pSlf (l : Fo) : PM := ⟨fun v F => SlF F v l, fun v F F' h hv => hv.mono h⟩
def pUs (l : List Nat) : PM := ⟨fun v F => ∃ u, v = .tuple ⟨[u, .int .i64 0]⟩ ∧ LiM F 1 InR u l, fun v F F' h ⟨u, e, hv⟩ => ⟨u, e, hv.mono h⟩⟩
abbrev SxR := RwR
abbrev nP (n : Int) : EH × Ef := (nE n, .nil)
abbrev mP (s : List UInt8) (r : Ef) : EH × Ef := (mE s, r)
theorem slf_nil (F : Heap) : SlF F (.slice none 0 0) .nil := SlF.nil F
theorem numFt (F : Heap) (n : Int) : Ct Tryz.prog 23 [.int .i64 n] F [] (fun F' _ u => ∃ cs, u = .agg ⟨cs⟩ ∧ cs.length = 9 ∧ RoR 9 EhR F' (nE n, Rose.nil) cs) :=
 (numCt F n).mono fun _ _ _ h => ⟨_, h, rfl, li_px (px_one (h := nE n) rfl)⟩
theorem makeFt (F : Heap) (s : List UInt8) (v : Value) (r : Ef) (hv : TrS F 9 EhR v r) : Ct Tryz.prog 25 [.string (bs s), v] F [] (fun F' _ u => ∃ cs, u = .agg ⟨cs⟩ ∧ cs.length = 9 ∧ RoR 9 EhR F' (mE s, r) cs) := by
 obtain ⟨a, c, rfl, -⟩ := id hv
 exact ct_keepF (makeCt F s a r.len c) fun F' hF u h => ⟨_, h, rfl, li_px (px_mk s (hv.mono hF))⟩
def n17D : List Nat := [104, 105, 106, 107, 108, 109, 110, 111, 112, 113, 114, 115, 116, 103, 117, 118, 14, 15]
def n17P (b2 : Nat) (tb : Nat) : List PM := [PM.is (ptr tb),
pSlf tInts,
PM.is (.func (.func 25) ⟨[]⟩ ⟨[]⟩),
pRec 9 (RoR 9 EhR) (mP [110, 105, 108] .nil),
pTrs 9 EhR (.cons (mP [110, 105, 108] .nil).1 (mP [110, 105, 108] .nil).2 .nil),
PM.is (.func (.func 25) ⟨[]⟩ ⟨[]⟩),
pRec 9 (RoR 9 EhR) anyP,
pRec 9 (RoR 9 EhR) anyP,
pTrs 9 EhR (.cons anyP.1 anyP.2 (.cons anyP.1 anyP.2 .nil)),
pRec 9 (RoR 9 EhR) (mP [99, 111, 110, 115] (.cons anyP.1 anyP.2 (.cons anyP.1 anyP.2 .nil))),
pTrs 9 EhR (.cons (mP [99, 111, 110, 115] (.cons anyP.1 anyP.2 (.cons anyP.1 anyP.2 .nil))).1 (mP [99, 111, 110, 115] (.cons anyP.1 anyP.2 (.cons anyP.1 anyP.2 .nil))).2 .nil),
pLim 1 SxR ([((.cons (mP [110, 105, 108] .nil).1 (mP [110, 105, 108] .nil).2 .nil) : Ef), ((.cons (mP [99, 111, 110, 115] (.cons anyP.1 anyP.2 (.cons anyP.1 anyP.2 .nil))).1 (mP [99, 111, 110, 115] (.cons anyP.1 anyP.2 (.cons anyP.1 anyP.2 .nil))).2 .nil) : Ef)] : List Ef),
PM.is (.tuple ⟨[.bool true, .int .i64 0]⟩),
PM.is (.tuple ⟨[.bool true, .int .i64 0]⟩),
PM.is (.bool true),
PM.is (.int .i64 0),
PM.is (.bool true),
PM.is (.int .i64 0)]
def n18D : List Nat := [120, 121, 122, 123, 124, 125, 126, 127, 128, 129, 130, 131, 132, 133, 119, 134, 135, 16, 17]
def n18P (b2 : Nat) (tb : Nat) : List PM := [PM.is (ptr tb),
pSlf tInts,
PM.is (.func (.func 25) ⟨[]⟩ ⟨[]⟩),
pRec 9 (RoR 9 EhR) (mP [110, 105, 108] .nil),
pTrs 9 EhR (.cons (mP [110, 105, 108] .nil).1 (mP [110, 105, 108] .nil).2 .nil),
PM.is (.func (.func 25) ⟨[]⟩ ⟨[]⟩),
PM.is (.func (.func 23) ⟨[]⟩ ⟨[]⟩),
pRec 9 (RoR 9 EhR) (nP 1),
pRec 9 (RoR 9 EhR) anyP,
pTrs 9 EhR (.cons (nP 1).1 (nP 1).2 (.cons anyP.1 anyP.2 .nil)),
pRec 9 (RoR 9 EhR) (mP [99, 111, 110, 115] (.cons (nP 1).1 (nP 1).2 (.cons anyP.1 anyP.2 .nil))),
pTrs 9 EhR (.cons (mP [99, 111, 110, 115] (.cons (nP 1).1 (nP 1).2 (.cons anyP.1 anyP.2 .nil))).1 (mP [99, 111, 110, 115] (.cons (nP 1).1 (nP 1).2 (.cons anyP.1 anyP.2 .nil))).2 .nil),
pLim 1 SxR ([((.cons (mP [110, 105, 108] .nil).1 (mP [110, 105, 108] .nil).2 .nil) : Ef), ((.cons (mP [99, 111, 110, 115] (.cons (nP 1).1 (nP 1).2 (.cons anyP.1 anyP.2 .nil))).1 (mP [99, 111, 110, 115] (.cons (nP 1).1 (nP 1).2 (.cons anyP.1 anyP.2 .nil))).2 .nil) : Ef)] : List Ef),
PM.is (.tuple ⟨[.bool false, .int .i64 0]⟩),
PM.is (.tuple ⟨[.bool false, .int .i64 0]⟩),
PM.is (.bool false),
PM.is (.int .i64 0),
PM.is (.bool false),
PM.is (.int .i64 0)]
def n19D : List Nat := [137, 138, 139, 140, 141, 142, 143, 144, 145, 146, 147, 148, 149, 150, 151, 152, 153, 154, 155, 156, 157, 158, 136, 159, 160, 18, 19]
def n19P (b2 : Nat) (tb : Nat) : List PM := [PM.is (ptr tb),
pSlf tInts,
PM.is (.func (.func 25) ⟨[]⟩ ⟨[]⟩),
pRec 9 (RoR 9 EhR) (mP [110, 105, 108] .nil),
pTrs 9 EhR (.cons (mP [110, 105, 108] .nil).1 (mP [110, 105, 108] .nil).2 .nil),
PM.is (.func (.func 25) ⟨[]⟩ ⟨[]⟩),
pRec 9 (RoR 9 EhR) anyP,
PM.is (.func (.func 25) ⟨[]⟩ ⟨[]⟩),
pRec 9 (RoR 9 EhR) (mP [110, 105, 108] .nil),
pTrs 9 EhR (.cons anyP.1 anyP.2 (.cons (mP [110, 105, 108] .nil).1 (mP [110, 105, 108] .nil).2 .nil)),
pRec 9 (RoR 9 EhR) (mP [99, 111, 110, 115] (.cons anyP.1 anyP.2 (.cons (mP [110, 105, 108] .nil).1 (mP [110, 105, 108] .nil).2 .nil))),
pTrs 9 EhR (.cons (mP [99, 111, 110, 115] (.cons anyP.1 anyP.2 (.cons (mP [110, 105, 108] .nil).1 (mP [110, 105, 108] .nil).2 .nil))).1 (mP [99, 111, 110, 115] (.cons anyP.1 anyP.2 (.cons (mP [110, 105, 108] .nil).1 (mP [110, 105, 108] .nil).2 .nil))).2 .nil),
PM.is (.func (.func 25) ⟨[]⟩ ⟨[]⟩),
PM.is (.func (.func 23) ⟨[]⟩ ⟨[]⟩),
pRec 9 (RoR 9 EhR) (nP 1),
PM.is (.func (.func 25) ⟨[]⟩ ⟨[]⟩),
pRec 9 (RoR 9 EhR) (mP [110, 105, 108] .nil),
pTrs 9 EhR (.cons (nP 1).1 (nP 1).2 (.cons (mP [110, 105, 108] .nil).1 (mP [110, 105, 108] .nil).2 .nil)),
pRec 9 (RoR 9 EhR) (mP [99, 111, 110, 115] (.cons (nP 1).1 (nP 1).2 (.cons (mP [110, 105, 108] .nil).1 (mP [110, 105, 108] .nil).2 .nil))),
pTrs 9 EhR (.cons (mP [99, 111, 110, 115] (.cons (nP 1).1 (nP 1).2 (.cons (mP [110, 105, 108] .nil).1 (mP [110, 105, 108] .nil).2 .nil))).1 (mP [99, 111, 110, 115] (.cons (nP 1).1 (nP 1).2 (.cons (mP [110, 105, 108] .nil).1 (mP [110, 105, 108] .nil).2 .nil))).2 .nil),
pLim 1 SxR ([((.cons (mP [110, 105, 108] .nil).1 (mP [110, 105, 108] .nil).2 .nil) : Ef), ((.cons (mP [99, 111, 110, 115] (.cons anyP.1 anyP.2 (.cons (mP [110, 105, 108] .nil).1 (mP [110, 105, 108] .nil).2 .nil))).1 (mP [99, 111, 110, 115] (.cons anyP.1 anyP.2 (.cons (mP [110, 105, 108] .nil).1 (mP [110, 105, 108] .nil).2 .nil))).2 .nil) : Ef), ((.cons (mP [99, 111, 110, 115] (.cons (nP 1).1 (nP 1).2 (.cons (mP [110, 105, 108] .nil).1 (mP [110, 105, 108] .nil).2 .nil))).1 (mP [99, 111, 110, 115] (.cons (nP 1).1 (nP 1).2 (.cons (mP [110, 105, 108] .nil).1 (mP [110, 105, 108] .nil).2 .nil))).2 .nil) : Ef)] : List Ef),
pUs [2],
pUs [2],
pLim 1 InR ([2] : List Nat),
PM.is (.int .i64 0),
pLim 1 InR ([2] : List Nat),
PM.is (.int .i64 0)]
def n20D : List Nat := [162, 163, 164, 165, 166, 167, 168, 169, 170, 171, 172, 173, 174, 175, 161, 176, 177, 20, 21]
def n20P (b2 : Nat) (tb : Nat) : List PM := [PM.is (ptr tb),
pRec 2 TyR ([105, 110, 116], Fo.nil),
pRec 2 TyR ([105, 110, 116], Fo.nil),
pSlf tInt2,
PM.is (.func (.func 23) ⟨[]⟩ ⟨[]⟩),
pRec 9 (RoR 9 EhR) (nP 1),
pRec 9 (RoR 9 EhR) anyP,
pTrs 9 EhR (.cons (nP 1).1 (nP 1).2 (.cons anyP.1 anyP.2 .nil)),
pRec 9 (RoR 9 EhR) anyP,
PM.is (.func (.func 23) ⟨[]⟩ ⟨[]⟩),
pRec 9 (RoR 9 EhR) (nP 1),
pTrs 9 EhR (.cons anyP.1 anyP.2 (.cons (nP 1).1 (nP 1).2 .nil)),
pLim 1 SxR ([((.cons (nP 1).1 (nP 1).2 (.cons anyP.1 anyP.2 .nil)) : Ef), ((.cons anyP.1 anyP.2 (.cons (nP 1).1 (nP 1).2 .nil)) : Ef)] : List Ef),
PM.is (.tuple ⟨[.bool false, .int .i64 0]⟩),
PM.is (.tuple ⟨[.bool false, .int .i64 0]⟩),
PM.is (.bool false),
PM.is (.int .i64 0),
PM.is (.bool false),
PM.is (.int .i64 0)]
theorem namesCt (F : Heap) (hM : MaxF F) (hT : TabF F) (hE : ErrT F) : Ct Tryz.prog 6 [] F [] (fun _ _ u => u = .bool true) := by
 refine Ct.enter Tryz.func6 rfl Tryz.ntmps6 rfl fun w0 a S => ?_
 (revert S a; refine go 10 ?_; intro Z hZ a S)
 (refine wpl_alloc S rfl rfl rfl rfl ?_; clear S a; intro b2 a w S)
 (refine wso S rfl rfl ?_; clear S; intro w S)
 (revert S a; revert hZ Z; refine go 10 ?_; intro a S)
 (refine wp_seq_k ?_; intro Z hZ)
 (have S' := frz1 S; clear S; obtain ⟨E0, he2, hb2, S⟩ := S'; have A : NmS F E0 b2 := ⟨he2, cels_of hb2⟩; clear hb2 he2)
 refine wp_region_lit ?_
 (refine wcF S (listCt _) ?_; clear S a; intro v40 D40 a w hv he S; obtain ⟨c40, rfl, hT40, -⟩ := hv; obtain ⟨w1, w2, rfl, ht1, ht2⟩ := hT40; replace A := A.mono he; clear he; obtain ⟨s1, z1, rfl, -, -⟩ := id ht1; obtain ⟨s2, z2, rfl, -, -⟩ := id ht2)
 (refine wpl_buildSlice S rfl rfl rfl rfl rfl rfl (by rfl) (by simp [Value.cells, splice, splice]) rfl (by rfl) (by rfl) ?_; clear S a; intro b41 a w hown S; clear hown; have S' := frz1 S; clear S; obtain ⟨D41, he, hb41, S⟩ := S'; replace A := A.mono he; have hL41 : LiM D41 6 TdR (.slice (some ⟨b41, 0, none⟩) 1 1) [listTD] := lim_of (l := [listTD]) hb41 ⟨_, [], (List.append_nil _).symm, rfl, ⟨_, _, rfl, ht1.mono he, ht2.mono he⟩, rfl⟩ (by decide); clear ht1 ht2; clear he hb41)
 (revert S a; refine go 1 ?_; intro a S)
 (refine wcF S (dnewCt D41 (hE.mono A.le) [listTD] _ hL41 sm_list) ?_; clear S a; intro v43 D43 a w hv he S; obtain ⟨p43, l43, c43, rfl, hok⟩ := hv; obtain ⟨tb, rfl, hC⟩ := hok ex_ty; rw [ex_ty] at S; replace A := A.mono he; clear he hok hL41; have hTk := typedE_ok ex_ty)
 (revert S a; refine go 4 ?_; intro a S)
 (refine wpl_alloc S rfl rfl rfl rfl ?_; clear S a; intro b6 a w S)
 (revert S a; refine go 1 ?_; intro a S)
 (refine wso S rfl rfl ?_; clear S; intro w S)
 (revert S a; revert hZ Z; refine go 4 ?_; intro Z hZ a S)
 (refine wp_seq_k ?_; intro Z hZ)
 (replace S := S.drop1)
 (revert S a; refine go 2 ?_; intro a S)
 (refine wv S (sv_lit (c := false) (sv_pure S rfl) (by rfl)) ?_; clear S a; intro a S)
 (revert S a; revert hZ Z; refine go 2 ?_; intro a S)
 refine wpc_false S rfl ?_
 (revert S a; revert hZ Z; refine go 5 ?_; intro Z hZ a S)
 (refine wpl_buildSlice S rfl rfl rfl rfl rfl rfl (by rfl) (by simp [Value.cells, splice, splice]) rfl (by rfl) (by rfl) ?_; clear S a; intro b51 a w hown S; clear hown; have S' := frz1 S; clear S; obtain ⟨D51, he, hb51, S⟩ := S'; replace A := A.mono he; replace hC := hC.mono he; clear he)
 (revert S a; refine go 1 ?_; intro a S)
 (refine wpl_alloc S rfl rfl rfl rfl ?_; clear S a; intro b8 a w S)
 (refine wso S rfl rfl ?_; clear S; intro w S)
 (revert S a; revert hZ Z; refine go 2 ?_; intro a S)
 (refine wp_seq_k ?_; intro Z hZ)
 (have S' := frz1 S; clear S; obtain ⟨E8, he, hb8, S⟩ := S'; replace A := A.mono he; replace hC := hC.mono he; have Q : NmP E8 b8 b51 := ⟨cels_of hb8, cels_of (he _ _ hb51), ⟨_, rfl, tr_va2 (cs := cV 1) (ds := cV 2) (he _ _ hb51) (va_one (h := vOne) (by decide)) rfl (va_one (h := vTwo) (by decide)) rfl, by decide⟩⟩; clear he hb8 hb51; have hc8 := Q.c8)
 (refine wpc_mixM [0, 2, 4, 5, 6] [2] [] (.one 0 (.one 2 (.one 1 (.one 3 (.one 4 (.one 5 (.one 6 (.one 7 (.one 8 .nil))))))))) [] S mixed (by kernel_rfl) ?_; clear S; intro w S)
 (revert S a; refine go 3 ?_; intro a S)
 (refine wc0 S (varCt _ [88]) ?_; clear S a; intro v55 a w hv S; subst hv)
 (revert S a; refine go 2 ?_; intro a S)
 (refine wpl_call (Gs := []) (Gr := []) S rfl rfl rfl rfl rfl rfl (Match1Ct _ (hM.mono A.le) _ Q.v) rfl (by exact List.Perm.refl _) ?_; clear S a; intro v57 D57 G9 a w hv he S; obtain ⟨vB, gB, vL, gL, xL, rfl, rfl, hoB, hoL, hlL⟩ := hv; obtain ⟨bL, cL9, eL, rfl, rfl, -, -, -, -⟩ := ownS_blkN hoL (by decide); obtain ⟨bB, cB, eB, rfl, rfl, -, -, -, -⟩ := ownS_blkN hoB (by decide); clear hoB hoL; obtain ⟨k1, r1, rfl, -, ⟨q1, u1, rfl, -, ⟨rfl, -⟩, ⟨ao1, ca1, rfl, -⟩⟩, k2, r2, rfl, -, ⟨q2, u2, rfl, -, ⟨rfl, -⟩, ⟨ao2, ca2, rfl, -⟩⟩, rfl⟩ := hlL; replace A := A.mono he; replace hC := hC.mono he; replace Q := Q.mono he; have he57 := he; clear he; (simp only [List.cons_append, List.nil_append] at S))
 (revert S a; revert hZ Z; refine go 14 ?_; intro Z hZ a S)
 (refine wc0 S (makeCt _ [97] none 0 0) ?_; clear S a; intro v62 a w hv S; subst hv)
 (revert S a; refine go 1 ?_; intro a S)
 (refine wpl_call (Gs := []) (Gr := [[(bB, _)], [(bL, _)]]) S rfl rfl rfl rfl rfl rfl (MatchCt _ (hM.mono A.le) (mE [97]) .nil _ ⟨6, 0, [98]⟩ .nil [.int .u8 6, .int .i64 0, .string (bs [98]), .slice none 0 0] _ [] (by decide) (px_one (h := mE [97]) rfl) (by exact ⟨by decide, by decide⟩) trivial (va_one (h := ⟨6, 0, [98]⟩) (by decide)) (by decide) trivial (LiM.nil _ _ _)) rfl (by exact List.Perm.refl _) ?_; clear S a; intro v64 D64 G9 a w hv he S; rw [ex_o] at hv; obtain rfl := ma_none hv; replace A := A.mono he; replace hC := hC.mono he; replace Q := Q.mono he; replace S := cDrop (cRot (A := G9) S); clear hv he)
 (revert S a; revert hZ Z; refine go 10 ?_; intro Z hZ Z hZ a S)
 iterate 2 (refine wv S (sv_lit (c := false) (sv_pure S rfl) (by rfl)) ?_; clear S a; intro a S)
 (revert S a; refine go 5 ?_; intro a S)
 iterate 3 (refine wv S (sv_lit (c := false) (sv_pure S rfl) (by rfl)) ?_; clear S a; intro a S)
 (revert S a; refine go 13 ?_; intro a S)
 iterate 3 (refine wv S (sv_lit (c := false) (sv_pure S rfl) (by rfl)) ?_; clear S a; intro a S)
 (revert S a; refine go 2 ?_; intro a S)
 (refine wv S (sv_lit (c := false) (sv_pure S rfl) (by rfl)) ?_; clear S a; intro a S)
 (revert S a; revert hZ Z; refine go 2 ?_; intro a S)
 refine wpc_false S rfl ?_
 (revert S a; revert hZ Z; refine go 10 ?_; intro Z hZ a S)
 (refine wpl_store1 S rfl rfl rfl rfl rfl (by rfl) (by simp) ?_; clear S; intro w S)
 (revert S a; revert hZ Z; refine go 3 ?_; intro Z hZ a S)
 (refine wp_seq_k ?_; intro Z hZ)
 (replace S := S.drop1.drop1; have hc8 := Q.c8; have hcP := Q.cP)
 (revert S a; refine go 2 ?_; intro a S)
 (refine wv S (sv_loadF S rfl rfl (hc8 3 _ rfl)) ?_; clear S a; intro a S)
 (revert S a; refine go 2 ?_; intro a S)
 (refine wv S (sv_loadF S rfl rfl (hcP 1 _ rfl)) ?_; clear S a; intro a S)
 (refine wv S (sv_lit (c := false) (sv_pure S rfl) (by rfl)) ?_; clear S a; intro a S)
 (revert S a; revert hZ Z; refine go 2 ?_; intro a S)
 refine wpc_false S rfl ?_
 refine wp_skip ?_
 (refine hZ _ _ ?_; clear hZ Z)
 (refine wp_seq_k ?_; intro Z hZ)
 (clear Q)
 (revert S a; refine go 2 ?_; intro a S)
 (refine wpl_buildSlice S rfl rfl rfl rfl rfl rfl (by rfl) (by simp [Value.cells, splice, splice]) rfl (by rfl) (by rfl) ?_; clear S a; intro b100 a w hown S; clear hown; have S' := frz1 S; clear S; obtain ⟨D100, he, hb100, S⟩ := S'; replace A := A.mono he; replace hC := hC.mono he; have hi := slf_one1 (nm := sInt) hb100 (SlF.nil _); clear he hb100)
 (revert S a; refine go 1 ?_; intro a S)
 (refine wpl_buildSlice S rfl rfl rfl rfl rfl rfl (by rfl) (by simp [Value.cells, splice, splice]) rfl (by rfl) (by rfl) ?_; clear S a; intro b102 a w hown S; clear hown; have S' := frz1 S; clear S; obtain ⟨D102, he, hb102, S⟩ := S'; replace A := A.mono he; replace hC := hC.mono he; replace hi := hi.mono he; have hI : SlF D102 (.slice (some ⟨b102, 0, none⟩) 1 1) tInts := slf_one1 (nm := [108, 105, 115, 116]) hb102 hi; clear hi; clear he hb102)
 (revert S a; revert hZ Z; refine go 3 ?_; intro a S)
 (refine wp_seq_k ?_; intro Z hZ)
 (have c2 := A.ca; have k2 : RoR 9 EhR D102 (anyE, Rose.nil) anyCs := li_px (px_one (h := anyE) rfl))
 refine wpc_facts (L0 := [(0, .bool false), (1, .func (.func 23) ⟨[]⟩ ⟨[]⟩), (2, ptr b2), (3, .func (.func 24) ⟨[]⟩ ⟨[]⟩), (4, .func (.func 25) ⟨[]⟩ ⟨[]⟩), (5, ptr tb), (13, .slice (some ⟨b102, 0, none⟩) 1 1)]) n17D (n17P b2 tb) (S.keep ⟨rfl, rfl, rfl, rfl, rfl, rfl, rfl, trivial⟩) mixed (by kernel_rfl) ?_ ?_
 ·(clear S)
  refine ⟨?_, ?_⟩
  ·rintro L F a w hF hL S -
   replace S := S.keep (kp (hL 5 _ rfl) kp0)
   refine stepM_of rfl ?_
   (revert S a; refine go 1 ?_; intro a S)
   exact wpList_nil ⟨_, _, fun _ _ h => h, S.keep ⟨rfl, trivial⟩, rfl⟩
  refine ⟨?_, ?_⟩
  ·rintro L F a w hF hL S -
   replace S := S.keep (kp (hL 13 _ rfl) kp0)
   refine stepM_of rfl ?_
   (revert S a; refine go 1 ?_; intro a S)
   exact wpList_nil ⟨_, _, fun _ _ h => h, S.keep ⟨rfl, trivial⟩, hI.mono hF⟩
  refine ⟨?_, ?_⟩
  ·rintro L F a w hF hL S -
   replace S := S.keep (kp (hL 4 _ rfl) kp0)
   refine stepM_of rfl ?_
   (revert S a; refine go 1 ?_; intro a S)
   exact wpList_nil ⟨_, _, fun _ _ h => h, S.keep ⟨rfl, trivial⟩, rfl⟩
  refine ⟨?_, ?_⟩
  ·rintro L F a w hF hL S ⟨h0, -⟩
   obtain ⟨v106, e106, rfl⟩ := h0 rfl
   replace S := S.keep (kp e106 kp0)
   refine stepM_of rfl ?_
   (refine wcF S (makeFt F [110, 105, 108] _ .nil (TrS.nil _ _ _)) ?_; clear S a; intro u F' a w hu hle S)
   exact wpList_nil ⟨_, _, hle, S.keep ⟨rfl, trivial⟩, hu⟩
  refine ⟨dy_sl1 (e := 29) 3, ?_⟩
  refine ⟨?_, ?_⟩
  ·rintro L F a w hF hL S -
   replace S := S.keep (kp (hL 4 _ rfl) kp0)
   refine stepM_of rfl ?_
   (revert S a; refine go 1 ?_; intro a S)
   exact wpList_nil ⟨_, _, fun _ _ h => h, S.keep ⟨rfl, trivial⟩, rfl⟩
  refine ⟨dy_load c2 k2, ?_⟩
  refine ⟨dy_load c2 k2, ?_⟩
  refine ⟨dy_sl2 (e := 29) 6 7, ?_⟩
  refine ⟨?_, ?_⟩
  ·rintro L F a w hF hL S ⟨h0, h1, -, -⟩
   obtain ⟨v109, e109, rfl⟩ := h0 rfl
   obtain ⟨v112, e112, p112⟩ := h1 rfl
   replace S := S.keep (kp e109 (kp e112 kp0))
   refine stepM_of rfl ?_
   (refine wcF S (makeFt F [99, 111, 110, 115] _ (.cons anyP.1 anyP.2 (.cons anyP.1 anyP.2 .nil)) p112) ?_; clear S a; intro u F' a w hu hle S)
   exact wpList_nil ⟨_, _, hle, S.keep ⟨rfl, trivial⟩, hu⟩
  refine ⟨dy_sl1 (e := 29) 9, ?_⟩
  refine ⟨?_, ?_⟩
  ·rintro L F a w hF hL S ⟨h0, h1, -⟩
   obtain ⟨v108, e108, p108⟩ := h0 rfl
   obtain ⟨v114, e114, p114⟩ := h1 rfl
   have q108 := p108; obtain ⟨oa108, oc108, rfl, -⟩ := q108
   have q114 := p114; obtain ⟨oa114, oc114, rfl, -⟩ := q114
   replace S := S.keep (kp e108 (kp e114 kp0))
   refine stepM_of rfl ?_
   (refine wpl_buildSlice S rfl rfl rfl rfl rfl rfl (by rfl) (by first | (simp [Value.cells]; done) | (simp only [List.mem_cons, List.not_mem_nil, or_false, forall_eq_or_imp, forall_eq, Value.cells]; repeat' constructor) <;> assumption) rfl (by rfl) (by rfl) ?_; clear S a; intro b a w hown S; (simp only [Value.cells, List.flatMap_cons, List.flatMap_nil, List.append_nil] at S); have S' := frz1 S; clear S; obtain ⟨F', hle, hb, S⟩ := S')
   exact wpList_nil ⟨_, _, hle, S.keep ⟨rfl, trivial⟩, lim_of (l := ([((.cons (mP [110, 105, 108] .nil).1 (mP [110, 105, 108] .nil).2 .nil) : Ef), ((.cons (mP [99, 111, 110, 115] (.cons anyP.1 anyP.2 (.cons anyP.1 anyP.2 .nil))).1 (mP [99, 111, 110, 115] (.cons anyP.1 anyP.2 (.cons anyP.1 anyP.2 .nil))).2 .nil) : Ef)] : List Ef)) hb (LiC.app (l := [((.cons (mP [110, 105, 108] .nil).1 (mP [110, 105, 108] .nil).2 .nil) : Ef)]) (LiC.one rfl (⟨_, rfl, p108.mono hle⟩ : SxR _ _ [_])) (LiC.one rfl (⟨_, rfl, p114.mono hle⟩ : SxR _ _ [_]))) (show 2 ≤ _ by decide)⟩
  refine ⟨?_, ?_⟩
  ·rintro L F a w hF hL S ⟨h0, h1, h2, -, -⟩
   obtain ⟨v104, e104, rfl⟩ := h0 rfl
   obtain ⟨v105, e105, p105⟩ := h1 rfl
   obtain ⟨v115, e115, p115⟩ := h2 rfl
   replace S := S.keep (kp e104 (kp e105 (kp e115 kp0)))
   refine stepM_of rfl ?_
   (refine wc0 S (coL F ((hM.mono A.le).mono hF) ((hT.mono A.le).mono hF) tb (hC.mono hF) hTk tInts rows1 _ _ p105 p115 (by decide) (by decide) rfl co_1 (by rw [cv_1])) ?_; clear S a; intro v a w hv S; subst hv)
   exact wpList_nil ⟨_, _, fun _ _ h => h, S.keep ⟨rfl, trivial⟩, rfl⟩
  refine ⟨?_, ?_⟩
  ·rintro L F a w hF hL S ⟨h0, -⟩
   obtain ⟨v116, e116, p116⟩ := h0 rfl
   replace S := S.keep (kp e116 kp0)
   refine stepM_of rfl ?_
   (revert S a; refine go 1 ?_; intro a S)
   exact wpList_nil ⟨_, _, fun _ _ h => h, S.keep ⟨rfl, trivial⟩, p116⟩
  refine ⟨?_, ?_⟩
  ·rintro L F a w hF hL S ⟨h0, -⟩
   obtain ⟨v103, e103, rfl⟩ := h0 rfl
   replace S := S.keep (kp e103 kp0)
   refine stepM_of rfl ?_
   (revert S a; refine go 1 ?_; intro a S)
   exact wpList_nil ⟨_, _, fun _ _ h => h, S.keep ⟨rfl, trivial⟩, rfl⟩
  refine ⟨?_, ?_⟩
  ·rintro L F a w hF hL S ⟨h0, -, -⟩
   obtain ⟨v103, e103, rfl⟩ := h0 rfl
   replace S := S.keep (kp e103 kp0)
   refine stepM_of rfl ?_
   (revert S a; refine go 1 ?_; intro a S)
   exact wpList_nil ⟨_, _, fun _ _ h => h, S.keep ⟨rfl, trivial⟩, rfl⟩
  refine ⟨?_, ?_⟩
  ·rintro L F a w hF hL S ⟨h0, -, -, -, -, -, -, -, -, -, -, -, -, -, -, -, -, -, -⟩
   obtain ⟨v117, e117, p117⟩ := h0 rfl
   replace S := S.keep (kp e117 kp0)
   refine stepM_of rfl ?_
   (revert S a; refine go 1 ?_; intro a S)
   exact wpList_nil ⟨_, _, fun _ _ h => h, S.keep ⟨rfl, trivial⟩, p117⟩
  refine ⟨?_, ?_⟩
  ·rintro L F a w hF hL S ⟨h0, -, -, -, -, -, -, -, -, -, -, -, -, -, -, -, -, -, -, -⟩
   obtain ⟨v118, e118, p118⟩ := h0 rfl
   replace S := S.keep (kp e118 kp0)
   refine stepM_of rfl ?_
   (revert S a; refine go 1 ?_; intro a S)
   exact wpList_nil ⟨_, _, fun _ _ h => h, S.keep ⟨rfl, trivial⟩, p118⟩
  exact trivial
 (clear S; intro L D116 a w hF hL S hall)
 obtain ⟨v14, e14, rfl⟩ := hall 16 (by decide)
 obtain ⟨v15, e15, rfl⟩ := hall 17 (by decide)
 replace S := S.keep (kp e14 (kp e15 (kp (hL 0 _ rfl) (kp (hL 1 _ rfl) (kp (hL 2 _ rfl) (kp (hL 3 _ rfl) (kp (hL 4 _ rfl) (kp (hL 5 _ rfl) (kp (hL 13 _ rfl) kp0)))))))))
 (replace A := A.mono hF; replace hC := hC.mono hF; replace hI := hI.mono hF)
 (refine hZ _ _ ?_; clear hZ Z)
 (refine wp_seq_k ?_; intro Z hZ)
 (have c2 := A.ca; have k2 : RoR 9 EhR D116 (anyE, Rose.nil) anyCs := li_px (px_one (h := anyE) rfl))
 refine wpc_facts (L0 := [(0, .bool false), (1, .func (.func 23) ⟨[]⟩ ⟨[]⟩), (2, ptr b2), (3, .func (.func 24) ⟨[]⟩ ⟨[]⟩), (4, .func (.func 25) ⟨[]⟩ ⟨[]⟩), (5, ptr tb), (13, .slice (some ⟨b102, 0, none⟩) 1 1), (14, .bool true), (15, .int .i64 0)]) n18D (n18P b2 tb) (S.keep ⟨rfl, rfl, rfl, rfl, rfl, rfl, rfl, rfl, rfl, trivial⟩) mixed (by kernel_rfl) ?_ ?_
 ·(clear S)
  refine ⟨?_, ?_⟩
  ·rintro L F a w hF hL S -
   replace S := S.keep (kp (hL 5 _ rfl) kp0)
   refine stepM_of rfl ?_
   (revert S a; refine go 1 ?_; intro a S)
   exact wpList_nil ⟨_, _, fun _ _ h => h, S.keep ⟨rfl, trivial⟩, rfl⟩
  refine ⟨?_, ?_⟩
  ·rintro L F a w hF hL S -
   replace S := S.keep (kp (hL 13 _ rfl) kp0)
   refine stepM_of rfl ?_
   (revert S a; refine go 1 ?_; intro a S)
   exact wpList_nil ⟨_, _, fun _ _ h => h, S.keep ⟨rfl, trivial⟩, hI.mono hF⟩
  refine ⟨?_, ?_⟩
  ·rintro L F a w hF hL S -
   replace S := S.keep (kp (hL 4 _ rfl) kp0)
   refine stepM_of rfl ?_
   (revert S a; refine go 1 ?_; intro a S)
   exact wpList_nil ⟨_, _, fun _ _ h => h, S.keep ⟨rfl, trivial⟩, rfl⟩
  refine ⟨?_, ?_⟩
  ·rintro L F a w hF hL S ⟨h0, -⟩
   obtain ⟨v122, e122, rfl⟩ := h0 rfl
   replace S := S.keep (kp e122 kp0)
   refine stepM_of rfl ?_
   (refine wcF S (makeFt F [110, 105, 108] _ .nil (TrS.nil _ _ _)) ?_; clear S a; intro u F' a w hu hle S)
   exact wpList_nil ⟨_, _, hle, S.keep ⟨rfl, trivial⟩, hu⟩
  refine ⟨dy_sl1 (e := 29) 3, ?_⟩
  refine ⟨?_, ?_⟩
  ·rintro L F a w hF hL S -
   replace S := S.keep (kp (hL 4 _ rfl) kp0)
   refine stepM_of rfl ?_
   (revert S a; refine go 1 ?_; intro a S)
   exact wpList_nil ⟨_, _, fun _ _ h => h, S.keep ⟨rfl, trivial⟩, rfl⟩
  refine ⟨?_, ?_⟩
  ·rintro L F a w hF hL S -
   replace S := S.keep (kp (hL 1 _ rfl) kp0)
   refine stepM_of rfl ?_
   (revert S a; refine go 1 ?_; intro a S)
   exact wpList_nil ⟨_, _, fun _ _ h => h, S.keep ⟨rfl, trivial⟩, rfl⟩
  refine ⟨?_, ?_⟩
  ·rintro L F a w hF hL S ⟨h0, -, -⟩
   obtain ⟨v126, e126, rfl⟩ := h0 rfl
   replace S := S.keep (kp e126 kp0)
   refine stepM_of rfl ?_
   (refine wcF S (numFt F 1) ?_; clear S a; intro u F' a w hu hle S)
   exact wpList_nil ⟨_, _, hle, S.keep ⟨rfl, trivial⟩, hu⟩
  refine ⟨dy_load c2 k2, ?_⟩
  refine ⟨dy_sl2 (e := 29) 7 8, ?_⟩
  refine ⟨?_, ?_⟩
  ·rintro L F a w hF hL S ⟨h0, h1, -, -⟩
   obtain ⟨v125, e125, rfl⟩ := h0 rfl
   obtain ⟨v129, e129, p129⟩ := h1 rfl
   replace S := S.keep (kp e125 (kp e129 kp0))
   refine stepM_of rfl ?_
   (refine wcF S (makeFt F [99, 111, 110, 115] _ (.cons (nP 1).1 (nP 1).2 (.cons anyP.1 anyP.2 .nil)) p129) ?_; clear S a; intro u F' a w hu hle S)
   exact wpList_nil ⟨_, _, hle, S.keep ⟨rfl, trivial⟩, hu⟩
  refine ⟨dy_sl1 (e := 29) 10, ?_⟩
  refine ⟨?_, ?_⟩
  ·rintro L F a w hF hL S ⟨h0, h1, -⟩
   obtain ⟨v124, e124, p124⟩ := h0 rfl
   obtain ⟨v131, e131, p131⟩ := h1 rfl
   have q124 := p124; obtain ⟨oa124, oc124, rfl, -⟩ := q124
   have q131 := p131; obtain ⟨oa131, oc131, rfl, -⟩ := q131
   replace S := S.keep (kp e124 (kp e131 kp0))
   refine stepM_of rfl ?_
   (refine wpl_buildSlice S rfl rfl rfl rfl rfl rfl (by rfl) (by first | (simp [Value.cells]; done) | (simp only [List.mem_cons, List.not_mem_nil, or_false, forall_eq_or_imp, forall_eq, Value.cells]; repeat' constructor) <;> assumption) rfl (by rfl) (by rfl) ?_; clear S a; intro b a w hown S; (simp only [Value.cells, List.flatMap_cons, List.flatMap_nil, List.append_nil] at S); have S' := frz1 S; clear S; obtain ⟨F', hle, hb, S⟩ := S')
   exact wpList_nil ⟨_, _, hle, S.keep ⟨rfl, trivial⟩, lim_of (l := ([((.cons (mP [110, 105, 108] .nil).1 (mP [110, 105, 108] .nil).2 .nil) : Ef), ((.cons (mP [99, 111, 110, 115] (.cons (nP 1).1 (nP 1).2 (.cons anyP.1 anyP.2 .nil))).1 (mP [99, 111, 110, 115] (.cons (nP 1).1 (nP 1).2 (.cons anyP.1 anyP.2 .nil))).2 .nil) : Ef)] : List Ef)) hb (LiC.app (l := [((.cons (mP [110, 105, 108] .nil).1 (mP [110, 105, 108] .nil).2 .nil) : Ef)]) (LiC.one rfl (⟨_, rfl, p124.mono hle⟩ : SxR _ _ [_])) (LiC.one rfl (⟨_, rfl, p131.mono hle⟩ : SxR _ _ [_]))) (show 2 ≤ _ by decide)⟩
  refine ⟨?_, ?_⟩
  ·rintro L F a w hF hL S ⟨h0, h1, h2, -, -⟩
   obtain ⟨v120, e120, rfl⟩ := h0 rfl
   obtain ⟨v121, e121, p121⟩ := h1 rfl
   obtain ⟨v132, e132, p132⟩ := h2 rfl
   replace S := S.keep (kp e120 (kp e121 (kp e132 kp0)))
   refine stepM_of rfl ?_
   (refine wc0 S (coL F ((hM.mono A.le).mono hF) ((hT.mono A.le).mono hF) tb (hC.mono hF) hTk tInts rows2 _ _ p121 p132 (by decide) (by decide) rfl co_2 (by rw [cv_2])) ?_; clear S a; intro v a w hv S; subst hv)
   exact wpList_nil ⟨_, _, fun _ _ h => h, S.keep ⟨rfl, trivial⟩, rfl⟩
  refine ⟨?_, ?_⟩
  ·rintro L F a w hF hL S ⟨h0, -⟩
   obtain ⟨v133, e133, p133⟩ := h0 rfl
   replace S := S.keep (kp e133 kp0)
   refine stepM_of rfl ?_
   (revert S a; refine go 1 ?_; intro a S)
   exact wpList_nil ⟨_, _, fun _ _ h => h, S.keep ⟨rfl, trivial⟩, p133⟩
  refine ⟨?_, ?_⟩
  ·rintro L F a w hF hL S ⟨h0, -⟩
   obtain ⟨v119, e119, rfl⟩ := h0 rfl
   replace S := S.keep (kp e119 kp0)
   refine stepM_of rfl ?_
   (revert S a; refine go 1 ?_; intro a S)
   exact wpList_nil ⟨_, _, fun _ _ h => h, S.keep ⟨rfl, trivial⟩, rfl⟩
  refine ⟨?_, ?_⟩
  ·rintro L F a w hF hL S ⟨h0, -, -⟩
   obtain ⟨v119, e119, rfl⟩ := h0 rfl
   replace S := S.keep (kp e119 kp0)
   refine stepM_of rfl ?_
   (revert S a; refine go 1 ?_; intro a S)
   exact wpList_nil ⟨_, _, fun _ _ h => h, S.keep ⟨rfl, trivial⟩, rfl⟩
  refine ⟨?_, ?_⟩
  ·rintro L F a w hF hL S ⟨h0, -, -, -, -, -, -, -, -, -, -, -, -, -, -, -, -, -, -, -⟩
   obtain ⟨v134, e134, p134⟩ := h0 rfl
   replace S := S.keep (kp e134 kp0)
   refine stepM_of rfl ?_
   (revert S a; refine go 1 ?_; intro a S)
   exact wpList_nil ⟨_, _, fun _ _ h => h, S.keep ⟨rfl, trivial⟩, p134⟩
  refine ⟨?_, ?_⟩
  ·rintro L F a w hF hL S ⟨h0, -, -, -, -, -, -, -, -, -, -, -, -, -, -, -, -, -, -, -, -⟩
   obtain ⟨v135, e135, p135⟩ := h0 rfl
   replace S := S.keep (kp e135 kp0)
   refine stepM_of rfl ?_
   (revert S a; refine go 1 ?_; intro a S)
   exact wpList_nil ⟨_, _, fun _ _ h => h, S.keep ⟨rfl, trivial⟩, p135⟩
  exact trivial
 (clear S; intro L D133 a w hF hL S hall)
 obtain ⟨v16, e16, rfl⟩ := hall 17 (by decide)
 obtain ⟨v17, e17, rfl⟩ := hall 18 (by decide)
 replace S := S.keep (kp e16 (kp e17 (kp (hL 0 _ rfl) (kp (hL 1 _ rfl) (kp (hL 2 _ rfl) (kp (hL 3 _ rfl) (kp (hL 4 _ rfl) (kp (hL 5 _ rfl) (kp (hL 13 _ rfl) (kp (hL 14 _ rfl) (kp (hL 15 _ rfl) kp0)))))))))))
 (replace A := A.mono hF; replace hC := hC.mono hF; replace hI := hI.mono hF)
 (refine hZ _ _ ?_; clear hZ Z)
 (refine wp_seq_k ?_; intro Z hZ)
 (have c2 := A.ca; have k2 : RoR 9 EhR D133 (anyE, Rose.nil) anyCs := li_px (px_one (h := anyE) rfl))
 refine wpc_facts (L0 := [(0, .bool false), (1, .func (.func 23) ⟨[]⟩ ⟨[]⟩), (2, ptr b2), (3, .func (.func 24) ⟨[]⟩ ⟨[]⟩), (4, .func (.func 25) ⟨[]⟩ ⟨[]⟩), (5, ptr tb), (13, .slice (some ⟨b102, 0, none⟩) 1 1), (14, .bool true), (15, .int .i64 0), (16, .bool false), (17, .int .i64 0)]) n19D (n19P b2 tb) (S.keep ⟨rfl, rfl, rfl, rfl, rfl, rfl, rfl, rfl, rfl, rfl, rfl, trivial⟩) mixed (by kernel_rfl) ?_ ?_
 ·(clear S)
  refine ⟨?_, ?_⟩
  ·rintro L F a w hF hL S -
   replace S := S.keep (kp (hL 5 _ rfl) kp0)
   refine stepM_of rfl ?_
   (revert S a; refine go 1 ?_; intro a S)
   exact wpList_nil ⟨_, _, fun _ _ h => h, S.keep ⟨rfl, trivial⟩, rfl⟩
  refine ⟨?_, ?_⟩
  ·rintro L F a w hF hL S -
   replace S := S.keep (kp (hL 13 _ rfl) kp0)
   refine stepM_of rfl ?_
   (revert S a; refine go 1 ?_; intro a S)
   exact wpList_nil ⟨_, _, fun _ _ h => h, S.keep ⟨rfl, trivial⟩, hI.mono hF⟩
  refine ⟨?_, ?_⟩
  ·rintro L F a w hF hL S -
   replace S := S.keep (kp (hL 4 _ rfl) kp0)
   refine stepM_of rfl ?_
   (revert S a; refine go 1 ?_; intro a S)
   exact wpList_nil ⟨_, _, fun _ _ h => h, S.keep ⟨rfl, trivial⟩, rfl⟩
  refine ⟨?_, ?_⟩
  ·rintro L F a w hF hL S ⟨h0, -⟩
   obtain ⟨v139, e139, rfl⟩ := h0 rfl
   replace S := S.keep (kp e139 kp0)
   refine stepM_of rfl ?_
   (refine wcF S (makeFt F [110, 105, 108] _ .nil (TrS.nil _ _ _)) ?_; clear S a; intro u F' a w hu hle S)
   exact wpList_nil ⟨_, _, hle, S.keep ⟨rfl, trivial⟩, hu⟩
  refine ⟨dy_sl1 (e := 29) 3, ?_⟩
  refine ⟨?_, ?_⟩
  ·rintro L F a w hF hL S -
   replace S := S.keep (kp (hL 4 _ rfl) kp0)
   refine stepM_of rfl ?_
   (revert S a; refine go 1 ?_; intro a S)
   exact wpList_nil ⟨_, _, fun _ _ h => h, S.keep ⟨rfl, trivial⟩, rfl⟩
  refine ⟨dy_load c2 k2, ?_⟩
  refine ⟨?_, ?_⟩
  ·rintro L F a w hF hL S -
   replace S := S.keep (kp (hL 4 _ rfl) kp0)
   refine stepM_of rfl ?_
   (revert S a; refine go 1 ?_; intro a S)
   exact wpList_nil ⟨_, _, fun _ _ h => h, S.keep ⟨rfl, trivial⟩, rfl⟩
  refine ⟨?_, ?_⟩
  ·rintro L F a w hF hL S ⟨h0, -, -⟩
   obtain ⟨v144, e144, rfl⟩ := h0 rfl
   replace S := S.keep (kp e144 kp0)
   refine stepM_of rfl ?_
   (refine wcF S (makeFt F [110, 105, 108] _ .nil (TrS.nil _ _ _)) ?_; clear S a; intro u F' a w hu hle S)
   exact wpList_nil ⟨_, _, hle, S.keep ⟨rfl, trivial⟩, hu⟩
  refine ⟨dy_sl2 (e := 29) 6 8, ?_⟩
  refine ⟨?_, ?_⟩
  ·rintro L F a w hF hL S ⟨h0, h1, -, -⟩
   obtain ⟨v142, e142, rfl⟩ := h0 rfl
   obtain ⟨v146, e146, p146⟩ := h1 rfl
   replace S := S.keep (kp e142 (kp e146 kp0))
   refine stepM_of rfl ?_
   (refine wcF S (makeFt F [99, 111, 110, 115] _ (.cons anyP.1 anyP.2 (.cons (mP [110, 105, 108] .nil).1 (mP [110, 105, 108] .nil).2 .nil)) p146) ?_; clear S a; intro u F' a w hu hle S)
   exact wpList_nil ⟨_, _, hle, S.keep ⟨rfl, trivial⟩, hu⟩
  refine ⟨dy_sl1 (e := 29) 10, ?_⟩
  refine ⟨?_, ?_⟩
  ·rintro L F a w hF hL S -
   replace S := S.keep (kp (hL 4 _ rfl) kp0)
   refine stepM_of rfl ?_
   (revert S a; refine go 1 ?_; intro a S)
   exact wpList_nil ⟨_, _, fun _ _ h => h, S.keep ⟨rfl, trivial⟩, rfl⟩
  refine ⟨?_, ?_⟩
  ·rintro L F a w hF hL S -
   replace S := S.keep (kp (hL 1 _ rfl) kp0)
   refine stepM_of rfl ?_
   (revert S a; refine go 1 ?_; intro a S)
   exact wpList_nil ⟨_, _, fun _ _ h => h, S.keep ⟨rfl, trivial⟩, rfl⟩
  refine ⟨?_, ?_⟩
  ·rintro L F a w hF hL S ⟨h0, -, -⟩
   obtain ⟨v150, e150, rfl⟩ := h0 rfl
   replace S := S.keep (kp e150 kp0)
   refine stepM_of rfl ?_
   (refine wcF S (numFt F 1) ?_; clear S a; intro u F' a w hu hle S)
   exact wpList_nil ⟨_, _, hle, S.keep ⟨rfl, trivial⟩, hu⟩
  refine ⟨?_, ?_⟩
  ·rintro L F a w hF hL S -
   replace S := S.keep (kp (hL 4 _ rfl) kp0)
   refine stepM_of rfl ?_
   (revert S a; refine go 1 ?_; intro a S)
   exact wpList_nil ⟨_, _, fun _ _ h => h, S.keep ⟨rfl, trivial⟩, rfl⟩
  refine ⟨?_, ?_⟩
  ·rintro L F a w hF hL S ⟨h0, -, -⟩
   obtain ⟨v152, e152, rfl⟩ := h0 rfl
   replace S := S.keep (kp e152 kp0)
   refine stepM_of rfl ?_
   (refine wcF S (makeFt F [110, 105, 108] _ .nil (TrS.nil _ _ _)) ?_; clear S a; intro u F' a w hu hle S)
   exact wpList_nil ⟨_, _, hle, S.keep ⟨rfl, trivial⟩, hu⟩
  refine ⟨dy_sl2 (e := 29) 14 16, ?_⟩
  refine ⟨?_, ?_⟩
  ·rintro L F a w hF hL S ⟨h0, h1, -, -⟩
   obtain ⟨v149, e149, rfl⟩ := h0 rfl
   obtain ⟨v154, e154, p154⟩ := h1 rfl
   replace S := S.keep (kp e149 (kp e154 kp0))
   refine stepM_of rfl ?_
   (refine wcF S (makeFt F [99, 111, 110, 115] _ (.cons (nP 1).1 (nP 1).2 (.cons (mP [110, 105, 108] .nil).1 (mP [110, 105, 108] .nil).2 .nil)) p154) ?_; clear S a; intro u F' a w hu hle S)
   exact wpList_nil ⟨_, _, hle, S.keep ⟨rfl, trivial⟩, hu⟩
  refine ⟨dy_sl1 (e := 29) 18, ?_⟩
  refine ⟨?_, ?_⟩
  ·rintro L F a w hF hL S ⟨h0, h1, h2, -⟩
   obtain ⟨v141, e141, p141⟩ := h0 rfl
   obtain ⟨v148, e148, p148⟩ := h1 rfl
   obtain ⟨v156, e156, p156⟩ := h2 rfl
   have q141 := p141; obtain ⟨oa141, oc141, rfl, -⟩ := q141
   have q148 := p148; obtain ⟨oa148, oc148, rfl, -⟩ := q148
   have q156 := p156; obtain ⟨oa156, oc156, rfl, -⟩ := q156
   replace S := S.keep (kp e141 (kp e148 (kp e156 kp0)))
   refine stepM_of rfl ?_
   (refine wpl_buildSlice S rfl rfl rfl rfl rfl rfl (by rfl) (by first | (simp [Value.cells]; done) | (simp only [List.mem_cons, List.not_mem_nil, or_false, forall_eq_or_imp, forall_eq, Value.cells]; repeat' constructor) <;> assumption) rfl (by rfl) (by rfl) ?_; clear S a; intro b a w hown S; (simp only [Value.cells, List.flatMap_cons, List.flatMap_nil, List.append_nil] at S); have S' := frz1 S; clear S; obtain ⟨F', hle, hb, S⟩ := S')
   exact wpList_nil ⟨_, _, hle, S.keep ⟨rfl, trivial⟩, lim_of (l := ([((.cons (mP [110, 105, 108] .nil).1 (mP [110, 105, 108] .nil).2 .nil) : Ef), ((.cons (mP [99, 111, 110, 115] (.cons anyP.1 anyP.2 (.cons (mP [110, 105, 108] .nil).1 (mP [110, 105, 108] .nil).2 .nil))).1 (mP [99, 111, 110, 115] (.cons anyP.1 anyP.2 (.cons (mP [110, 105, 108] .nil).1 (mP [110, 105, 108] .nil).2 .nil))).2 .nil) : Ef), ((.cons (mP [99, 111, 110, 115] (.cons (nP 1).1 (nP 1).2 (.cons (mP [110, 105, 108] .nil).1 (mP [110, 105, 108] .nil).2 .nil))).1 (mP [99, 111, 110, 115] (.cons (nP 1).1 (nP 1).2 (.cons (mP [110, 105, 108] .nil).1 (mP [110, 105, 108] .nil).2 .nil))).2 .nil) : Ef)] : List Ef)) hb (LiC.app (l := [((.cons (mP [110, 105, 108] .nil).1 (mP [110, 105, 108] .nil).2 .nil) : Ef)]) (LiC.one rfl (⟨_, rfl, p141.mono hle⟩ : SxR _ _ [_])) (LiC.app (l := [((.cons (mP [99, 111, 110, 115] (.cons anyP.1 anyP.2 (.cons (mP [110, 105, 108] .nil).1 (mP [110, 105, 108] .nil).2 .nil))).1 (mP [99, 111, 110, 115] (.cons anyP.1 anyP.2 (.cons (mP [110, 105, 108] .nil).1 (mP [110, 105, 108] .nil).2 .nil))).2 .nil) : Ef)]) (LiC.one rfl (⟨_, rfl, p148.mono hle⟩ : SxR _ _ [_])) (LiC.one rfl (⟨_, rfl, p156.mono hle⟩ : SxR _ _ [_])))) (show 3 ≤ _ by decide)⟩
  refine ⟨?_, ?_⟩
  ·rintro L F a w hF hL S ⟨h0, h1, h2, -, -⟩
   obtain ⟨v137, e137, rfl⟩ := h0 rfl
   obtain ⟨v138, e138, p138⟩ := h1 rfl
   obtain ⟨v157, e157, p157⟩ := h2 rfl
   replace S := S.keep (kp e137 (kp e138 (kp e157 kp0)))
   refine stepM_of rfl ?_
   (refine wpl_callNew S rfl rfl rfl rfl rfl rfl (usL F ((hM.mono A.le).mono hF) ((hT.mono A.le).mono hF) tb (hC.mono hF) hTk tInts rows3 _ _ p138 p157 (by decide) (by decide) rfl co_3 us_3) rfl ?_; clear S a; intro v G9 a w hv S; obtain ⟨vU, gU, rfl, rfl, hoU⟩ := hv; (simp only [List.singleton_append] at S); have hle := add_le (G1 := []) S; replace S := St.freeze (G1 := []) S; (simp only [List.nil_append] at S hle); have hU := LiC.lim (F := F) hoU (lic_ints _) rfl hle (by decide))
   exact wpList_nil ⟨_, _, hle, S.keep ⟨rfl, trivial⟩, ⟨_, rfl, hU⟩⟩
  refine ⟨?_, ?_⟩
  ·rintro L F a w hF hL S ⟨h0, -⟩
   obtain ⟨v158, e158, p158⟩ := h0 rfl
   replace S := S.keep (kp e158 kp0)
   refine stepM_of rfl ?_
   (revert S a; refine go 1 ?_; intro a S)
   exact wpList_nil ⟨_, _, fun _ _ h => h, S.keep ⟨rfl, trivial⟩, p158⟩
  refine ⟨?_, ?_⟩
  ·rintro L F a w hF hL S ⟨h0, -⟩
   obtain ⟨v136, e136, vU136, rfl, p136⟩ := h0 rfl
   replace S := S.keep (kp e136 kp0)
   refine stepM_of rfl ?_
   (revert S a; refine go 1 ?_; intro a S)
   exact wpList_nil ⟨_, _, fun _ _ h => h, S.keep ⟨rfl, trivial⟩, p136⟩
  refine ⟨?_, ?_⟩
  ·rintro L F a w hF hL S ⟨h0, -, -⟩
   obtain ⟨v136, e136, vU136, rfl, -⟩ := h0 rfl
   replace S := S.keep (kp e136 kp0)
   refine stepM_of rfl ?_
   (revert S a; refine go 1 ?_; intro a S)
   exact wpList_nil ⟨_, _, fun _ _ h => h, S.keep ⟨rfl, trivial⟩, rfl⟩
  refine ⟨?_, ?_⟩
  ·rintro L F a w hF hL S ⟨h0, -, -, -, -, -, -, -, -, -, -, -, -, -, -, -, -, -, -, -, -, -, -, -, -, -, -, -⟩
   obtain ⟨v159, e159, p159⟩ := h0 rfl
   replace S := S.keep (kp e159 kp0)
   refine stepM_of rfl ?_
   (revert S a; refine go 1 ?_; intro a S)
   exact wpList_nil ⟨_, _, fun _ _ h => h, S.keep ⟨rfl, trivial⟩, p159⟩
  refine ⟨?_, ?_⟩
  ·rintro L F a w hF hL S ⟨h0, -, -, -, -, -, -, -, -, -, -, -, -, -, -, -, -, -, -, -, -, -, -, -, -, -, -, -, -⟩
   obtain ⟨v160, e160, p160⟩ := h0 rfl
   replace S := S.keep (kp e160 kp0)
   refine stepM_of rfl ?_
   (revert S a; refine go 1 ?_; intro a S)
   exact wpList_nil ⟨_, _, fun _ _ h => h, S.keep ⟨rfl, trivial⟩, p160⟩
  exact trivial
 (clear S; intro L D158 a w hF hL S hall)
 obtain ⟨v18, e18, p18⟩ := hall 25 (by decide)
 obtain ⟨v19, e19, rfl⟩ := hall 26 (by decide)
 replace S := S.keep (kp e18 (kp e19 (kp (hL 0 _ rfl) (kp (hL 1 _ rfl) (kp (hL 2 _ rfl) (kp (hL 3 _ rfl) (kp (hL 4 _ rfl) (kp (hL 5 _ rfl) (kp (hL 13 _ rfl) (kp (hL 14 _ rfl) (kp (hL 15 _ rfl) (kp (hL 16 _ rfl) (kp (hL 17 _ rfl) kp0)))))))))))))
 (replace A := A.mono hF; replace hC := hC.mono hF; replace hI := hI.mono hF; have hU3 := p18; obtain ⟨a18, c18, rfl, -, -⟩ := id p18)
 (refine hZ _ _ ?_; clear hZ Z)
 (refine wp_seq_k ?_; intro Z hZ)
 (have c2 := A.ca; have k2 : RoR 9 EhR D158 (anyE, Rose.nil) anyCs := li_px (px_one (h := anyE) rfl))
 refine wpc_facts (L0 := [(0, .bool false), (1, .func (.func 23) ⟨[]⟩ ⟨[]⟩), (2, ptr b2), (3, .func (.func 24) ⟨[]⟩ ⟨[]⟩), (4, .func (.func 25) ⟨[]⟩ ⟨[]⟩), (5, ptr tb), (13, .slice (some ⟨b102, 0, none⟩) 1 1), (14, .bool true), (15, .int .i64 0), (16, .bool false), (17, .int .i64 0), (18, .slice a18 1 c18), (19, .int .i64 0)]) n20D (n20P b2 tb) (S.keep ⟨rfl, rfl, rfl, rfl, rfl, rfl, rfl, rfl, rfl, rfl, rfl, rfl, rfl, trivial⟩) mixed (by kernel_rfl) ?_ ?_
 ·(clear S)
  refine ⟨?_, ?_⟩
  ·rintro L F a w hF hL S -
   replace S := S.keep (kp (hL 5 _ rfl) kp0)
   refine stepM_of rfl ?_
   (revert S a; refine go 1 ?_; intro a S)
   exact wpList_nil ⟨_, _, fun _ _ h => h, S.keep ⟨rfl, trivial⟩, rfl⟩
  refine ⟨?_, ?_⟩
  ·rintro L F a w hF hL S -
   replace S := S.keep (kp0)
   refine stepM_of rfl ?_
   (revert S a; refine go 1 ?_; intro a S)
   exact wpList_nil ⟨_, _, fun _ _ h => h, S.keep ⟨rfl, trivial⟩, ⟨_, rfl, rfl, ⟨_, rfl, (slf_nil _)⟩⟩⟩
  refine ⟨?_, ?_⟩
  ·rintro L F a w hF hL S -
   replace S := S.keep (kp0)
   refine stepM_of rfl ?_
   (revert S a; refine go 1 ?_; intro a S)
   exact wpList_nil ⟨_, _, fun _ _ h => h, S.keep ⟨rfl, trivial⟩, ⟨_, rfl, rfl, ⟨_, rfl, (slf_nil _)⟩⟩⟩
  refine ⟨?_, ?_⟩
  ·rintro L F a w hF hL S ⟨h0, h1, -⟩
   obtain ⟨v163, e163, cs163, rfl, -, va163, rfl, hs163⟩ := h0 rfl
   obtain ⟨v164, e164, cs164, rfl, -, va164, rfl, hs164⟩ := h1 rfl
   replace S := S.keep (kp e163 (kp e164 kp0))
   refine stepM_of rfl ?_
   (refine wpl_buildSlice S rfl rfl rfl rfl rfl rfl (by rfl) (by simp [Value.cells]) rfl (by rfl) (by rfl) ?_; clear S a; intro b a w hown S; (simp only [Value.cells, List.flatMap_cons, List.flatMap_nil, List.append_nil] at S); have S' := frz1 S; clear S; obtain ⟨F', hle, hb, S⟩ := S')
   exact wpList_nil ⟨_, _, hle, S.keep ⟨rfl, trivial⟩, slf_two hb (hs163.mono hle) (hs164.mono hle)⟩
  refine ⟨?_, ?_⟩
  ·rintro L F a w hF hL S -
   replace S := S.keep (kp (hL 1 _ rfl) kp0)
   refine stepM_of rfl ?_
   (revert S a; refine go 1 ?_; intro a S)
   exact wpList_nil ⟨_, _, fun _ _ h => h, S.keep ⟨rfl, trivial⟩, rfl⟩
  refine ⟨?_, ?_⟩
  ·rintro L F a w hF hL S ⟨h0, -⟩
   obtain ⟨v166, e166, rfl⟩ := h0 rfl
   replace S := S.keep (kp e166 kp0)
   refine stepM_of rfl ?_
   (refine wcF S (numFt F 1) ?_; clear S a; intro u F' a w hu hle S)
   exact wpList_nil ⟨_, _, hle, S.keep ⟨rfl, trivial⟩, hu⟩
  refine ⟨dy_load c2 k2, ?_⟩
  refine ⟨dy_sl2 (e := 29) 5 6, ?_⟩
  refine ⟨dy_load c2 k2, ?_⟩
  refine ⟨?_, ?_⟩
  ·rintro L F a w hF hL S -
   replace S := S.keep (kp (hL 1 _ rfl) kp0)
   refine stepM_of rfl ?_
   (revert S a; refine go 1 ?_; intro a S)
   exact wpList_nil ⟨_, _, fun _ _ h => h, S.keep ⟨rfl, trivial⟩, rfl⟩
  refine ⟨?_, ?_⟩
  ·rintro L F a w hF hL S ⟨h0, -, -⟩
   obtain ⟨v171, e171, rfl⟩ := h0 rfl
   replace S := S.keep (kp e171 kp0)
   refine stepM_of rfl ?_
   (refine wcF S (numFt F 1) ?_; clear S a; intro u F' a w hu hle S)
   exact wpList_nil ⟨_, _, hle, S.keep ⟨rfl, trivial⟩, hu⟩
  refine ⟨dy_sl2 (e := 29) 8 10, ?_⟩
  refine ⟨?_, ?_⟩
  ·rintro L F a w hF hL S ⟨h0, h1, -⟩
   obtain ⟨v169, e169, p169⟩ := h0 rfl
   obtain ⟨v173, e173, p173⟩ := h1 rfl
   have q169 := p169; obtain ⟨oa169, oc169, rfl, -⟩ := q169
   have q173 := p173; obtain ⟨oa173, oc173, rfl, -⟩ := q173
   replace S := S.keep (kp e169 (kp e173 kp0))
   refine stepM_of rfl ?_
   (refine wpl_buildSlice S rfl rfl rfl rfl rfl rfl (by rfl) (by first | (simp [Value.cells]; done) | (simp only [List.mem_cons, List.not_mem_nil, or_false, forall_eq_or_imp, forall_eq, Value.cells]; repeat' constructor) <;> assumption) rfl (by rfl) (by rfl) ?_; clear S a; intro b a w hown S; (simp only [Value.cells, List.flatMap_cons, List.flatMap_nil, List.append_nil] at S); have S' := frz1 S; clear S; obtain ⟨F', hle, hb, S⟩ := S')
   exact wpList_nil ⟨_, _, hle, S.keep ⟨rfl, trivial⟩, lim_of (l := ([((.cons (nP 1).1 (nP 1).2 (.cons anyP.1 anyP.2 .nil)) : Ef), ((.cons anyP.1 anyP.2 (.cons (nP 1).1 (nP 1).2 .nil)) : Ef)] : List Ef)) hb (LiC.app (l := [((.cons (nP 1).1 (nP 1).2 (.cons anyP.1 anyP.2 .nil)) : Ef)]) (LiC.one rfl (⟨_, rfl, p169.mono hle⟩ : SxR _ _ [_])) (LiC.one rfl (⟨_, rfl, p173.mono hle⟩ : SxR _ _ [_]))) (show 2 ≤ _ by decide)⟩
  refine ⟨?_, ?_⟩
  ·rintro L F a w hF hL S ⟨h0, h1, h2, -, -⟩
   obtain ⟨v162, e162, rfl⟩ := h0 rfl
   obtain ⟨v165, e165, p165⟩ := h1 rfl
   obtain ⟨v174, e174, p174⟩ := h2 rfl
   replace S := S.keep (kp e162 (kp e165 (kp e174 kp0)))
   refine stepM_of rfl ?_
   (refine wc0 S (coL F ((hM.mono A.le).mono hF) ((hT.mono A.le).mono hF) tb (hC.mono hF) hTk tInt2 rows4 _ _ p165 p174 (by decide) (by decide) rfl co_4 (by rw [cv_4])) ?_; clear S a; intro v a w hv S; subst hv)
   exact wpList_nil ⟨_, _, fun _ _ h => h, S.keep ⟨rfl, trivial⟩, rfl⟩
  refine ⟨?_, ?_⟩
  ·rintro L F a w hF hL S ⟨h0, -⟩
   obtain ⟨v175, e175, p175⟩ := h0 rfl
   replace S := S.keep (kp e175 kp0)
   refine stepM_of rfl ?_
   (revert S a; refine go 1 ?_; intro a S)
   exact wpList_nil ⟨_, _, fun _ _ h => h, S.keep ⟨rfl, trivial⟩, p175⟩
  refine ⟨?_, ?_⟩
  ·rintro L F a w hF hL S ⟨h0, -⟩
   obtain ⟨v161, e161, rfl⟩ := h0 rfl
   replace S := S.keep (kp e161 kp0)
   refine stepM_of rfl ?_
   (revert S a; refine go 1 ?_; intro a S)
   exact wpList_nil ⟨_, _, fun _ _ h => h, S.keep ⟨rfl, trivial⟩, rfl⟩
  refine ⟨?_, ?_⟩
  ·rintro L F a w hF hL S ⟨h0, -, -⟩
   obtain ⟨v161, e161, rfl⟩ := h0 rfl
   replace S := S.keep (kp e161 kp0)
   refine stepM_of rfl ?_
   (revert S a; refine go 1 ?_; intro a S)
   exact wpList_nil ⟨_, _, fun _ _ h => h, S.keep ⟨rfl, trivial⟩, rfl⟩
  refine ⟨?_, ?_⟩
  ·rintro L F a w hF hL S ⟨h0, -, -, -, -, -, -, -, -, -, -, -, -, -, -, -, -, -, -, -⟩
   obtain ⟨v176, e176, p176⟩ := h0 rfl
   replace S := S.keep (kp e176 kp0)
   refine stepM_of rfl ?_
   (revert S a; refine go 1 ?_; intro a S)
   exact wpList_nil ⟨_, _, fun _ _ h => h, S.keep ⟨rfl, trivial⟩, p176⟩
  refine ⟨?_, ?_⟩
  ·rintro L F a w hF hL S ⟨h0, -, -, -, -, -, -, -, -, -, -, -, -, -, -, -, -, -, -, -, -⟩
   obtain ⟨v177, e177, p177⟩ := h0 rfl
   replace S := S.keep (kp e177 kp0)
   refine stepM_of rfl ?_
   (revert S a; refine go 1 ?_; intro a S)
   exact wpList_nil ⟨_, _, fun _ _ h => h, S.keep ⟨rfl, trivial⟩, p177⟩
  exact trivial
 (clear S; intro L D175 a w hF hL S hall)
 obtain ⟨v20, e20, rfl⟩ := hall 17 (by decide)
 obtain ⟨v21, e21, rfl⟩ := hall 18 (by decide)
 replace S := S.keep (kp e20 (kp e21 (kp (hL 0 _ rfl) (kp (hL 1 _ rfl) (kp (hL 2 _ rfl) (kp (hL 3 _ rfl) (kp (hL 4 _ rfl) (kp (hL 5 _ rfl) (kp (hL 13 _ rfl) (kp (hL 14 _ rfl) (kp (hL 15 _ rfl) (kp (hL 16 _ rfl) (kp (hL 17 _ rfl) (kp (hL 18 _ rfl) (kp (hL 19 _ rfl) kp0)))))))))))))))
 (replace A := A.mono hF; replace hC := hC.mono hF; replace hI := hI.mono hF; replace hU3 := hU3.mono hF)
 (revert S a; revert hZ Z; refine go 3 ?_; intro Z hZ a S)
 (refine wpl_buildSlice S rfl rfl rfl rfl rfl rfl (by rfl) (by simp [Value.cells, splice, splice]) rfl (by rfl) (by rfl) ?_; clear S a; intro b180 a w hown S; clear hown; have S' := frz1 S; clear S; obtain ⟨D180, he, hb180, S⟩ := S'; replace A := A.mono he; replace hC := hC.mono he; replace hI := hI.mono he; replace hU3 := hU3.mono he; have hr : LiM D180 1 RwR (.slice (some ⟨b180, 0, none⟩) 1 1) [.nil] := li_row1 hb180 (TrS.nil _ _ _); clear he hb180)
 (refine wc0 S (coL _ (hM.mono A.le) (hT.mono A.le) tb hC hTk .nil [.nil] _ _ (SlF.nil _) hr (by decide) (by decide) rfl co_5 (by rw [cv_5])) ?_; clear S a; intro v181 a w hv S; subst hv; clear hr)
 (revert S a; revert hZ Z; refine go 9 ?_; intro Z hZ a S)
 (refine wc0 S (coL _ (hM.mono A.le) (hT.mono A.le) tb hC hTk .nil [] _ _ (SlF.nil _) (LiM.nil _ _ _) (by decide) (by decide) rfl co_6 (by rw [cv_6])) ?_; clear S a; intro v186 a w hv S; subst hv)
 (revert S a; revert hZ Z; refine go 9 ?_; intro Z hZ a S)
 (refine wpl_buildSlice S rfl rfl rfl rfl rfl rfl (by rfl) (by simp [Value.cells, splice, splice]) rfl (by rfl) (by rfl) ?_; clear S a; intro b191 a w hown S; clear hown; have S' := frz1 S; clear S; obtain ⟨D191, he, hb191, S⟩ := S'; replace A := A.mono he; replace hC := hC.mono he; replace hI := hI.mono he; replace hU3 := hU3.mono he; have hr : LiM D191 1 RwR (.slice (some ⟨b191, 0, none⟩) 2 2) [.nil, .nil] := li_row2 hb191 (TrS.nil _ _ _) (TrS.nil _ _ _); clear he hb191)
 (refine wpl_callNew S rfl rfl rfl rfl rfl rfl (usL _ (hM.mono A.le) (hT.mono A.le) tb hC hTk .nil [.nil, .nil] _ _ (SlF.nil _) hr (by decide) (by decide) rfl co_7 us_7) rfl ?_; clear S a; intro v192 G9 a w hv S; clear hr; obtain ⟨vU, gU, rfl, rfl, hoU⟩ := hv; (simp only [List.singleton_append] at S); have he := add_le (G1 := []) S; replace S := St.freeze (G1 := []) S; (simp only [List.nil_append] at S he); have hU7 := LiC.lim (F := D191) hoU (lic_ints _) rfl he (by decide); clear hoU; obtain ⟨a192, c192, rfl, -, -⟩ := id hU7; generalize Heap.add _ gU = D192 at S he hU7; replace A := A.mono he; replace hC := hC.mono he; replace hI := hI.mono he; replace hU3 := hU3.mono he; clear he)
 (revert S a; revert hZ Z; refine go 8 ?_; intro Z hZ a S)
 (refine wc0 S (coversNilCt _) ?_; clear S a; intro v196 a w hv S; subst hv)
 (revert S a; revert hZ Z; refine go 11 ?_; intro Z hZ a S)
 (refine wc0 S (numCt _ 1) ?_; clear S a; intro v203 a w hv S; subst hv)
 (refine wpl_buildSlice S rfl rfl rfl rfl rfl rfl (by rfl) (by simp [Value.cells, splice, splice]) rfl (by rfl) (by rfl) ?_; clear S a; intro b204 a w hown S; clear hown; have S' := frz1 S; clear S; obtain ⟨D204, he, hb204, S⟩ := S'; replace A := A.mono he; replace hC := hC.mono he; replace hI := hI.mono he; replace hU3 := hU3.mono he; replace hU7 := hU7.mono he; have h204 : TrS D204 9 EhR (.slice (some ⟨b204, 0, none⟩) 1 1) (E1 (nE 1) .nil) := tr_px1 (cs := (cLn 1)) hb204 (px_one (h := nE 1) rfl) rfl; clear he hb204)
 (refine wpl_buildSlice S rfl rfl rfl rfl rfl rfl (by rfl) (by simp [Value.cells, splice, splice]) rfl (by rfl) (by rfl) ?_; clear S a; intro b205 a w hown S; clear hown; have S' := frz1 S; clear S; obtain ⟨D205, he, hb205, S⟩ := S'; replace A := A.mono he; replace hC := hC.mono he; replace hI := hI.mono he; replace hU3 := hU3.mono he; replace hU7 := hU7.mono he; replace h204 := h204.mono he; have hr : LiM D205 1 RwR (.slice (some ⟨b205, 0, none⟩) 1 1) rows9 := li_row1 hb205 h204; clear he hb205; clear h204)
 (refine wc0 S (coL _ (hM.mono A.le) (hT.mono A.le) tb hC hTk tInts rows9 _ _ hI hr (by decide) (by decide) rfl co_9 cv_9) ?_; clear S a; intro v206 a w hv S; subst hv; clear hr)
 (revert S a; revert hZ Z; refine go 10 ?_; intro Z hZ a S)
 (refine wpl_buildSlice S rfl rfl rfl rfl rfl rfl (by rfl) (by simp [Value.cells, splice, splice]) rfl (by rfl) (by rfl) ?_; clear S a; intro b212 a w hown S; clear hown; have S' := frz1 S; clear S; obtain ⟨D212, he, hb212, S⟩ := S'; replace A := A.mono he; replace hC := hC.mono he; replace hI := hI.mono he; replace hU3 := hU3.mono he; replace hU7 := hU7.mono he; have hx : SlF D212 (.slice (some ⟨b212, 0, none⟩) 1 1) tVar := slf_one1 (nm := [39, 97]) hb212 (SlF.nil _); clear he hb212)
 (refine wc0 S (coL _ (hM.mono A.le) (hT.mono A.le) tb hC hTk tVar [] _ _ hx (LiM.nil _ _ _) (by decide) (by decide) rfl co_10 cv_10) ?_; clear S a; intro v213 a w hv S; subst hv; clear hx)
 (revert S a; revert hZ Z; refine go 12 ?_; intro Z hZ a S)
 (refine wc0 S (varCt _ [88]) ?_; clear S a; intro v221 a w hv S; subst hv)
 (revert S a; refine go 1 ?_; intro a S)
 (refine wc0 S (varCt _ [88]) ?_; clear S a; intro v223 a w hv S; subst hv)
 (refine wpl_buildSlice S rfl rfl rfl rfl rfl rfl (by rfl) (by simp [Value.cells, splice, splice]) rfl (by rfl) (by rfl) ?_; clear S a; intro b224 a w hown S; clear hown; have S' := frz1 S; clear S; obtain ⟨D224, he, hb224, S⟩ := S'; replace A := A.mono he; replace hC := hC.mono he; replace hI := hI.mono he; replace hU3 := hU3.mono he; replace hU7 := hU7.mono he; have h224 : TrS D224 9 EhR (.slice (some ⟨b224, 0, none⟩) 2 2) L2 := tr_px2 (cs := (cVn [88])) (ds := (cVn [88])) hb224 (px_one (h := xE) rfl) rfl (px_one (h := xE) rfl) rfl; clear he hb224)
 (refine wc0 S (makeCt _ sCons (some ⟨b224, 0, none⟩) 2 2) ?_; clear S a; intro v225 a w hv S; subst hv)
 (refine wpl_buildSlice S rfl rfl rfl rfl rfl rfl (by rfl) (by simp [Value.cells, splice, splice]) rfl (by rfl) (by rfl) ?_; clear S a; intro b226 a w hown S; clear hown; have S' := frz1 S; clear S; obtain ⟨D226, he, hb226, S⟩ := S'; replace A := A.mono he; replace hC := hC.mono he; replace hI := hI.mono he; replace hU3 := hU3.mono he; replace hU7 := hU7.mono he; replace h224 := h224.mono he; have h226 : TrS D226 9 EhR (.slice (some ⟨b226, 0, none⟩) 1 1) (gC L2) := tr_px1 (cs := (cMn sCons (.slice (some ⟨b224, 0, none⟩) 2 2))) hb226 (px_mk sCons h224) rfl; clear he hb226; clear h224)
 (refine wpl_buildSlice S rfl rfl rfl rfl rfl rfl (by rfl) (by simp [Value.cells, splice, splice]) rfl (by rfl) (by rfl) ?_; clear S a; intro b227 a w hown S; clear hown; have S' := frz1 S; clear S; obtain ⟨D227, he, hb227, S⟩ := S'; replace A := A.mono he; replace hC := hC.mono he; replace hI := hI.mono he; replace hU3 := hU3.mono he; replace hU7 := hU7.mono he; replace h226 := h226.mono he; have hr : LiM D227 1 RwR (.slice (some ⟨b227, 0, none⟩) 1 1) rows11 := li_row1 hb227 h226; clear he hb227; clear h226)
 (refine wc0 S (coL _ (hM.mono A.le) (hT.mono A.le) tb hC hTk tInts rows11 _ _ hI hr (by decide) (by decide) rfl co_11 cv_11) ?_; clear S a; intro v228 a w hv S; subst hv; clear hr)
 (revert S a; revert hZ Z; refine go 7 ?_; intro a S)
 (refine wp_seq_k ?_; intro Z hZ)
 (have hcA := A.ca)
 (revert S a; refine go 5 ?_; intro a S)
 (refine wpl_buildSlice S rfl rfl rfl rfl rfl rfl (by rfl) (by simp [Value.cells, anyCs]) rfl (by rfl) (by rfl) ?_; clear S a; intro b236 a w hown S; clear hown; have S' := frz1 S; clear S; obtain ⟨D236, he, hb236, S⟩ := S'; replace A := A.mono he; replace hC := hC.mono he; replace hI := hI.mono he; replace hU3 := hU3.mono he; replace hU7 := hU7.mono he; have h236 : TrS D236 9 EhR (.slice (some ⟨b236, 0, none⟩) 2 2) (E2 anyE .nil anyE .nil) := tr_px2 (cs := anyCs) (ds := anyCs) hb236 (px_one (h := anyE) rfl) rfl (px_one (h := anyE) rfl) rfl; clear he hb236)
 (refine wpl_buildSlice S rfl rfl rfl rfl rfl rfl (by rfl) (by simp [Value.cells, splice, splice]) rfl (by rfl) (by rfl) ?_; clear S a; intro b237 a w hown S; clear hown; have S' := frz1 S; clear S; obtain ⟨D237, he, hb237, S⟩ := S'; replace A := A.mono he; replace hC := hC.mono he; replace hI := hI.mono he; replace hU3 := hU3.mono he; replace hU7 := hU7.mono he; replace h236 := h236.mono he; have hr : LiM D237 1 RwR (.slice (some ⟨b237, 0, none⟩) 1 1) rows12 := li_row1 hb237 h236; clear he hb237; clear h236)
 (refine wpl_call (Gs := []) (Gr := []) S rfl rfl rfl rfl rfl rfl (usE _ (hM.mono A.le) (hT.mono A.le) tb hC hTk tInts rows12 _ _ hI hr (by decide) (by decide) rfl co_12) rfl (by exact List.Perm.refl _) ?_; clear S a; intro v238 D238 G9 a w hv he S; subst hv; replace A := A.mono he; replace hC := hC.mono he; replace hI := hI.mono he; replace hU3 := hU3.mono he; replace hU7 := hU7.mono he; replace S := dropA S; clear hr he)
 (revert S a; revert hZ Z; refine go 9 ?_; intro Z hZ a S)
 (refine wv S (sv_lit (c := true) (sv_pure S rfl) (by rfl)) ?_; clear S a; intro a S)
 (revert S a; refine go 3 ?_; intro a S)
 iterate 3 (refine wv S (sv_lit (c := true) (sv_pure S rfl) (by rfl)) ?_; clear S a; intro a S)
 (revert S a; refine go 3 ?_; intro a S)
 iterate 3 (refine wv S (sv_lit (c := true) (sv_pure S rfl) (by rfl)) ?_; clear S a; intro a S)
 (revert S a; refine go 3 ?_; intro a S)
 iterate 3 (refine wv S (sv_lit (c := true) (sv_pure S rfl) (by rfl)) ?_; clear S a; intro a S)
 (revert S a; refine go 3 ?_; intro a S)
 (refine wpl_buildSlice S rfl rfl rfl rfl rfl rfl (by rfl) (by simp [Value.cells, splice, splice]) rfl (by rfl) (by rfl) ?_; clear S a; intro b256 a w hown S; clear hown; have S' := frz1 S; clear S; obtain ⟨D256, he, hb256, S⟩ := S'; replace A := A.mono he; replace hC := hC.mono he; replace hI := hI.mono he; replace hU3 := hU3.mono he; replace hU7 := hU7.mono he; have hs : LiM D256 1 InR (.slice (some ⟨b256, 0, none⟩) 1 1) [2] := lim_of (l := [2]) (cs := ints [2]) hb256 (lic_ints _) (by decide); clear he hb256)
 refine wpl_take S rfl rfl rfl ?_
 (refine wc0 S (sameICt _ [2] _ _ hU3 hs) ?_; clear S a; intro v257 a w hv S; subst hv; clear hs)
 iterate 2 (refine wv S (sv_lit (c := true) (sv_pure S rfl) (by rfl)) ?_; clear S a; intro a S)
 (revert S a; refine go 3 ?_; intro a S)
 iterate 3 (refine wv S (sv_lit (c := true) (sv_pure S rfl) (by rfl)) ?_; clear S a; intro a S)
 (revert S a; refine go 3 ?_; intro a S)
 iterate 3 (refine wv S (sv_lit (c := true) (sv_pure S rfl) (by rfl)) ?_; clear S a; intro a S)
 (revert S a; refine go 3 ?_; intro a S)
 iterate 3 (refine wv S (sv_lit (c := true) (sv_pure S rfl) (by rfl)) ?_; clear S a; intro a S)
 (revert S a; refine go 2 ?_; intro a S)
 iterate 2 (refine wv S (sv_lit (c := true) (sv_pure S rfl) (by rfl)) ?_; clear S a; intro a S)
 (revert S a; refine go 3 ?_; intro a S)
 iterate 3 (refine wv S (sv_lit (c := true) (sv_pure S rfl) (by rfl)) ?_; clear S a; intro a S)
 (revert S a; refine go 3 ?_; intro a S)
 iterate 3 (refine wv S (sv_lit (c := true) (sv_pure S rfl) (by rfl)) ?_; clear S a; intro a S)
 (revert S a; refine go 3 ?_; intro a S)
 iterate 3 (refine wv S (sv_lit (c := true) (sv_pure S rfl) (by rfl)) ?_; clear S a; intro a S)
 (revert S a; refine go 3 ?_; intro a S)
 (refine wpl_buildSlice S rfl rfl rfl rfl rfl rfl (by rfl) (by simp [Value.cells, splice, splice]) rfl (by rfl) (by rfl) ?_; clear S a; intro b288 a w hown S; clear hown; have S' := frz1 S; clear S; obtain ⟨D288, he, hb288, S⟩ := S'; replace A := A.mono he; replace hC := hC.mono he; replace hI := hI.mono he; replace hU3 := hU3.mono he; replace hU7 := hU7.mono he; have hs : LiM D288 1 InR (.slice (some ⟨b288, 0, none⟩) 1 1) [1] := lim_of (l := [1]) (cs := ints [1]) hb288 (lic_ints _) (by decide); clear he hb288)
 refine wpl_take S rfl rfl rfl ?_
 (refine wc0 S (sameICt _ [1] _ _ hU7 hs) ?_; clear S a; intro v289 a w hv S; subst hv; clear hs)
 iterate 2 (refine wv S (sv_lit (c := true) (sv_pure S rfl) (by rfl)) ?_; clear S a; intro a S)
 (revert S a; refine go 3 ?_; intro a S)
 iterate 3 (refine wv S (sv_lit (c := true) (sv_pure S rfl) (by rfl)) ?_; clear S a; intro a S)
 (revert S a; refine go 3 ?_; intro a S)
 iterate 3 (refine wv S (sv_lit (c := true) (sv_pure S rfl) (by rfl)) ?_; clear S a; intro a S)
 (revert S a; refine go 3 ?_; intro a S)
 iterate 3 (refine wv S (sv_lit (c := true) (sv_pure S rfl) (by rfl)) ?_; clear S a; intro a S)
 (revert S a; refine go 3 ?_; intro a S)
 iterate 3 (refine wv S (sv_lit (c := true) (sv_pure S rfl) (by rfl)) ?_; clear S a; intro a S)
 (revert S a; refine go 3 ?_; intro a S)
 iterate 3 (refine wv S (sv_lit (c := true) (sv_pure S rfl) (by rfl)) ?_; clear S a; intro a S)
 (revert S a; refine go 3 ?_; intro a S)
 iterate 3 (refine wv S (sv_lit (c := true) (sv_pure S rfl) (by rfl)) ?_; clear S a; intro a S)
 refine wpl_take S rfl rfl rfl ?_
 (refine wc0 S (awakeCt _ (hM.mono A.le) (hT.mono A.le) (hE.mono A.le)) ?_; clear S a; intro v316 a w hv S; subst hv)
 (refine wv S (sv_lit (c := true) (sv_pure S rfl) (by rfl)) ?_; clear S a; intro a S)
 (revert S a; revert hZ Z; refine go 3 ?_; intro a S)
 refine wp_ret (fr1 S Tryz.results6 ?_)
 rfl
end Go.Proofs.YthnafdbebniapaaGreatDoor
