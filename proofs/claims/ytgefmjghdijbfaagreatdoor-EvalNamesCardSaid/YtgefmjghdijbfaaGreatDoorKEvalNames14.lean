/- Walks. -/
import Derived.Test.YtgefmjghdijbfaaGreatDoorKEvalNames13
import Derived.Test.YtgefmjghdijbfaaGreatDoorKEvalNames03
set_option maxHeartbeats 64000000
set_option maxRecDepth 20000
namespace Go.Proofs.YtgefmjghdijbfaaGreatDoor
open Go Go.Wk Go.Un Go.De Go.Num
set_option linter.unusedSimpArgs false
set_option linter.unusedVariables false
attribute [local irreducible] Go.wpList Go.Code.wp Go.wpStill Go.Wk.wpPre Go.bodyPost Go.Calls Go.Wk.Ct Go.Wk.OwnS Go.Wk.wpG Go.Wk.wpM
theorem row_ror {F : Heap} {l : List Vv} {a : Option Addr} {n c : Nat} (h : TrS F 4 VhR (.slice a n c) (roseOf l)) : RvR F (rowW l) [.int .u8 5, .int .i64 0, .string (bs []), .slice a n c] := ⟨[_, _, _], _, rfl, rfl, ⟨rfl, show 0 ≤ 140737488355328 by decide⟩, h⟩
theorem onesW_ror {F : Heap} {a : Option Addr} {n m c : Nat} (h : TrS F 4 VhR (.slice a m c) (ofV n (intV 1))) : RvR F (onesW n) [.int .u8 5, .int .i64 0, .string (bs []), .slice a m c] := row_ror h
theorem tW_ror {F : Heap} {a : Option Addr} {m c : Nat} (h : TrS F 4 VhR (.slice a m c) (ofV 15 (intV 1))) : RvR F tW [.int .u8 5, .int .i64 0, .string (bs []), .slice a m c] := row_ror h
theorem uW_ror {F : Heap} {a : Option Addr} {m c : Nat} (h : TrS F 4 VhR (.slice a m c) (ofV 15 tW)) : RvR F uW [.int .u8 5, .int .i64 0, .string (bs []), .slice a m c] := row_ror h
theorem bigW_ror {F : Heap} {a : Option Addr} {m c n : Nat} (h : LiM F 4 RvR (.slice a m c) (lW ++ [onesW 16, onesW n])) : RvR F (bigW n) [.int .u8 5, .int .i64 0, .string (bs []), .slice a m c] := row_ror (trs_lim h)
theorem kids_roseE : ∀ l : List Vv, kids (roseOf l) = l
 | [] => rfl
 | x :: r => by show (x.1, x.2) :: kids (roseOf r) = _; rw [kids_roseE r]
theorem kids_limE {α : Type} {sz : Nat} {R : Heap → α → List Value → Prop} {F : Heap} {v : Value} {l : Rose α} (h : TrS F sz R v l) : LiM F sz (RoR sz R) v (kids l) := by
 obtain ⟨ao, cap, rfl, hc, hpos⟩ := h.sq
 refine ⟨ao, cap, by rw [kids_len], by rw [kids_len]; exact hc, fun hp => ?_⟩
 rw [kids_len] at hp
 obtain ⟨b, o, e, h1⟩ := hpos hp
 refine ⟨b, o, e, fun k x hx => ?_⟩
 have hk : k < l.len := by rw [← kids_len]; exact (List.getElem?_eq_some_iff.1 hx).1
 rw [kids_get] at hx
 obtain ⟨cs, h2, h3, y, c1, u, h4, h5, h6, h7⟩ := h1 k hk
 rw [hx] at h4
 cases h4
 exact ⟨cs, h2, h3, c1, u, h5, by rw [h5] at h3; simpa using h3, h6, h7⟩
instance : OneC (RoR 4 VhR) := ⟨fun ⟨c, v, h1, _, ⟨h3, _⟩, ⟨_, _, h4, _⟩⟩ => by
 subst h1; subst h3; subst h4
 intro u hu
 simp at hu
 rcases hu with rfl | rfl | rfl | rfl <;> rfl⟩
theorem cels_l {F : Heap} {b o : Nat} {xs ys : List Value} (h : Cels F b o (xs ++ ys)) : Cels F b o xs := fun j v hj => h j v (by rw [List.getElem?_append_left (List.getElem?_eq_some_iff.1 hj).1]; exact hj)
theorem tr_flat {F : Heap} {a : Option Addr} {n c : Nat} {x : Vv} (h : TrS F 4 VhR (.slice a (n + 1) c) (ofV (n + 1) x)) : ∃ xs, LiC F 4 RvR xs (List.replicate (n + 1) x) ∧ ∃ b o, a = some ⟨b, o, none⟩ ∧ Cels F b o xs := by
 have h2 := kids_limE h
 rw [show kids (ofV (n + 1) x) = List.replicate (n + 1) x from kids_roseE _] at h2
 obtain ⟨ao, cap, xs, e, h3, h4⟩ := h2.flat
 obtain rfl : a = ao := by injection e
 exact ⟨xs, h3, h4 (by simp)⟩
theorem enOfFCt (F : Heap) (n : Nat) (hn : n ≤ 1000) (x : Vv) (cx : List Value) (hx : RvR F x cx) : Ct Tryz.prog 42 [.int .i64 (n : Int), .agg ⟨cx⟩] F [] (fun F' _ u => ∃ a c, u = .slice a n c ∧ TrS F' 4 VhR (.slice a n c) (ofV n x)) :=
 ct_frz (Post := fun F' g u => ∃ xs, OwnS 33 4 u n xs g ∧ LiC F' 4 RvR xs (List.replicate n x)) (enOfCt F n hn x cx hx |>.mono fun F' G' u ⟨g, xs, h1, h2, h3⟩ => ⟨g, h1, xs, h2, h3⟩) fun F' g u hle ⟨xs, h1, h2⟩ => by
  have h3 := LiC.lim h1 h2 (by simp) hle (by omega)
  obtain ⟨a, c, e, h4⟩ := id h3
  rw [List.length_replicate] at e
  subst e
  exact ⟨a, c, rfl, trs_lim h3⟩
theorem enPairW (F : Heap) (K : EnK F) {cx cy : List Value} (bx bY : Nat) (hbx : Cels F bx 0 cx) (hby : Cels F bY 0 cy) (hx : RvR F xW cx) (hy : RvR F yW cy) (s t : List UInt8) (hs : s.length ≤ 4096) (ht : t.length ≤ 4096) {A : Ans} (hA : evalO [] [([88], xW), ([89], yW)] (tupX [vX s, vX t]).1 (tupX [vX s, vX t]).2 = A) :
  Ct Tryz.prog 44 ([] ++ [.string (bs s), .string (bs t)] ++ [ptr bx, ptr bY]) F [] (fun F' _ u => AnsR F' u A) := by
 subst hA
 exact enPair3Ct F K.T K.E xW yW cx cy bx bY hbx hby hx hy (enGW _ (List.mem_cons_self ..)) (enGW _ (List.mem_cons_of_mem _ (List.mem_cons_self ..))) s t hs ht
theorem enWidesCt (F : Heap) (K : EnK F) : Ct Tryz.prog 23 [] F [] (fun _ _ u => u = .bool true) := by
  refine Ct.enter Tryz.func23 rfl Tryz.ntmps23 rfl fun w0 a S => ?_
  refine wp_sr fun Z hZ => ?_
  (refine wpl_p S rfl rfl rfl ?_; clear S a; intro a S)
  (refine wpList_nil (hZ _ _ ?_); clear hZ Z; refine wp_sr fun Z hZ => ?_)
  (refine wpl_p S rfl rfl rfl ?_; clear S a; intro a S)
  (refine wpList_nil (hZ _ _ ?_); clear hZ Z; refine wp_sr fun Z hZ => ?_)
  (refine wpl_p S rfl rfl rfl ?_; clear S a; intro a S)
  (refine wpList_nil (hZ _ _ ?_); clear hZ Z; refine wp_sr fun Z hZ => ?_)
  iterate 2 (refine wpl_p S rfl rfl rfl ?_; clear S a; intro a S)
  (refine wcF S (lnumCt F _) ?_; clear S a; intro v15 F15 a w hv hF15 S; obtain ⟨c15, rfl, -, r15⟩ := hv; obtain ⟨xa15, xb15, he15, -, -⟩ := vac_slc (ror_vac r15); subst he15; replace K := K.mono hF15)
  (refine wcF S (enOfFCt F15 15 (by decide) (intV 1) _ r15) ?_; clear S a; intro v16 F16 a w hv hF16 S; obtain ⟨a16, k16, rfl, t16⟩ := hv; replace K := K.mono hF16)
  (refine wc0 S (enRowCt F16 a16 15 k16) ?_; clear S a; intro v17 a w hv S; subst hv)
  (refine wpl_alloc S rfl rfl rfl rfl ?_; clear S a; intro b3 a w S)
  (refine wso S rfl rfl ?_; clear S; intro w S)
  (refine wpList_nil (hZ _ _ ?_); clear hZ Z; refine wp_sr fun Z hZ => ?_)
  iterate 2 (refine wpl_p S rfl rfl rfl ?_; clear S a; intro a S)
  (refine wpl_l S rfl rfl rfl ?_; clear S a; intro a S)
  (refine wcF S (enOfFCt F16 15 (by decide) tW _ (tW_ror t16)) ?_; clear S a; intro v21 F21 a w hv hF21 S; obtain ⟨a21, k21, rfl, t21⟩ := hv; replace K := K.mono hF21)
  (refine wc0 S (enRowCt F21 a21 15 k21) ?_; clear S a; intro v22 a w hv S; subst hv)
  (refine wpl_alloc S rfl rfl rfl rfl ?_; clear S a; intro b4 a w S)
  (refine wso S rfl rfl ?_; clear S; intro w S)
  (refine wpList_nil (hZ _ _ ?_); clear hZ Z; refine wp_seq_k fun Z hZ => ?_)
  (replace S := St.pullB b3 S; have S' := frz1 S; clear S; obtain ⟨E3, hE3, hb3, S⟩ := S'; replace K := K.mono hE3; replace S := St.pullB b4 S; have S' := frz1 S; clear S; obtain ⟨E4, hE4, hb4, S⟩ := S'; replace K := K.mono hE4; have c3 : Cels E4 b3 0 [.int .u8 5, .int .i64 0, .string (bs []), .slice a16 15 k16] := Cels.mono hE4 (cels_of hb3); have c4 : Cels E4 b4 0 [.int .u8 5, .int .i64 0, .string (bs []), .slice a21 15 k21] := cels_of hb4; have R3 := tW_ror (t16.mono (fun b o h => hE4 _ _ (hE3 _ _ (hF21 _ _ h)))); have R4 := uW_ror (t21.mono (fun b o h => hE4 _ _ (hE3 _ _ h))); clear t16 t21)
  (refine wpc_mixM [0, 1, 3, 4] [1, 4] [] (.one 0 (.one 1 (.one 3 (.one 4 (.one 2 (.one 5 (.one 6 (.one 7 .nil)))))))) [] S mixed (by kernel_rfl) ?_; clear S; intro w S)
  (refine wpm_p S rfl rfl rfl (want_none _ rfl) rfl rfl ?_; clear S a; intro a S)
  (refine wlF S rfl (fun w' S => sv_loadAF S rfl rfl c4 rfl) ?_; clear S a; intro a S)
  (refine wpm_p S rfl rfl rfl (want_none _ rfl) rfl rfl ?_; clear S a; intro a S)
  (refine wlF S rfl (fun w' S => sv_loadAF S rfl rfl c3 rfl) ?_; clear S a; intro a S)
  refine wpm_eff rfl rfl (kwa S) ?_
  (refine wpl_call (Gs := []) (Gr := []) S rfl rfl rfl rfl rfl rfl (enOfCt E4 8 (by decide) uW _ R4) rfl (by exact List.Perm.refl _) ?_; clear S a; intro v25 F25 G9 a w hv hF25 S; obtain ⟨g25, x25, rfl, hown, l25⟩ := hv; (simp only [List.append_nil] at S); obtain ⟨a25, k25, rfl, -⟩ := hown.at; replace K := K.mono hF25)
  refine wpList_nil ?_
  refine wpm_eff rfl rfl (kwa S) ?_
  (refine wcF S (enOfFCt F25 6 (by decide) tW _ (Mon.h hF25 R3)) ?_; clear S a; intro v28 F28 a w hv hF28 S; obtain ⟨a28, k28, rfl, t28⟩ := hv; obtain ⟨x28, l28, p28⟩ := tr_flat t28; replace K := K.mono hF28)
  refine wpList_nil ?_
  refine wpm_eff rfl rfl (kwa S) ?_
  (refine wpl_appendSl (news := x28) S rfl rfl rfl rfl rfl rfl hown (by rfl) (by rw [l28.len]; rfl) (fun h => p28) l28.one' (by decide) (by decide) ?_; clear hown S a; intro v29 g29 a w hown S; obtain ⟨bL, kL, eL, rfl, rfl, hkL, -, hxl, -⟩ := ownS_blkN hown (by decide); have S' := frz1 S; clear S; obtain ⟨E29, hE29, hbL, S⟩ := S'; have cL : Cels E29 bL 0 (x25 ++ x28) := cels_l (cels_of hbL); have lL : LiC E29 4 RvR (x25 ++ x28) lW := LiC.app (l25.mono (fun b o h => hE29 _ _ (hF28 _ _ h))) (l28.mono hE29); have hlL := lL.len; clear hown hxl hbL; replace K := K.mono hE29)
  refine wpList_nil ?_
  refine wpm_eff rfl rfl (kwa S) ?_
  (refine wpl_p S rfl rfl rfl ?_; clear S a; intro a S)
  refine wpList_nil ?_
  (refine wpm_nil (kwa S) (hZ _ _ ?_); clear hZ Z; refine wp_seq_k fun Z hZ => ?_)
  replace hZ : ∀ (a' : Act) (w' : World), (∃ (D6 : Heap) (b6 : Nat) (a44 : Option Addr) (k44 : Nat), (∀ b o, E29 b = some o → D6 b = some o) ∧ EnK D6 ∧ LiM D6 4 RvR (.slice a44 16 k44) (lW ++ [onesW 16, onesW 4]) ∧ St 88 [(1, .func (.func 42) ⟨[]⟩ ⟨[]⟩), (2, .func (.func 43) ⟨[]⟩ ⟨[]⟩), (5, .slice (some ⟨bL, 0, none⟩) 14 kL), (6, ptr b6)] w0 F [] D6 [[(b6, .cells ⟨[.int .u8 5, .int .i64 0, .string (bs []), .slice a44 16 k44]⟩ 33 (0, 0))]] a' w') → Z a' w' := (by
   (intro a w hM; refine hZ _ _ ?_; clear hZ Z; clear S; obtain ⟨D6, b6, a44, k44, hD6, K, m44, S⟩ := hM)
   (refine wp_seq_k ?_; intro Z hZ)
   replace hZ : ∀ (a' : Act) (w' : World), (∃ (D7 : Heap) (b7 : Nat) (a60 : Option Addr) (k60 : Nat), (∀ b o, D6 b = some o → D7 b = some o) ∧ EnK D7 ∧ LiM D7 4 RvR (.slice a60 16 k60) (lW ++ [onesW 16, onesW 5]) ∧ St 88 [(1, .func (.func 42) ⟨[]⟩ ⟨[]⟩), (2, .func (.func 43) ⟨[]⟩ ⟨[]⟩), (6, ptr b6), (7, ptr b7)] w0 F [] D7 [[(b6, .cells ⟨[.int .u8 5, .int .i64 0, .string (bs []), .slice a44 16 k44]⟩ 33 (0, 0))], [(b7, .cells ⟨[.int .u8 5, .int .i64 0, .string (bs []), .slice a60 16 k60]⟩ 33 (0, 0))]] a' w') → Z a' w' := (by
    (intro a w hM; refine hZ _ _ ?_; clear hZ Z; clear S; obtain ⟨D7, b7, a60, k60, hD7, K, m60, S⟩ := hM)
    refine wp_sr fun Z hZ => ?_
    iterate 2 (refine wpl_p S rfl rfl rfl ?_; clear S a; intro a S)
    (refine wpList_nil (hZ _ _ ?_); clear hZ Z; refine wp_seq_k fun Z hZ => ?_)
    (replace S := St.pullB b6 S; have S' := frz1 S; clear S; obtain ⟨E6, hE6, hb6, S⟩ := S'; replace K := K.mono hE6; replace S := St.pullB b7 S; have S' := frz1 S; clear S; obtain ⟨E7, hE7, hb7, S⟩ := S'; replace K := K.mono hE7; have c6 : Cels E7 b6 0 [.int .u8 5, .int .i64 0, .string (bs []), .slice a44 16 k44] := Cels.mono hE7 (cels_of hb6); have c7 : Cels E7 b7 0 [.int .u8 5, .int .i64 0, .string (bs []), .slice a60 16 k60] := cels_of hb7; have R6 : RvR E7 xW _ := bigW_ror (n := 4) (m44.mono (fun b o h => hE7 _ _ (hE6 _ _ (hD7 _ _ h)))); have R7 : RvR E7 yW _ := bigW_ror (n := 5) (m60.mono (fun b o h => hE7 _ _ (hE6 _ _ h))))
    refine wp_region_lit ?_
    (refine wpl_p S rfl rfl rfl ?_; clear S a; intro a S)
    (refine wcF S (enPairW E7 K b6 b7 c6 c7 R6 R7 [88] [89] (by decide) (by decide) enW1) ?_; clear S a; intro v65 F65 a w hv hF65 S; obtain ⟨c65, rfl, q65⟩ := hv; obtain ⟨xa65, xb65, he65, -, -⟩ := vac_slc q65; subst he65; replace K := K.mono hF65)
    iterate 3 (refine wpl_p S rfl rfl rfl ?_; clear S a; intro a S)
    (refine wpl_alloc S rfl rfl rfl rfl ?_; clear S a; intro b9 a w S)
    (refine wso S rfl rfl ?_; clear S; intro w S)
    (refine wpl_p S rfl rfl rfl ?_; clear S a; intro a S)
    (refine wpList_nil (hZ _ _ ?_); clear hZ Z; refine wp_sr fun Z hZ => ?_)
    (refine wpl_p S rfl rfl rfl ?_; clear S a; intro a S)
    (refine wcF S (enPairW F65 K b6 b7 (Cels.mono (fun b o h => hF65 _ _ h) c6) (Cels.mono (fun b o h => hF65 _ _ h) c7) (Mon.h (fun b o h => hF65 _ _ h) R6) (Mon.h (fun b o h => hF65 _ _ h) R7) [89] [89] (by decide) (by decide) enW2) ?_; clear S a; intro v70 F70 a w hv hF70 S; obtain ⟨c70, rfl, q70⟩ := hv; obtain ⟨xa70, xb70, he70, -, -⟩ := vac_slc q70; subst he70; replace K := K.mono hF70)
    iterate 3 (refine wpl_p S rfl rfl rfl ?_; clear S a; intro a S)
    (refine wpl_alloc S rfl rfl rfl rfl ?_; clear S a; intro b11 a w S)
    (refine wso S rfl rfl ?_; clear S; intro w S)
    (refine wpl_p S rfl rfl rfl ?_; clear S a; intro a S)
    (refine wpList_nil (hZ _ _ ?_); clear hZ Z; refine wp_seq_k fun Z hZ => ?_)
    (replace S := St.pullB b9 S; have S' := frz1 S; clear S; obtain ⟨E9, hE9, hb9, S⟩ := S'; replace K := K.mono hE9; have g9 : Cels E9 b9 0 [.int .u8 5, .int .i64 0, .string (bs []), .slice xa65 2 xb65] := cels_of hb9; have V9 := ror_vac (Mon.h (fun b o h => hE9 _ _ (hF70 _ _ h)) (vac_ror q65)); have g6 := Cels.mono (fun b o h => hE9 _ _ (hF70 _ _ (hF65 _ _ h))) c6; have g7 := Cels.mono (fun b o h => hE9 _ _ (hF70 _ _ (hF65 _ _ h))) c7; have S6 := Mon.h (fun b o h => hE9 _ _ (hF70 _ _ (hF65 _ _ h))) R6; have S7 := Mon.h (fun b o h => hE9 _ _ (hF70 _ _ (hF65 _ _ h))) R7)
    (refine wpc_mixM [0, 1, 2, 3, 4, 5, 6, 10, 11, 12, 13, 14] [3, 5, 6] [] (.one 0 (.one 1 (.one 2 (.one 3 (.one 4 (.one 5 (.one 6 (.one 7 (.one 8 (.one 9 (.one 10 (.one 11 (.one 12 (.one 13 (.one 14 (.one 15 .nil)))))))))))))))) [] S mixed (by kernel_rfl) ?_; clear S; intro w S)
    (refine wpm_p S rfl rfl rfl (want_none _ rfl) rfl rfl ?_; clear S a; intro a S)
    iterate 2 (refine wpm_v S rfl rfl rfl (want_none _ rfl) rfl rfl (fun w' S => sv_lit (c := true) (sv_pure S rfl) (by rfl)) ?_; clear S a; intro a S)
    (refine wlF S rfl (fun w' S => sv_loadAF S rfl rfl g9 rfl) ?_; clear S a; intro a S)
    (refine wpm_p S rfl rfl rfl (want_yes S rfl rfl rfl) rfl rfl ?_; clear S a; intro a S)
    (refine wlF S rfl (fun w' S => sv_loadAF S rfl rfl g6 rfl) ?_; clear S a; intro a S)
    (refine wlF S rfl (fun w' S => sv_loadAF S rfl rfl g7 rfl) ?_; clear S a; intro a S)
    refine wpm_eff rfl rfl (kwa S) ?_
    refine wpl_take S rfl rfl rfl ?_
    (refine wpl_buildSlice S rfl rfl rfl rfl rfl rfl (by rfl) (by simp [Value.cells, splice]) rfl (by rfl) (by rfl) ?_; clear S a; intro b80 a w hown S; have S' := frz1 S; clear S; obtain ⟨F80, hF80, hb80, S⟩ := S'; have r80 := trs_lim (lim_of (l := ([xW, yW] : List Vv)) hb80 (LiC.app (l := ([xW] : List Vv)) (LiC.one (sz := 4) rfl (Mon.h hF80 S6)) (LiC.one (sz := 4) rfl (Mon.h hF80 S7))) (show 2 ≤ _ by decide)))
    refine wpList_nil ?_
    refine wpm_eff rfl rfl (kwa S) ?_
    refine wpl_take S rfl rfl rfl ?_
    (refine wc0 S (enRowCt F80 _ 2 2) ?_; clear S a; intro v81 a w hv S; subst hv)
    refine wpList_nil ?_
    refine wpm_eff rfl rfl (kwa S) ?_
    refine wpl_take S rfl rfl rfl ?_
    (refine wc0 S (sameCt 5000 F80 bothW bothW _ _ bothW_sz (ror_vac (Mon.h hF80 (vac_ror V9))) ⟨_, rfl, r80, by decide⟩) ?_; clear S a; intro v82 a w hv S; subst hv; rw [enS2] at S)
    refine wpList_nil ?_
    iterate 2 (refine wpm_v S rfl rfl rfl (want_none _ rfl) rfl rfl (fun w' S => sv_lit (c := true) (sv_pure S rfl) (by rfl)) ?_; clear S a; intro a S)
    (refine wpm_p S rfl rfl rfl (want_yes S rfl rfl rfl) rfl rfl ?_; clear S a; intro a S)
    (refine wpm_v S rfl rfl rfl (want_yes S rfl rfl rfl) rfl rfl (fun w' S => sv_lit (c := true) (sv_pure S rfl) (by rfl)) ?_; clear S a; intro a S)
    (refine wpm_v S rfl rfl rfl (want_none _ rfl) rfl rfl (fun w' S => sv_lit (c := true) (sv_pure S rfl) (by rfl)) ?_; clear S a; intro a S)
    refine wpm_eff rfl rfl (kwa S) ?_
    (refine wpl_p S rfl rfl rfl ?_; clear S a; intro a S)
    refine wpList_nil ?_
    (refine wpm_nil (kwa S) (hZ _ _ ?_); clear hZ Z)
    refine wp_ret (fr1 S Tryz.results23 ?_)
    rfl)
   (refine wpc_mixM [0, 1, 2, 3, 4, 8, 9] [] [] (.one 0 (.one 1 (.one 2 (.one 3 (.one 4 (.one 8 (.one 9 (.two 5 16 (.two 6 16 (.two 7 16 (.two 10 16 (.two 11 16 (.two 12 16 (.two 13 16 (.two 14 16 (.two 15 16 (.one 16 (.one 17 .nil)) (.one 15 (.one 17 .nil))) (.one 14 (.one 15 (.one 17 .nil)))) (.one 13 (.one 14 (.one 15 (.one 17 .nil))))) (.one 12 (.one 13 (.one 14 (.one 15 (.one 17 .nil)))))) (.one 11 (.one 12 (.one 13 (.one 14 (.one 15 (.one 17 .nil))))))) (.one 10 (.one 11 (.one 12 (.one 13 (.one 14 (.one 15 (.one 17 .nil)))))))) (.one 7 (.one 10 (.one 11 (.one 12 (.one 13 (.one 14 (.one 15 (.one 17 .nil))))))))) (.one 6 (.one 7 (.one 10 (.one 11 (.one 12 (.one 13 (.one 14 (.one 15 (.one 17 .nil)))))))))) (.one 5 (.one 6 (.one 7 (.one 10 (.one 11 (.one 12 (.one 13 (.one 14 (.one 15 (.one 17 .nil)))))))))))))))))) [] S mixed (by kernel_rfl) ?_; clear S; intro w S)
   iterate 2 (refine wpm_p S rfl rfl rfl (want_none _ rfl) rfl rfl ?_; clear S a; intro a S)
   (refine wpm_v S rfl rfl rfl (want_none _ rfl) rfl rfl (fun w' S => sv_sliceSl_hm (i := 14) (j := 14) S rfl rfl rfl rfl (by decide) (by have := hkL; omega)) ?_; clear S a; intro a S)
   iterate 4 (refine wpm_p S rfl rfl rfl (want_none _ rfl) rfl rfl ?_; clear S a; intro a S)
   refine wpm_two rfl rfl (kwa S) ?_ ?_
   · skip
     (refine wcF S (lnumCt D6 _) ?_; clear S a; intro v51 F51 a w hv hF51 S; obtain ⟨c51, rfl, -, r51⟩ := hv; obtain ⟨xa51, xb51, he51, -, -⟩ := vac_slc (ror_vac r51); subst he51; replace K := K.mono hF51)
     refine wpList_nil ?_
     refine wpm_two rfl rfl (kwa S) ?_ ?_
     · skip
       (refine wcF S (enOfFCt F51 16 (by decide) (intV 1) _ r51) ?_; clear S a; intro v52 F52 a w hv hF52 S; obtain ⟨a52, k52, rfl, t52⟩ := hv; replace K := K.mono hF52)
       refine wpList_nil ?_
       refine wpm_two rfl rfl (kwa S) ?_ ?_
       · skip
         (refine wc0 S (enRowCt F52 a52 16 k52) ?_; clear S a; intro v53 a w hv S; subst hv)
         refine wpList_nil ?_
         refine wpm_two rfl rfl (kwa S) ?_ ?_
         · skip
           (refine wcF S (lnumCt F52 _) ?_; clear S a; intro v56 F56 a w hv hF56 S; obtain ⟨c56, rfl, -, r56⟩ := hv; obtain ⟨xa56, xb56, he56, -, -⟩ := vac_slc (ror_vac r56); subst he56; replace K := K.mono hF56)
           refine wpList_nil ?_
           refine wpm_two rfl rfl (kwa S) ?_ ?_
           · skip
             (refine wcF S (enOfFCt F56 5 (by decide) (intV 1) _ r56) ?_; clear S a; intro v57 F57 a w hv hF57 S; obtain ⟨a57, k57, rfl, t57⟩ := hv; replace K := K.mono hF57)
             refine wpList_nil ?_
             refine wpm_two rfl rfl (kwa S) ?_ ?_
             · skip
               (refine wc0 S (enRowCt F57 a57 5 k57) ?_; clear S a; intro v58 a w hv S; subst hv)
               refine wpList_nil ?_
               refine wpm_two rfl rfl (kwa S) ?_ ?_
               · skip
                 (refine wpl_buildSlice S rfl rfl rfl rfl rfl rfl (by rfl) (by simp [Value.cells, splice]) rfl (by rfl) (by rfl) ?_; clear S a; intro b59 a w hown S; have S' := frz1 S; clear S; obtain ⟨F59, hF59, hb59, S⟩ := S'; have l59 : LiC F59 4 RvR _ [onesW 16, onesW 5] := LiC.app (l := [onesW 16]) (LiC.one (sz := 4) rfl (onesW_ror (t52.mono (fun b o h => hF59 _ _ (hF57 _ _ (hF56 _ _ h)))))) (LiC.one (sz := 4) rfl (onesW_ror (t57.mono (fun b o h => hF59 _ _ h)))); have c59 := cels_of hb59; replace K := K.mono hF59)
                 refine wpList_nil ?_
                 refine wpm_two rfl rfl (kwa S) ?_ ?_
                 · skip
                   (refine wpl_appendGrow (xs := x25 ++ x28) S rfl rfl rfl rfl rfl rfl (by rfl) (by rw [hlL]; rfl) (by rfl) (Cels.mono (fun b o h => hF59 _ _ (hF57 _ _ (hF56 _ _ (hF52 _ _ (hF51 _ _ (hD6 _ _ h)))))) cL) c59 (by decide) (by decide) (by decide) ?_; clear S a; intro v60 g60 a w hown S; have hF60 := add_le (G1 := []) S; replace S := St.freeze (G1 := []) S; (simp only [List.nil_append] at S hF60); have m60 := LiC.lim hown (LiC.app (lL.mono (fun b o h => hF59 _ _ (hF57 _ _ (hF56 _ _ (hF52 _ _ (hF51 _ _ (hD6 _ _ h))))))) l59) rfl hF60 (by decide); clear hown; obtain ⟨a60, k60, rfl, -, -⟩ := id m60; generalize Heap.add _ g60 = F60 at S hF60 m60; replace K := K.mono hF60)
                   refine wpList_nil ?_
                   refine wpm_two rfl rfl (kwa S) ?_ ?_
                   · skip
                     (refine wc0 S (enRowCt F60 a60 16 k60) ?_; clear S a; intro v61 a w hv S; subst hv)
                     refine wpList_nil ?_
                     refine wpm_eff rfl rfl (kwa S) ?_
                     (refine wpl_alloc S rfl rfl rfl rfl ?_; clear S a; intro b7 a w S)
                     refine wpList_nil ?_
                     refine wpm_eff rfl rfl (kwa S) ?_
                     (refine wso S rfl rfl ?_; clear S; intro w S)
                     refine wpList_nil ?_
                     refine wpm_nil (kwa S) ?_
                     (refine hZ _ _ ?_)
                     (replace S := stTwo (St.pullB b6 (St.pullB b7 S)); refine ⟨_, b7, a60, k60, (fun b o h => hF60 _ _ (hF59 _ _ (hF57 _ _ (hF56 _ _ (hF52 _ _ (hF51 _ _ h)))))), K, m60, ?_⟩; (refine S.keep ?_; exact zk))
                   skip
                   (refine wpl_alloc S rfl rfl rfl rfl ?_; clear S a; intro b7 a w S)
                   refine wpList_nil ?_
                   refine wpm_eff rfl rfl (kwa S) ?_
                   (refine wc0 S (enRowCt F60 a60 16 k60) ?_; clear S a; intro v61 a w hv S; subst hv)
                   refine wpList_nil ?_
                   refine wpm_eff rfl rfl (kwa S) ?_
                   (refine wso S rfl rfl ?_; clear S; intro w S)
                   refine wpList_nil ?_
                   refine wpm_nil (kwa S) ?_
                   (refine hZ _ _ ?_)
                   (replace S := stTwo (St.pullB b6 (St.pullB b7 S)); refine ⟨_, b7, a60, k60, (fun b o h => hF60 _ _ (hF59 _ _ (hF57 _ _ (hF56 _ _ (hF52 _ _ (hF51 _ _ h)))))), K, m60, ?_⟩; (refine S.keep ?_; exact zk))
                 skip
                 (refine wpl_alloc S rfl rfl rfl rfl ?_; clear S a; intro b7 a w S)
                 refine wpList_nil ?_
                 refine wpm_eff rfl rfl (kwa S) ?_
                 (refine wpl_appendGrow (xs := x25 ++ x28) S rfl rfl rfl rfl rfl rfl (by rfl) (by rw [hlL]; rfl) (by rfl) (Cels.mono (fun b o h => hF59 _ _ (hF57 _ _ (hF56 _ _ (hF52 _ _ (hF51 _ _ (hD6 _ _ h)))))) cL) c59 (by decide) (by decide) (by decide) ?_; clear S a; intro v60 g60 a w hown S; have hF60 := add_le (G1 := []) S; replace S := St.freeze (G1 := []) S; (simp only [List.nil_append] at S hF60); have m60 := LiC.lim hown (LiC.app (lL.mono (fun b o h => hF59 _ _ (hF57 _ _ (hF56 _ _ (hF52 _ _ (hF51 _ _ (hD6 _ _ h))))))) l59) rfl hF60 (by decide); clear hown; obtain ⟨a60, k60, rfl, -, -⟩ := id m60; generalize Heap.add _ g60 = F60 at S hF60 m60; replace K := K.mono hF60)
                 refine wpList_nil ?_
                 refine wpm_eff rfl rfl (kwa S) ?_
                 (refine wc0 S (enRowCt F60 a60 16 k60) ?_; clear S a; intro v61 a w hv S; subst hv)
                 refine wpList_nil ?_
                 refine wpm_eff rfl rfl (kwa S) ?_
                 (refine wso S rfl rfl ?_; clear S; intro w S)
                 refine wpList_nil ?_
                 refine wpm_nil (kwa S) ?_
                 (refine hZ _ _ ?_)
                 (replace S := stTwo (St.pullB b6 (St.pullB b7 S)); refine ⟨_, b7, a60, k60, (fun b o h => hF60 _ _ (hF59 _ _ (hF57 _ _ (hF56 _ _ (hF52 _ _ (hF51 _ _ h)))))), K, m60, ?_⟩; (refine S.keep ?_; exact zk))
               skip
               (refine wpl_alloc S rfl rfl rfl rfl ?_; clear S a; intro b7 a w S)
               refine wpList_nil ?_
               refine wpm_eff rfl rfl (kwa S) ?_
               (refine wpl_buildSlice S rfl rfl rfl rfl rfl rfl (by rfl) (by simp [Value.cells, splice]) rfl (by rfl) (by rfl) ?_; clear S a; intro b59 a w hown S; have S' := frz1 S; clear S; obtain ⟨F59, hF59, hb59, S⟩ := S'; have l59 : LiC F59 4 RvR _ [onesW 16, onesW 5] := LiC.app (l := [onesW 16]) (LiC.one (sz := 4) rfl (onesW_ror (t52.mono (fun b o h => hF59 _ _ (hF57 _ _ (hF56 _ _ h)))))) (LiC.one (sz := 4) rfl (onesW_ror (t57.mono (fun b o h => hF59 _ _ h)))); have c59 := cels_of hb59; replace K := K.mono hF59)
               refine wpList_nil ?_
               refine wpm_eff rfl rfl (kwa S) ?_
               (refine wpl_appendGrow (xs := x25 ++ x28) S rfl rfl rfl rfl rfl rfl (by rfl) (by rw [hlL]; rfl) (by rfl) (Cels.mono (fun b o h => hF59 _ _ (hF57 _ _ (hF56 _ _ (hF52 _ _ (hF51 _ _ (hD6 _ _ h)))))) cL) c59 (by decide) (by decide) (by decide) ?_; clear S a; intro v60 g60 a w hown S; have hF60 := add_le (G1 := []) S; replace S := St.freeze (G1 := []) S; (simp only [List.nil_append] at S hF60); have m60 := LiC.lim hown (LiC.app (lL.mono (fun b o h => hF59 _ _ (hF57 _ _ (hF56 _ _ (hF52 _ _ (hF51 _ _ (hD6 _ _ h))))))) l59) rfl hF60 (by decide); clear hown; obtain ⟨a60, k60, rfl, -, -⟩ := id m60; generalize Heap.add _ g60 = F60 at S hF60 m60; replace K := K.mono hF60)
               refine wpList_nil ?_
               refine wpm_eff rfl rfl (kwa S) ?_
               (refine wc0 S (enRowCt F60 a60 16 k60) ?_; clear S a; intro v61 a w hv S; subst hv)
               refine wpList_nil ?_
               refine wpm_eff rfl rfl (kwa S) ?_
               (refine wso S rfl rfl ?_; clear S; intro w S)
               refine wpList_nil ?_
               refine wpm_nil (kwa S) ?_
               (refine hZ _ _ ?_)
               (replace S := stTwo (St.pullB b6 (St.pullB b7 S)); refine ⟨_, b7, a60, k60, (fun b o h => hF60 _ _ (hF59 _ _ (hF57 _ _ (hF56 _ _ (hF52 _ _ (hF51 _ _ h)))))), K, m60, ?_⟩; (refine S.keep ?_; exact zk))
             skip
             (refine wpl_alloc S rfl rfl rfl rfl ?_; clear S a; intro b7 a w S)
             refine wpList_nil ?_
             refine wpm_eff rfl rfl (kwa S) ?_
             (refine wc0 S (enRowCt F57 a57 5 k57) ?_; clear S a; intro v58 a w hv S; subst hv)
             refine wpList_nil ?_
             refine wpm_eff rfl rfl (kwa S) ?_
             (refine wpl_buildSlice S rfl rfl rfl rfl rfl rfl (by rfl) (by simp [Value.cells, splice]) rfl (by rfl) (by rfl) ?_; clear S a; intro b59 a w hown S; have S' := frz1 S; clear S; obtain ⟨F59, hF59, hb59, S⟩ := S'; have l59 : LiC F59 4 RvR _ [onesW 16, onesW 5] := LiC.app (l := [onesW 16]) (LiC.one (sz := 4) rfl (onesW_ror (t52.mono (fun b o h => hF59 _ _ (hF57 _ _ (hF56 _ _ h)))))) (LiC.one (sz := 4) rfl (onesW_ror (t57.mono (fun b o h => hF59 _ _ h)))); have c59 := cels_of hb59; replace K := K.mono hF59)
             refine wpList_nil ?_
             refine wpm_eff rfl rfl (kwa S) ?_
             (refine wpl_appendGrow (xs := x25 ++ x28) S rfl rfl rfl rfl rfl rfl (by rfl) (by rw [hlL]; rfl) (by rfl) (Cels.mono (fun b o h => hF59 _ _ (hF57 _ _ (hF56 _ _ (hF52 _ _ (hF51 _ _ (hD6 _ _ h)))))) cL) c59 (by decide) (by decide) (by decide) ?_; clear S a; intro v60 g60 a w hown S; have hF60 := add_le (G1 := []) S; replace S := St.freeze (G1 := []) S; (simp only [List.nil_append] at S hF60); have m60 := LiC.lim hown (LiC.app (lL.mono (fun b o h => hF59 _ _ (hF57 _ _ (hF56 _ _ (hF52 _ _ (hF51 _ _ (hD6 _ _ h))))))) l59) rfl hF60 (by decide); clear hown; obtain ⟨a60, k60, rfl, -, -⟩ := id m60; generalize Heap.add _ g60 = F60 at S hF60 m60; replace K := K.mono hF60)
             refine wpList_nil ?_
             refine wpm_eff rfl rfl (kwa S) ?_
             (refine wc0 S (enRowCt F60 a60 16 k60) ?_; clear S a; intro v61 a w hv S; subst hv)
             refine wpList_nil ?_
             refine wpm_eff rfl rfl (kwa S) ?_
             (refine wso S rfl rfl ?_; clear S; intro w S)
             refine wpList_nil ?_
             refine wpm_nil (kwa S) ?_
             (refine hZ _ _ ?_)
             (replace S := stTwo (St.pullB b6 (St.pullB b7 S)); refine ⟨_, b7, a60, k60, (fun b o h => hF60 _ _ (hF59 _ _ (hF57 _ _ (hF56 _ _ (hF52 _ _ (hF51 _ _ h)))))), K, m60, ?_⟩; (refine S.keep ?_; exact zk))
           skip
           (refine wpl_alloc S rfl rfl rfl rfl ?_; clear S a; intro b7 a w S)
           refine wpList_nil ?_
           refine wpm_eff rfl rfl (kwa S) ?_
           (refine wcF S (enOfFCt F56 5 (by decide) (intV 1) _ r56) ?_; clear S a; intro v57 F57 a w hv hF57 S; obtain ⟨a57, k57, rfl, t57⟩ := hv; replace K := K.mono hF57)
           refine wpList_nil ?_
           refine wpm_eff rfl rfl (kwa S) ?_
           (refine wc0 S (enRowCt F57 a57 5 k57) ?_; clear S a; intro v58 a w hv S; subst hv)
           refine wpList_nil ?_
           refine wpm_eff rfl rfl (kwa S) ?_
           (refine wpl_buildSlice S rfl rfl rfl rfl rfl rfl (by rfl) (by simp [Value.cells, splice]) rfl (by rfl) (by rfl) ?_; clear S a; intro b59 a w hown S; have S' := frz1 S; clear S; obtain ⟨F59, hF59, hb59, S⟩ := S'; have l59 : LiC F59 4 RvR _ [onesW 16, onesW 5] := LiC.app (l := [onesW 16]) (LiC.one (sz := 4) rfl (onesW_ror (t52.mono (fun b o h => hF59 _ _ (hF57 _ _ (hF56 _ _ h)))))) (LiC.one (sz := 4) rfl (onesW_ror (t57.mono (fun b o h => hF59 _ _ h)))); have c59 := cels_of hb59; replace K := K.mono hF59)
           refine wpList_nil ?_
           refine wpm_eff rfl rfl (kwa S) ?_
           (refine wpl_appendGrow (xs := x25 ++ x28) S rfl rfl rfl rfl rfl rfl (by rfl) (by rw [hlL]; rfl) (by rfl) (Cels.mono (fun b o h => hF59 _ _ (hF57 _ _ (hF56 _ _ (hF52 _ _ (hF51 _ _ (hD6 _ _ h)))))) cL) c59 (by decide) (by decide) (by decide) ?_; clear S a; intro v60 g60 a w hown S; have hF60 := add_le (G1 := []) S; replace S := St.freeze (G1 := []) S; (simp only [List.nil_append] at S hF60); have m60 := LiC.lim hown (LiC.app (lL.mono (fun b o h => hF59 _ _ (hF57 _ _ (hF56 _ _ (hF52 _ _ (hF51 _ _ (hD6 _ _ h))))))) l59) rfl hF60 (by decide); clear hown; obtain ⟨a60, k60, rfl, -, -⟩ := id m60; generalize Heap.add _ g60 = F60 at S hF60 m60; replace K := K.mono hF60)
           refine wpList_nil ?_
           refine wpm_eff rfl rfl (kwa S) ?_
           (refine wc0 S (enRowCt F60 a60 16 k60) ?_; clear S a; intro v61 a w hv S; subst hv)
           refine wpList_nil ?_
           refine wpm_eff rfl rfl (kwa S) ?_
           (refine wso S rfl rfl ?_; clear S; intro w S)
           refine wpList_nil ?_
           refine wpm_nil (kwa S) ?_
           (refine hZ _ _ ?_)
           (replace S := stTwo (St.pullB b6 (St.pullB b7 S)); refine ⟨_, b7, a60, k60, (fun b o h => hF60 _ _ (hF59 _ _ (hF57 _ _ (hF56 _ _ (hF52 _ _ (hF51 _ _ h)))))), K, m60, ?_⟩; (refine S.keep ?_; exact zk))
         skip
         (refine wpl_alloc S rfl rfl rfl rfl ?_; clear S a; intro b7 a w S)
         refine wpList_nil ?_
         refine wpm_eff rfl rfl (kwa S) ?_
         (refine wcF S (lnumCt F52 _) ?_; clear S a; intro v56 F56 a w hv hF56 S; obtain ⟨c56, rfl, -, r56⟩ := hv; obtain ⟨xa56, xb56, he56, -, -⟩ := vac_slc (ror_vac r56); subst he56; replace K := K.mono hF56)
         refine wpList_nil ?_
         refine wpm_eff rfl rfl (kwa S) ?_
         (refine wcF S (enOfFCt F56 5 (by decide) (intV 1) _ r56) ?_; clear S a; intro v57 F57 a w hv hF57 S; obtain ⟨a57, k57, rfl, t57⟩ := hv; replace K := K.mono hF57)
         refine wpList_nil ?_
         refine wpm_eff rfl rfl (kwa S) ?_
         (refine wc0 S (enRowCt F57 a57 5 k57) ?_; clear S a; intro v58 a w hv S; subst hv)
         refine wpList_nil ?_
         refine wpm_eff rfl rfl (kwa S) ?_
         (refine wpl_buildSlice S rfl rfl rfl rfl rfl rfl (by rfl) (by simp [Value.cells, splice]) rfl (by rfl) (by rfl) ?_; clear S a; intro b59 a w hown S; have S' := frz1 S; clear S; obtain ⟨F59, hF59, hb59, S⟩ := S'; have l59 : LiC F59 4 RvR _ [onesW 16, onesW 5] := LiC.app (l := [onesW 16]) (LiC.one (sz := 4) rfl (onesW_ror (t52.mono (fun b o h => hF59 _ _ (hF57 _ _ (hF56 _ _ h)))))) (LiC.one (sz := 4) rfl (onesW_ror (t57.mono (fun b o h => hF59 _ _ h)))); have c59 := cels_of hb59; replace K := K.mono hF59)
         refine wpList_nil ?_
         refine wpm_eff rfl rfl (kwa S) ?_
         (refine wpl_appendGrow (xs := x25 ++ x28) S rfl rfl rfl rfl rfl rfl (by rfl) (by rw [hlL]; rfl) (by rfl) (Cels.mono (fun b o h => hF59 _ _ (hF57 _ _ (hF56 _ _ (hF52 _ _ (hF51 _ _ (hD6 _ _ h)))))) cL) c59 (by decide) (by decide) (by decide) ?_; clear S a; intro v60 g60 a w hown S; have hF60 := add_le (G1 := []) S; replace S := St.freeze (G1 := []) S; (simp only [List.nil_append] at S hF60); have m60 := LiC.lim hown (LiC.app (lL.mono (fun b o h => hF59 _ _ (hF57 _ _ (hF56 _ _ (hF52 _ _ (hF51 _ _ (hD6 _ _ h))))))) l59) rfl hF60 (by decide); clear hown; obtain ⟨a60, k60, rfl, -, -⟩ := id m60; generalize Heap.add _ g60 = F60 at S hF60 m60; replace K := K.mono hF60)
         refine wpList_nil ?_
         refine wpm_eff rfl rfl (kwa S) ?_
         (refine wc0 S (enRowCt F60 a60 16 k60) ?_; clear S a; intro v61 a w hv S; subst hv)
         refine wpList_nil ?_
         refine wpm_eff rfl rfl (kwa S) ?_
         (refine wso S rfl rfl ?_; clear S; intro w S)
         refine wpList_nil ?_
         refine wpm_nil (kwa S) ?_
         (refine hZ _ _ ?_)
         (replace S := stTwo (St.pullB b6 (St.pullB b7 S)); refine ⟨_, b7, a60, k60, (fun b o h => hF60 _ _ (hF59 _ _ (hF57 _ _ (hF56 _ _ (hF52 _ _ (hF51 _ _ h)))))), K, m60, ?_⟩; (refine S.keep ?_; exact zk))
       skip
       (refine wpl_alloc S rfl rfl rfl rfl ?_; clear S a; intro b7 a w S)
       refine wpList_nil ?_
       refine wpm_eff rfl rfl (kwa S) ?_
       (refine wc0 S (enRowCt F52 a52 16 k52) ?_; clear S a; intro v53 a w hv S; subst hv)
       refine wpList_nil ?_
       refine wpm_eff rfl rfl (kwa S) ?_
       (refine wcF S (lnumCt F52 _) ?_; clear S a; intro v56 F56 a w hv hF56 S; obtain ⟨c56, rfl, -, r56⟩ := hv; obtain ⟨xa56, xb56, he56, -, -⟩ := vac_slc (ror_vac r56); subst he56; replace K := K.mono hF56)
       refine wpList_nil ?_
       refine wpm_eff rfl rfl (kwa S) ?_
       (refine wcF S (enOfFCt F56 5 (by decide) (intV 1) _ r56) ?_; clear S a; intro v57 F57 a w hv hF57 S; obtain ⟨a57, k57, rfl, t57⟩ := hv; replace K := K.mono hF57)
       refine wpList_nil ?_
       refine wpm_eff rfl rfl (kwa S) ?_
       (refine wc0 S (enRowCt F57 a57 5 k57) ?_; clear S a; intro v58 a w hv S; subst hv)
       refine wpList_nil ?_
       refine wpm_eff rfl rfl (kwa S) ?_
       (refine wpl_buildSlice S rfl rfl rfl rfl rfl rfl (by rfl) (by simp [Value.cells, splice]) rfl (by rfl) (by rfl) ?_; clear S a; intro b59 a w hown S; have S' := frz1 S; clear S; obtain ⟨F59, hF59, hb59, S⟩ := S'; have l59 : LiC F59 4 RvR _ [onesW 16, onesW 5] := LiC.app (l := [onesW 16]) (LiC.one (sz := 4) rfl (onesW_ror (t52.mono (fun b o h => hF59 _ _ (hF57 _ _ (hF56 _ _ h)))))) (LiC.one (sz := 4) rfl (onesW_ror (t57.mono (fun b o h => hF59 _ _ h)))); have c59 := cels_of hb59; replace K := K.mono hF59)
       refine wpList_nil ?_
       refine wpm_eff rfl rfl (kwa S) ?_
       (refine wpl_appendGrow (xs := x25 ++ x28) S rfl rfl rfl rfl rfl rfl (by rfl) (by rw [hlL]; rfl) (by rfl) (Cels.mono (fun b o h => hF59 _ _ (hF57 _ _ (hF56 _ _ (hF52 _ _ (hF51 _ _ (hD6 _ _ h)))))) cL) c59 (by decide) (by decide) (by decide) ?_; clear S a; intro v60 g60 a w hown S; have hF60 := add_le (G1 := []) S; replace S := St.freeze (G1 := []) S; (simp only [List.nil_append] at S hF60); have m60 := LiC.lim hown (LiC.app (lL.mono (fun b o h => hF59 _ _ (hF57 _ _ (hF56 _ _ (hF52 _ _ (hF51 _ _ (hD6 _ _ h))))))) l59) rfl hF60 (by decide); clear hown; obtain ⟨a60, k60, rfl, -, -⟩ := id m60; generalize Heap.add _ g60 = F60 at S hF60 m60; replace K := K.mono hF60)
       refine wpList_nil ?_
       refine wpm_eff rfl rfl (kwa S) ?_
       (refine wc0 S (enRowCt F60 a60 16 k60) ?_; clear S a; intro v61 a w hv S; subst hv)
       refine wpList_nil ?_
       refine wpm_eff rfl rfl (kwa S) ?_
       (refine wso S rfl rfl ?_; clear S; intro w S)
       refine wpList_nil ?_
       refine wpm_nil (kwa S) ?_
       (refine hZ _ _ ?_)
       (replace S := stTwo (St.pullB b6 (St.pullB b7 S)); refine ⟨_, b7, a60, k60, (fun b o h => hF60 _ _ (hF59 _ _ (hF57 _ _ (hF56 _ _ (hF52 _ _ (hF51 _ _ h)))))), K, m60, ?_⟩; (refine S.keep ?_; exact zk))
     skip
     (refine wpl_alloc S rfl rfl rfl rfl ?_; clear S a; intro b7 a w S)
     refine wpList_nil ?_
     refine wpm_eff rfl rfl (kwa S) ?_
     (refine wcF S (enOfFCt F51 16 (by decide) (intV 1) _ r51) ?_; clear S a; intro v52 F52 a w hv hF52 S; obtain ⟨a52, k52, rfl, t52⟩ := hv; replace K := K.mono hF52)
     refine wpList_nil ?_
     refine wpm_eff rfl rfl (kwa S) ?_
     (refine wc0 S (enRowCt F52 a52 16 k52) ?_; clear S a; intro v53 a w hv S; subst hv)
     refine wpList_nil ?_
     refine wpm_eff rfl rfl (kwa S) ?_
     (refine wcF S (lnumCt F52 _) ?_; clear S a; intro v56 F56 a w hv hF56 S; obtain ⟨c56, rfl, -, r56⟩ := hv; obtain ⟨xa56, xb56, he56, -, -⟩ := vac_slc (ror_vac r56); subst he56; replace K := K.mono hF56)
     refine wpList_nil ?_
     refine wpm_eff rfl rfl (kwa S) ?_
     (refine wcF S (enOfFCt F56 5 (by decide) (intV 1) _ r56) ?_; clear S a; intro v57 F57 a w hv hF57 S; obtain ⟨a57, k57, rfl, t57⟩ := hv; replace K := K.mono hF57)
     refine wpList_nil ?_
     refine wpm_eff rfl rfl (kwa S) ?_
     (refine wc0 S (enRowCt F57 a57 5 k57) ?_; clear S a; intro v58 a w hv S; subst hv)
     refine wpList_nil ?_
     refine wpm_eff rfl rfl (kwa S) ?_
     (refine wpl_buildSlice S rfl rfl rfl rfl rfl rfl (by rfl) (by simp [Value.cells, splice]) rfl (by rfl) (by rfl) ?_; clear S a; intro b59 a w hown S; have S' := frz1 S; clear S; obtain ⟨F59, hF59, hb59, S⟩ := S'; have l59 : LiC F59 4 RvR _ [onesW 16, onesW 5] := LiC.app (l := [onesW 16]) (LiC.one (sz := 4) rfl (onesW_ror (t52.mono (fun b o h => hF59 _ _ (hF57 _ _ (hF56 _ _ h)))))) (LiC.one (sz := 4) rfl (onesW_ror (t57.mono (fun b o h => hF59 _ _ h)))); have c59 := cels_of hb59; replace K := K.mono hF59)
     refine wpList_nil ?_
     refine wpm_eff rfl rfl (kwa S) ?_
     (refine wpl_appendGrow (xs := x25 ++ x28) S rfl rfl rfl rfl rfl rfl (by rfl) (by rw [hlL]; rfl) (by rfl) (Cels.mono (fun b o h => hF59 _ _ (hF57 _ _ (hF56 _ _ (hF52 _ _ (hF51 _ _ (hD6 _ _ h)))))) cL) c59 (by decide) (by decide) (by decide) ?_; clear S a; intro v60 g60 a w hown S; have hF60 := add_le (G1 := []) S; replace S := St.freeze (G1 := []) S; (simp only [List.nil_append] at S hF60); have m60 := LiC.lim hown (LiC.app (lL.mono (fun b o h => hF59 _ _ (hF57 _ _ (hF56 _ _ (hF52 _ _ (hF51 _ _ (hD6 _ _ h))))))) l59) rfl hF60 (by decide); clear hown; obtain ⟨a60, k60, rfl, -, -⟩ := id m60; generalize Heap.add _ g60 = F60 at S hF60 m60; replace K := K.mono hF60)
     refine wpList_nil ?_
     refine wpm_eff rfl rfl (kwa S) ?_
     (refine wc0 S (enRowCt F60 a60 16 k60) ?_; clear S a; intro v61 a w hv S; subst hv)
     refine wpList_nil ?_
     refine wpm_eff rfl rfl (kwa S) ?_
     (refine wso S rfl rfl ?_; clear S; intro w S)
     refine wpList_nil ?_
     refine wpm_nil (kwa S) ?_
     (refine hZ _ _ ?_)
     (replace S := stTwo (St.pullB b6 (St.pullB b7 S)); refine ⟨_, b7, a60, k60, (fun b o h => hF60 _ _ (hF59 _ _ (hF57 _ _ (hF56 _ _ (hF52 _ _ (hF51 _ _ h)))))), K, m60, ?_⟩; (refine S.keep ?_; exact zk))
   skip
   (refine wpl_alloc S rfl rfl rfl rfl ?_; clear S a; intro b7 a w S)
   refine wpList_nil ?_
   refine wpm_eff rfl rfl (kwa S) ?_
   (refine wcF S (lnumCt D6 _) ?_; clear S a; intro v51 F51 a w hv hF51 S; obtain ⟨c51, rfl, -, r51⟩ := hv; obtain ⟨xa51, xb51, he51, -, -⟩ := vac_slc (ror_vac r51); subst he51; replace K := K.mono hF51)
   refine wpList_nil ?_
   refine wpm_eff rfl rfl (kwa S) ?_
   (refine wcF S (enOfFCt F51 16 (by decide) (intV 1) _ r51) ?_; clear S a; intro v52 F52 a w hv hF52 S; obtain ⟨a52, k52, rfl, t52⟩ := hv; replace K := K.mono hF52)
   refine wpList_nil ?_
   refine wpm_eff rfl rfl (kwa S) ?_
   (refine wc0 S (enRowCt F52 a52 16 k52) ?_; clear S a; intro v53 a w hv S; subst hv)
   refine wpList_nil ?_
   refine wpm_eff rfl rfl (kwa S) ?_
   (refine wcF S (lnumCt F52 _) ?_; clear S a; intro v56 F56 a w hv hF56 S; obtain ⟨c56, rfl, -, r56⟩ := hv; obtain ⟨xa56, xb56, he56, -, -⟩ := vac_slc (ror_vac r56); subst he56; replace K := K.mono hF56)
   refine wpList_nil ?_
   refine wpm_eff rfl rfl (kwa S) ?_
   (refine wcF S (enOfFCt F56 5 (by decide) (intV 1) _ r56) ?_; clear S a; intro v57 F57 a w hv hF57 S; obtain ⟨a57, k57, rfl, t57⟩ := hv; replace K := K.mono hF57)
   refine wpList_nil ?_
   refine wpm_eff rfl rfl (kwa S) ?_
   (refine wc0 S (enRowCt F57 a57 5 k57) ?_; clear S a; intro v58 a w hv S; subst hv)
   refine wpList_nil ?_
   refine wpm_eff rfl rfl (kwa S) ?_
   (refine wpl_buildSlice S rfl rfl rfl rfl rfl rfl (by rfl) (by simp [Value.cells, splice]) rfl (by rfl) (by rfl) ?_; clear S a; intro b59 a w hown S; have S' := frz1 S; clear S; obtain ⟨F59, hF59, hb59, S⟩ := S'; have l59 : LiC F59 4 RvR _ [onesW 16, onesW 5] := LiC.app (l := [onesW 16]) (LiC.one (sz := 4) rfl (onesW_ror (t52.mono (fun b o h => hF59 _ _ (hF57 _ _ (hF56 _ _ h)))))) (LiC.one (sz := 4) rfl (onesW_ror (t57.mono (fun b o h => hF59 _ _ h)))); have c59 := cels_of hb59; replace K := K.mono hF59)
   refine wpList_nil ?_
   refine wpm_eff rfl rfl (kwa S) ?_
   (refine wpl_appendGrow (xs := x25 ++ x28) S rfl rfl rfl rfl rfl rfl (by rfl) (by rw [hlL]; rfl) (by rfl) (Cels.mono (fun b o h => hF59 _ _ (hF57 _ _ (hF56 _ _ (hF52 _ _ (hF51 _ _ (hD6 _ _ h)))))) cL) c59 (by decide) (by decide) (by decide) ?_; clear S a; intro v60 g60 a w hown S; have hF60 := add_le (G1 := []) S; replace S := St.freeze (G1 := []) S; (simp only [List.nil_append] at S hF60); have m60 := LiC.lim hown (LiC.app (lL.mono (fun b o h => hF59 _ _ (hF57 _ _ (hF56 _ _ (hF52 _ _ (hF51 _ _ (hD6 _ _ h))))))) l59) rfl hF60 (by decide); clear hown; obtain ⟨a60, k60, rfl, -, -⟩ := id m60; generalize Heap.add _ g60 = F60 at S hF60 m60; replace K := K.mono hF60)
   refine wpList_nil ?_
   refine wpm_eff rfl rfl (kwa S) ?_
   (refine wc0 S (enRowCt F60 a60 16 k60) ?_; clear S a; intro v61 a w hv S; subst hv)
   refine wpList_nil ?_
   refine wpm_eff rfl rfl (kwa S) ?_
   (refine wso S rfl rfl ?_; clear S; intro w S)
   refine wpList_nil ?_
   refine wpm_nil (kwa S) ?_
   (refine hZ _ _ ?_)
   (replace S := stTwo (St.pullB b6 (St.pullB b7 S)); refine ⟨_, b7, a60, k60, (fun b o h => hF60 _ _ (hF59 _ _ (hF57 _ _ (hF56 _ _ (hF52 _ _ (hF51 _ _ h)))))), K, m60, ?_⟩; (refine S.keep ?_; exact zk)))
  (refine wpc_mixM [0, 1, 2, 3, 4, 8, 9] [] [] (.one 0 (.one 1 (.one 2 (.one 3 (.one 4 (.one 8 (.one 9 (.two 5 16 (.two 6 16 (.two 7 16 (.two 10 16 (.two 11 16 (.two 12 16 (.two 13 16 (.two 14 16 (.two 15 16 (.one 16 (.one 17 .nil)) (.one 15 (.one 17 .nil))) (.one 14 (.one 15 (.one 17 .nil)))) (.one 13 (.one 14 (.one 15 (.one 17 .nil))))) (.one 12 (.one 13 (.one 14 (.one 15 (.one 17 .nil)))))) (.one 11 (.one 12 (.one 13 (.one 14 (.one 15 (.one 17 .nil))))))) (.one 10 (.one 11 (.one 12 (.one 13 (.one 14 (.one 15 (.one 17 .nil)))))))) (.one 7 (.one 10 (.one 11 (.one 12 (.one 13 (.one 14 (.one 15 (.one 17 .nil))))))))) (.one 6 (.one 7 (.one 10 (.one 11 (.one 12 (.one 13 (.one 14 (.one 15 (.one 17 .nil)))))))))) (.one 5 (.one 6 (.one 7 (.one 10 (.one 11 (.one 12 (.one 13 (.one 14 (.one 15 (.one 17 .nil)))))))))))))))))) [] S mixed (by kernel_rfl) ?_; clear S; intro w S)
  iterate 2 (refine wpm_p S rfl rfl rfl (want_none _ rfl) rfl rfl ?_; clear S a; intro a S)
  (refine wpm_v S rfl rfl rfl (want_none _ rfl) rfl rfl (fun w' S => sv_sliceSl_hm (i := 14) (j := 14) S rfl rfl rfl rfl (by decide) (by have := hkL; omega)) ?_; clear S a; intro a S)
  iterate 4 (refine wpm_p S rfl rfl rfl (want_none _ rfl) rfl rfl ?_; clear S a; intro a S)
  refine wpm_two rfl rfl (kwa S) ?_ ?_
  · skip
    (refine wcF S (lnumCt E29 _) ?_; clear S a; intro v35 F35 a w hv hF35 S; obtain ⟨c35, rfl, -, r35⟩ := hv; obtain ⟨xa35, xb35, he35, -, -⟩ := vac_slc (ror_vac r35); subst he35; replace K := K.mono hF35)
    refine wpList_nil ?_
    refine wpm_two rfl rfl (kwa S) ?_ ?_
    · skip
      (refine wcF S (enOfFCt F35 16 (by decide) (intV 1) _ r35) ?_; clear S a; intro v36 F36 a w hv hF36 S; obtain ⟨a36, k36, rfl, t36⟩ := hv; replace K := K.mono hF36)
      refine wpList_nil ?_
      refine wpm_two rfl rfl (kwa S) ?_ ?_
      · skip
        (refine wc0 S (enRowCt F36 a36 16 k36) ?_; clear S a; intro v37 a w hv S; subst hv)
        refine wpList_nil ?_
        refine wpm_two rfl rfl (kwa S) ?_ ?_
        · skip
          (refine wcF S (lnumCt F36 _) ?_; clear S a; intro v40 F40 a w hv hF40 S; obtain ⟨c40, rfl, -, r40⟩ := hv; obtain ⟨xa40, xb40, he40, -, -⟩ := vac_slc (ror_vac r40); subst he40; replace K := K.mono hF40)
          refine wpList_nil ?_
          refine wpm_two rfl rfl (kwa S) ?_ ?_
          · skip
            (refine wcF S (enOfFCt F40 4 (by decide) (intV 1) _ r40) ?_; clear S a; intro v41 F41 a w hv hF41 S; obtain ⟨a41, k41, rfl, t41⟩ := hv; replace K := K.mono hF41)
            refine wpList_nil ?_
            refine wpm_two rfl rfl (kwa S) ?_ ?_
            · skip
              (refine wc0 S (enRowCt F41 a41 4 k41) ?_; clear S a; intro v42 a w hv S; subst hv)
              refine wpList_nil ?_
              refine wpm_two rfl rfl (kwa S) ?_ ?_
              · skip
                (refine wpl_buildSlice S rfl rfl rfl rfl rfl rfl (by rfl) (by simp [Value.cells, splice]) rfl (by rfl) (by rfl) ?_; clear S a; intro b43 a w hown S; have S' := frz1 S; clear S; obtain ⟨F43, hF43, hb43, S⟩ := S'; have l43 : LiC F43 4 RvR _ [onesW 16, onesW 4] := LiC.app (l := [onesW 16]) (LiC.one (sz := 4) rfl (onesW_ror (t36.mono (fun b o h => hF43 _ _ (hF41 _ _ (hF40 _ _ h)))))) (LiC.one (sz := 4) rfl (onesW_ror (t41.mono (fun b o h => hF43 _ _ h)))); have c43 := cels_of hb43; replace K := K.mono hF43)
                refine wpList_nil ?_
                refine wpm_two rfl rfl (kwa S) ?_ ?_
                · skip
                  (refine wpl_appendGrow (xs := x25 ++ x28) S rfl rfl rfl rfl rfl rfl (by rfl) (by rw [hlL]; rfl) (by rfl) (Cels.mono (fun b o h => hF43 _ _ (hF41 _ _ (hF40 _ _ (hF36 _ _ (hF35 _ _ h))))) cL) c43 (by decide) (by decide) (by decide) ?_; clear S a; intro v44 g44 a w hown S; have hF44 := add_le (G1 := []) S; replace S := St.freeze (G1 := []) S; (simp only [List.nil_append] at S hF44); have m44 := LiC.lim hown (LiC.app (lL.mono (fun b o h => hF43 _ _ (hF41 _ _ (hF40 _ _ (hF36 _ _ (hF35 _ _ h)))))) l43) rfl hF44 (by decide); clear hown; obtain ⟨a44, k44, rfl, -, -⟩ := id m44; generalize Heap.add _ g44 = F44 at S hF44 m44; replace K := K.mono hF44)
                  refine wpList_nil ?_
                  refine wpm_two rfl rfl (kwa S) ?_ ?_
                  · skip
                    (refine wc0 S (enRowCt F44 a44 16 k44) ?_; clear S a; intro v45 a w hv S; subst hv)
                    refine wpList_nil ?_
                    refine wpm_eff rfl rfl (kwa S) ?_
                    (refine wpl_alloc S rfl rfl rfl rfl ?_; clear S a; intro b6 a w S)
                    refine wpList_nil ?_
                    refine wpm_eff rfl rfl (kwa S) ?_
                    (refine wso S rfl rfl ?_; clear S; intro w S)
                    refine wpList_nil ?_
                    refine wpm_nil (kwa S) ?_
                    (refine hZ _ _ ?_)
                    (replace S := stOne (St.pullB b6 S); refine ⟨_, b6, a44, k44, (fun b o h => hF44 _ _ (hF43 _ _ (hF41 _ _ (hF40 _ _ (hF36 _ _ (hF35 _ _ h)))))), K, m44, ?_⟩; (refine S.keep ?_; exact zk))
                  skip
                  (refine wpl_alloc S rfl rfl rfl rfl ?_; clear S a; intro b6 a w S)
                  refine wpList_nil ?_
                  refine wpm_eff rfl rfl (kwa S) ?_
                  (refine wc0 S (enRowCt F44 a44 16 k44) ?_; clear S a; intro v45 a w hv S; subst hv)
                  refine wpList_nil ?_
                  refine wpm_eff rfl rfl (kwa S) ?_
                  (refine wso S rfl rfl ?_; clear S; intro w S)
                  refine wpList_nil ?_
                  refine wpm_nil (kwa S) ?_
                  (refine hZ _ _ ?_)
                  (replace S := stOne (St.pullB b6 S); refine ⟨_, b6, a44, k44, (fun b o h => hF44 _ _ (hF43 _ _ (hF41 _ _ (hF40 _ _ (hF36 _ _ (hF35 _ _ h)))))), K, m44, ?_⟩; (refine S.keep ?_; exact zk))
                skip
                (refine wpl_alloc S rfl rfl rfl rfl ?_; clear S a; intro b6 a w S)
                refine wpList_nil ?_
                refine wpm_eff rfl rfl (kwa S) ?_
                (refine wpl_appendGrow (xs := x25 ++ x28) S rfl rfl rfl rfl rfl rfl (by rfl) (by rw [hlL]; rfl) (by rfl) (Cels.mono (fun b o h => hF43 _ _ (hF41 _ _ (hF40 _ _ (hF36 _ _ (hF35 _ _ h))))) cL) c43 (by decide) (by decide) (by decide) ?_; clear S a; intro v44 g44 a w hown S; have hF44 := add_le (G1 := []) S; replace S := St.freeze (G1 := []) S; (simp only [List.nil_append] at S hF44); have m44 := LiC.lim hown (LiC.app (lL.mono (fun b o h => hF43 _ _ (hF41 _ _ (hF40 _ _ (hF36 _ _ (hF35 _ _ h)))))) l43) rfl hF44 (by decide); clear hown; obtain ⟨a44, k44, rfl, -, -⟩ := id m44; generalize Heap.add _ g44 = F44 at S hF44 m44; replace K := K.mono hF44)
                refine wpList_nil ?_
                refine wpm_eff rfl rfl (kwa S) ?_
                (refine wc0 S (enRowCt F44 a44 16 k44) ?_; clear S a; intro v45 a w hv S; subst hv)
                refine wpList_nil ?_
                refine wpm_eff rfl rfl (kwa S) ?_
                (refine wso S rfl rfl ?_; clear S; intro w S)
                refine wpList_nil ?_
                refine wpm_nil (kwa S) ?_
                (refine hZ _ _ ?_)
                (replace S := stOne (St.pullB b6 S); refine ⟨_, b6, a44, k44, (fun b o h => hF44 _ _ (hF43 _ _ (hF41 _ _ (hF40 _ _ (hF36 _ _ (hF35 _ _ h)))))), K, m44, ?_⟩; (refine S.keep ?_; exact zk))
              skip
              (refine wpl_alloc S rfl rfl rfl rfl ?_; clear S a; intro b6 a w S)
              refine wpList_nil ?_
              refine wpm_eff rfl rfl (kwa S) ?_
              (refine wpl_buildSlice S rfl rfl rfl rfl rfl rfl (by rfl) (by simp [Value.cells, splice]) rfl (by rfl) (by rfl) ?_; clear S a; intro b43 a w hown S; have S' := frz1 S; clear S; obtain ⟨F43, hF43, hb43, S⟩ := S'; have l43 : LiC F43 4 RvR _ [onesW 16, onesW 4] := LiC.app (l := [onesW 16]) (LiC.one (sz := 4) rfl (onesW_ror (t36.mono (fun b o h => hF43 _ _ (hF41 _ _ (hF40 _ _ h)))))) (LiC.one (sz := 4) rfl (onesW_ror (t41.mono (fun b o h => hF43 _ _ h)))); have c43 := cels_of hb43; replace K := K.mono hF43)
              refine wpList_nil ?_
              refine wpm_eff rfl rfl (kwa S) ?_
              (refine wpl_appendGrow (xs := x25 ++ x28) S rfl rfl rfl rfl rfl rfl (by rfl) (by rw [hlL]; rfl) (by rfl) (Cels.mono (fun b o h => hF43 _ _ (hF41 _ _ (hF40 _ _ (hF36 _ _ (hF35 _ _ h))))) cL) c43 (by decide) (by decide) (by decide) ?_; clear S a; intro v44 g44 a w hown S; have hF44 := add_le (G1 := []) S; replace S := St.freeze (G1 := []) S; (simp only [List.nil_append] at S hF44); have m44 := LiC.lim hown (LiC.app (lL.mono (fun b o h => hF43 _ _ (hF41 _ _ (hF40 _ _ (hF36 _ _ (hF35 _ _ h)))))) l43) rfl hF44 (by decide); clear hown; obtain ⟨a44, k44, rfl, -, -⟩ := id m44; generalize Heap.add _ g44 = F44 at S hF44 m44; replace K := K.mono hF44)
              refine wpList_nil ?_
              refine wpm_eff rfl rfl (kwa S) ?_
              (refine wc0 S (enRowCt F44 a44 16 k44) ?_; clear S a; intro v45 a w hv S; subst hv)
              refine wpList_nil ?_
              refine wpm_eff rfl rfl (kwa S) ?_
              (refine wso S rfl rfl ?_; clear S; intro w S)
              refine wpList_nil ?_
              refine wpm_nil (kwa S) ?_
              (refine hZ _ _ ?_)
              (replace S := stOne (St.pullB b6 S); refine ⟨_, b6, a44, k44, (fun b o h => hF44 _ _ (hF43 _ _ (hF41 _ _ (hF40 _ _ (hF36 _ _ (hF35 _ _ h)))))), K, m44, ?_⟩; (refine S.keep ?_; exact zk))
            skip
            (refine wpl_alloc S rfl rfl rfl rfl ?_; clear S a; intro b6 a w S)
            refine wpList_nil ?_
            refine wpm_eff rfl rfl (kwa S) ?_
            (refine wc0 S (enRowCt F41 a41 4 k41) ?_; clear S a; intro v42 a w hv S; subst hv)
            refine wpList_nil ?_
            refine wpm_eff rfl rfl (kwa S) ?_
            (refine wpl_buildSlice S rfl rfl rfl rfl rfl rfl (by rfl) (by simp [Value.cells, splice]) rfl (by rfl) (by rfl) ?_; clear S a; intro b43 a w hown S; have S' := frz1 S; clear S; obtain ⟨F43, hF43, hb43, S⟩ := S'; have l43 : LiC F43 4 RvR _ [onesW 16, onesW 4] := LiC.app (l := [onesW 16]) (LiC.one (sz := 4) rfl (onesW_ror (t36.mono (fun b o h => hF43 _ _ (hF41 _ _ (hF40 _ _ h)))))) (LiC.one (sz := 4) rfl (onesW_ror (t41.mono (fun b o h => hF43 _ _ h)))); have c43 := cels_of hb43; replace K := K.mono hF43)
            refine wpList_nil ?_
            refine wpm_eff rfl rfl (kwa S) ?_
            (refine wpl_appendGrow (xs := x25 ++ x28) S rfl rfl rfl rfl rfl rfl (by rfl) (by rw [hlL]; rfl) (by rfl) (Cels.mono (fun b o h => hF43 _ _ (hF41 _ _ (hF40 _ _ (hF36 _ _ (hF35 _ _ h))))) cL) c43 (by decide) (by decide) (by decide) ?_; clear S a; intro v44 g44 a w hown S; have hF44 := add_le (G1 := []) S; replace S := St.freeze (G1 := []) S; (simp only [List.nil_append] at S hF44); have m44 := LiC.lim hown (LiC.app (lL.mono (fun b o h => hF43 _ _ (hF41 _ _ (hF40 _ _ (hF36 _ _ (hF35 _ _ h)))))) l43) rfl hF44 (by decide); clear hown; obtain ⟨a44, k44, rfl, -, -⟩ := id m44; generalize Heap.add _ g44 = F44 at S hF44 m44; replace K := K.mono hF44)
            refine wpList_nil ?_
            refine wpm_eff rfl rfl (kwa S) ?_
            (refine wc0 S (enRowCt F44 a44 16 k44) ?_; clear S a; intro v45 a w hv S; subst hv)
            refine wpList_nil ?_
            refine wpm_eff rfl rfl (kwa S) ?_
            (refine wso S rfl rfl ?_; clear S; intro w S)
            refine wpList_nil ?_
            refine wpm_nil (kwa S) ?_
            (refine hZ _ _ ?_)
            (replace S := stOne (St.pullB b6 S); refine ⟨_, b6, a44, k44, (fun b o h => hF44 _ _ (hF43 _ _ (hF41 _ _ (hF40 _ _ (hF36 _ _ (hF35 _ _ h)))))), K, m44, ?_⟩; (refine S.keep ?_; exact zk))
          skip
          (refine wpl_alloc S rfl rfl rfl rfl ?_; clear S a; intro b6 a w S)
          refine wpList_nil ?_
          refine wpm_eff rfl rfl (kwa S) ?_
          (refine wcF S (enOfFCt F40 4 (by decide) (intV 1) _ r40) ?_; clear S a; intro v41 F41 a w hv hF41 S; obtain ⟨a41, k41, rfl, t41⟩ := hv; replace K := K.mono hF41)
          refine wpList_nil ?_
          refine wpm_eff rfl rfl (kwa S) ?_
          (refine wc0 S (enRowCt F41 a41 4 k41) ?_; clear S a; intro v42 a w hv S; subst hv)
          refine wpList_nil ?_
          refine wpm_eff rfl rfl (kwa S) ?_
          (refine wpl_buildSlice S rfl rfl rfl rfl rfl rfl (by rfl) (by simp [Value.cells, splice]) rfl (by rfl) (by rfl) ?_; clear S a; intro b43 a w hown S; have S' := frz1 S; clear S; obtain ⟨F43, hF43, hb43, S⟩ := S'; have l43 : LiC F43 4 RvR _ [onesW 16, onesW 4] := LiC.app (l := [onesW 16]) (LiC.one (sz := 4) rfl (onesW_ror (t36.mono (fun b o h => hF43 _ _ (hF41 _ _ (hF40 _ _ h)))))) (LiC.one (sz := 4) rfl (onesW_ror (t41.mono (fun b o h => hF43 _ _ h)))); have c43 := cels_of hb43; replace K := K.mono hF43)
          refine wpList_nil ?_
          refine wpm_eff rfl rfl (kwa S) ?_
          (refine wpl_appendGrow (xs := x25 ++ x28) S rfl rfl rfl rfl rfl rfl (by rfl) (by rw [hlL]; rfl) (by rfl) (Cels.mono (fun b o h => hF43 _ _ (hF41 _ _ (hF40 _ _ (hF36 _ _ (hF35 _ _ h))))) cL) c43 (by decide) (by decide) (by decide) ?_; clear S a; intro v44 g44 a w hown S; have hF44 := add_le (G1 := []) S; replace S := St.freeze (G1 := []) S; (simp only [List.nil_append] at S hF44); have m44 := LiC.lim hown (LiC.app (lL.mono (fun b o h => hF43 _ _ (hF41 _ _ (hF40 _ _ (hF36 _ _ (hF35 _ _ h)))))) l43) rfl hF44 (by decide); clear hown; obtain ⟨a44, k44, rfl, -, -⟩ := id m44; generalize Heap.add _ g44 = F44 at S hF44 m44; replace K := K.mono hF44)
          refine wpList_nil ?_
          refine wpm_eff rfl rfl (kwa S) ?_
          (refine wc0 S (enRowCt F44 a44 16 k44) ?_; clear S a; intro v45 a w hv S; subst hv)
          refine wpList_nil ?_
          refine wpm_eff rfl rfl (kwa S) ?_
          (refine wso S rfl rfl ?_; clear S; intro w S)
          refine wpList_nil ?_
          refine wpm_nil (kwa S) ?_
          (refine hZ _ _ ?_)
          (replace S := stOne (St.pullB b6 S); refine ⟨_, b6, a44, k44, (fun b o h => hF44 _ _ (hF43 _ _ (hF41 _ _ (hF40 _ _ (hF36 _ _ (hF35 _ _ h)))))), K, m44, ?_⟩; (refine S.keep ?_; exact zk))
        skip
        (refine wpl_alloc S rfl rfl rfl rfl ?_; clear S a; intro b6 a w S)
        refine wpList_nil ?_
        refine wpm_eff rfl rfl (kwa S) ?_
        (refine wcF S (lnumCt F36 _) ?_; clear S a; intro v40 F40 a w hv hF40 S; obtain ⟨c40, rfl, -, r40⟩ := hv; obtain ⟨xa40, xb40, he40, -, -⟩ := vac_slc (ror_vac r40); subst he40; replace K := K.mono hF40)
        refine wpList_nil ?_
        refine wpm_eff rfl rfl (kwa S) ?_
        (refine wcF S (enOfFCt F40 4 (by decide) (intV 1) _ r40) ?_; clear S a; intro v41 F41 a w hv hF41 S; obtain ⟨a41, k41, rfl, t41⟩ := hv; replace K := K.mono hF41)
        refine wpList_nil ?_
        refine wpm_eff rfl rfl (kwa S) ?_
        (refine wc0 S (enRowCt F41 a41 4 k41) ?_; clear S a; intro v42 a w hv S; subst hv)
        refine wpList_nil ?_
        refine wpm_eff rfl rfl (kwa S) ?_
        (refine wpl_buildSlice S rfl rfl rfl rfl rfl rfl (by rfl) (by simp [Value.cells, splice]) rfl (by rfl) (by rfl) ?_; clear S a; intro b43 a w hown S; have S' := frz1 S; clear S; obtain ⟨F43, hF43, hb43, S⟩ := S'; have l43 : LiC F43 4 RvR _ [onesW 16, onesW 4] := LiC.app (l := [onesW 16]) (LiC.one (sz := 4) rfl (onesW_ror (t36.mono (fun b o h => hF43 _ _ (hF41 _ _ (hF40 _ _ h)))))) (LiC.one (sz := 4) rfl (onesW_ror (t41.mono (fun b o h => hF43 _ _ h)))); have c43 := cels_of hb43; replace K := K.mono hF43)
        refine wpList_nil ?_
        refine wpm_eff rfl rfl (kwa S) ?_
        (refine wpl_appendGrow (xs := x25 ++ x28) S rfl rfl rfl rfl rfl rfl (by rfl) (by rw [hlL]; rfl) (by rfl) (Cels.mono (fun b o h => hF43 _ _ (hF41 _ _ (hF40 _ _ (hF36 _ _ (hF35 _ _ h))))) cL) c43 (by decide) (by decide) (by decide) ?_; clear S a; intro v44 g44 a w hown S; have hF44 := add_le (G1 := []) S; replace S := St.freeze (G1 := []) S; (simp only [List.nil_append] at S hF44); have m44 := LiC.lim hown (LiC.app (lL.mono (fun b o h => hF43 _ _ (hF41 _ _ (hF40 _ _ (hF36 _ _ (hF35 _ _ h)))))) l43) rfl hF44 (by decide); clear hown; obtain ⟨a44, k44, rfl, -, -⟩ := id m44; generalize Heap.add _ g44 = F44 at S hF44 m44; replace K := K.mono hF44)
        refine wpList_nil ?_
        refine wpm_eff rfl rfl (kwa S) ?_
        (refine wc0 S (enRowCt F44 a44 16 k44) ?_; clear S a; intro v45 a w hv S; subst hv)
        refine wpList_nil ?_
        refine wpm_eff rfl rfl (kwa S) ?_
        (refine wso S rfl rfl ?_; clear S; intro w S)
        refine wpList_nil ?_
        refine wpm_nil (kwa S) ?_
        (refine hZ _ _ ?_)
        (replace S := stOne (St.pullB b6 S); refine ⟨_, b6, a44, k44, (fun b o h => hF44 _ _ (hF43 _ _ (hF41 _ _ (hF40 _ _ (hF36 _ _ (hF35 _ _ h)))))), K, m44, ?_⟩; (refine S.keep ?_; exact zk))
      skip
      (refine wpl_alloc S rfl rfl rfl rfl ?_; clear S a; intro b6 a w S)
      refine wpList_nil ?_
      refine wpm_eff rfl rfl (kwa S) ?_
      (refine wc0 S (enRowCt F36 a36 16 k36) ?_; clear S a; intro v37 a w hv S; subst hv)
      refine wpList_nil ?_
      refine wpm_eff rfl rfl (kwa S) ?_
      (refine wcF S (lnumCt F36 _) ?_; clear S a; intro v40 F40 a w hv hF40 S; obtain ⟨c40, rfl, -, r40⟩ := hv; obtain ⟨xa40, xb40, he40, -, -⟩ := vac_slc (ror_vac r40); subst he40; replace K := K.mono hF40)
      refine wpList_nil ?_
      refine wpm_eff rfl rfl (kwa S) ?_
      (refine wcF S (enOfFCt F40 4 (by decide) (intV 1) _ r40) ?_; clear S a; intro v41 F41 a w hv hF41 S; obtain ⟨a41, k41, rfl, t41⟩ := hv; replace K := K.mono hF41)
      refine wpList_nil ?_
      refine wpm_eff rfl rfl (kwa S) ?_
      (refine wc0 S (enRowCt F41 a41 4 k41) ?_; clear S a; intro v42 a w hv S; subst hv)
      refine wpList_nil ?_
      refine wpm_eff rfl rfl (kwa S) ?_
      (refine wpl_buildSlice S rfl rfl rfl rfl rfl rfl (by rfl) (by simp [Value.cells, splice]) rfl (by rfl) (by rfl) ?_; clear S a; intro b43 a w hown S; have S' := frz1 S; clear S; obtain ⟨F43, hF43, hb43, S⟩ := S'; have l43 : LiC F43 4 RvR _ [onesW 16, onesW 4] := LiC.app (l := [onesW 16]) (LiC.one (sz := 4) rfl (onesW_ror (t36.mono (fun b o h => hF43 _ _ (hF41 _ _ (hF40 _ _ h)))))) (LiC.one (sz := 4) rfl (onesW_ror (t41.mono (fun b o h => hF43 _ _ h)))); have c43 := cels_of hb43; replace K := K.mono hF43)
      refine wpList_nil ?_
      refine wpm_eff rfl rfl (kwa S) ?_
      (refine wpl_appendGrow (xs := x25 ++ x28) S rfl rfl rfl rfl rfl rfl (by rfl) (by rw [hlL]; rfl) (by rfl) (Cels.mono (fun b o h => hF43 _ _ (hF41 _ _ (hF40 _ _ (hF36 _ _ (hF35 _ _ h))))) cL) c43 (by decide) (by decide) (by decide) ?_; clear S a; intro v44 g44 a w hown S; have hF44 := add_le (G1 := []) S; replace S := St.freeze (G1 := []) S; (simp only [List.nil_append] at S hF44); have m44 := LiC.lim hown (LiC.app (lL.mono (fun b o h => hF43 _ _ (hF41 _ _ (hF40 _ _ (hF36 _ _ (hF35 _ _ h)))))) l43) rfl hF44 (by decide); clear hown; obtain ⟨a44, k44, rfl, -, -⟩ := id m44; generalize Heap.add _ g44 = F44 at S hF44 m44; replace K := K.mono hF44)
      refine wpList_nil ?_
      refine wpm_eff rfl rfl (kwa S) ?_
      (refine wc0 S (enRowCt F44 a44 16 k44) ?_; clear S a; intro v45 a w hv S; subst hv)
      refine wpList_nil ?_
      refine wpm_eff rfl rfl (kwa S) ?_
      (refine wso S rfl rfl ?_; clear S; intro w S)
      refine wpList_nil ?_
      refine wpm_nil (kwa S) ?_
      (refine hZ _ _ ?_)
      (replace S := stOne (St.pullB b6 S); refine ⟨_, b6, a44, k44, (fun b o h => hF44 _ _ (hF43 _ _ (hF41 _ _ (hF40 _ _ (hF36 _ _ (hF35 _ _ h)))))), K, m44, ?_⟩; (refine S.keep ?_; exact zk))
    skip
    (refine wpl_alloc S rfl rfl rfl rfl ?_; clear S a; intro b6 a w S)
    refine wpList_nil ?_
    refine wpm_eff rfl rfl (kwa S) ?_
    (refine wcF S (enOfFCt F35 16 (by decide) (intV 1) _ r35) ?_; clear S a; intro v36 F36 a w hv hF36 S; obtain ⟨a36, k36, rfl, t36⟩ := hv; replace K := K.mono hF36)
    refine wpList_nil ?_
    refine wpm_eff rfl rfl (kwa S) ?_
    (refine wc0 S (enRowCt F36 a36 16 k36) ?_; clear S a; intro v37 a w hv S; subst hv)
    refine wpList_nil ?_
    refine wpm_eff rfl rfl (kwa S) ?_
    (refine wcF S (lnumCt F36 _) ?_; clear S a; intro v40 F40 a w hv hF40 S; obtain ⟨c40, rfl, -, r40⟩ := hv; obtain ⟨xa40, xb40, he40, -, -⟩ := vac_slc (ror_vac r40); subst he40; replace K := K.mono hF40)
    refine wpList_nil ?_
    refine wpm_eff rfl rfl (kwa S) ?_
    (refine wcF S (enOfFCt F40 4 (by decide) (intV 1) _ r40) ?_; clear S a; intro v41 F41 a w hv hF41 S; obtain ⟨a41, k41, rfl, t41⟩ := hv; replace K := K.mono hF41)
    refine wpList_nil ?_
    refine wpm_eff rfl rfl (kwa S) ?_
    (refine wc0 S (enRowCt F41 a41 4 k41) ?_; clear S a; intro v42 a w hv S; subst hv)
    refine wpList_nil ?_
    refine wpm_eff rfl rfl (kwa S) ?_
    (refine wpl_buildSlice S rfl rfl rfl rfl rfl rfl (by rfl) (by simp [Value.cells, splice]) rfl (by rfl) (by rfl) ?_; clear S a; intro b43 a w hown S; have S' := frz1 S; clear S; obtain ⟨F43, hF43, hb43, S⟩ := S'; have l43 : LiC F43 4 RvR _ [onesW 16, onesW 4] := LiC.app (l := [onesW 16]) (LiC.one (sz := 4) rfl (onesW_ror (t36.mono (fun b o h => hF43 _ _ (hF41 _ _ (hF40 _ _ h)))))) (LiC.one (sz := 4) rfl (onesW_ror (t41.mono (fun b o h => hF43 _ _ h)))); have c43 := cels_of hb43; replace K := K.mono hF43)
    refine wpList_nil ?_
    refine wpm_eff rfl rfl (kwa S) ?_
    (refine wpl_appendGrow (xs := x25 ++ x28) S rfl rfl rfl rfl rfl rfl (by rfl) (by rw [hlL]; rfl) (by rfl) (Cels.mono (fun b o h => hF43 _ _ (hF41 _ _ (hF40 _ _ (hF36 _ _ (hF35 _ _ h))))) cL) c43 (by decide) (by decide) (by decide) ?_; clear S a; intro v44 g44 a w hown S; have hF44 := add_le (G1 := []) S; replace S := St.freeze (G1 := []) S; (simp only [List.nil_append] at S hF44); have m44 := LiC.lim hown (LiC.app (lL.mono (fun b o h => hF43 _ _ (hF41 _ _ (hF40 _ _ (hF36 _ _ (hF35 _ _ h)))))) l43) rfl hF44 (by decide); clear hown; obtain ⟨a44, k44, rfl, -, -⟩ := id m44; generalize Heap.add _ g44 = F44 at S hF44 m44; replace K := K.mono hF44)
    refine wpList_nil ?_
    refine wpm_eff rfl rfl (kwa S) ?_
    (refine wc0 S (enRowCt F44 a44 16 k44) ?_; clear S a; intro v45 a w hv S; subst hv)
    refine wpList_nil ?_
    refine wpm_eff rfl rfl (kwa S) ?_
    (refine wso S rfl rfl ?_; clear S; intro w S)
    refine wpList_nil ?_
    refine wpm_nil (kwa S) ?_
    (refine hZ _ _ ?_)
    (replace S := stOne (St.pullB b6 S); refine ⟨_, b6, a44, k44, (fun b o h => hF44 _ _ (hF43 _ _ (hF41 _ _ (hF40 _ _ (hF36 _ _ (hF35 _ _ h)))))), K, m44, ?_⟩; (refine S.keep ?_; exact zk))
  skip
  (refine wpl_alloc S rfl rfl rfl rfl ?_; clear S a; intro b6 a w S)
  refine wpList_nil ?_
  refine wpm_eff rfl rfl (kwa S) ?_
  (refine wcF S (lnumCt E29 _) ?_; clear S a; intro v35 F35 a w hv hF35 S; obtain ⟨c35, rfl, -, r35⟩ := hv; obtain ⟨xa35, xb35, he35, -, -⟩ := vac_slc (ror_vac r35); subst he35; replace K := K.mono hF35)
  refine wpList_nil ?_
  refine wpm_eff rfl rfl (kwa S) ?_
  (refine wcF S (enOfFCt F35 16 (by decide) (intV 1) _ r35) ?_; clear S a; intro v36 F36 a w hv hF36 S; obtain ⟨a36, k36, rfl, t36⟩ := hv; replace K := K.mono hF36)
  refine wpList_nil ?_
  refine wpm_eff rfl rfl (kwa S) ?_
  (refine wc0 S (enRowCt F36 a36 16 k36) ?_; clear S a; intro v37 a w hv S; subst hv)
  refine wpList_nil ?_
  refine wpm_eff rfl rfl (kwa S) ?_
  (refine wcF S (lnumCt F36 _) ?_; clear S a; intro v40 F40 a w hv hF40 S; obtain ⟨c40, rfl, -, r40⟩ := hv; obtain ⟨xa40, xb40, he40, -, -⟩ := vac_slc (ror_vac r40); subst he40; replace K := K.mono hF40)
  refine wpList_nil ?_
  refine wpm_eff rfl rfl (kwa S) ?_
  (refine wcF S (enOfFCt F40 4 (by decide) (intV 1) _ r40) ?_; clear S a; intro v41 F41 a w hv hF41 S; obtain ⟨a41, k41, rfl, t41⟩ := hv; replace K := K.mono hF41)
  refine wpList_nil ?_
  refine wpm_eff rfl rfl (kwa S) ?_
  (refine wc0 S (enRowCt F41 a41 4 k41) ?_; clear S a; intro v42 a w hv S; subst hv)
  refine wpList_nil ?_
  refine wpm_eff rfl rfl (kwa S) ?_
  (refine wpl_buildSlice S rfl rfl rfl rfl rfl rfl (by rfl) (by simp [Value.cells, splice]) rfl (by rfl) (by rfl) ?_; clear S a; intro b43 a w hown S; have S' := frz1 S; clear S; obtain ⟨F43, hF43, hb43, S⟩ := S'; have l43 : LiC F43 4 RvR _ [onesW 16, onesW 4] := LiC.app (l := [onesW 16]) (LiC.one (sz := 4) rfl (onesW_ror (t36.mono (fun b o h => hF43 _ _ (hF41 _ _ (hF40 _ _ h)))))) (LiC.one (sz := 4) rfl (onesW_ror (t41.mono (fun b o h => hF43 _ _ h)))); have c43 := cels_of hb43; replace K := K.mono hF43)
  refine wpList_nil ?_
  refine wpm_eff rfl rfl (kwa S) ?_
  (refine wpl_appendGrow (xs := x25 ++ x28) S rfl rfl rfl rfl rfl rfl (by rfl) (by rw [hlL]; rfl) (by rfl) (Cels.mono (fun b o h => hF43 _ _ (hF41 _ _ (hF40 _ _ (hF36 _ _ (hF35 _ _ h))))) cL) c43 (by decide) (by decide) (by decide) ?_; clear S a; intro v44 g44 a w hown S; have hF44 := add_le (G1 := []) S; replace S := St.freeze (G1 := []) S; (simp only [List.nil_append] at S hF44); have m44 := LiC.lim hown (LiC.app (lL.mono (fun b o h => hF43 _ _ (hF41 _ _ (hF40 _ _ (hF36 _ _ (hF35 _ _ h)))))) l43) rfl hF44 (by decide); clear hown; obtain ⟨a44, k44, rfl, -, -⟩ := id m44; generalize Heap.add _ g44 = F44 at S hF44 m44; replace K := K.mono hF44)
  refine wpList_nil ?_
  refine wpm_eff rfl rfl (kwa S) ?_
  (refine wc0 S (enRowCt F44 a44 16 k44) ?_; clear S a; intro v45 a w hv S; subst hv)
  refine wpList_nil ?_
  refine wpm_eff rfl rfl (kwa S) ?_
  (refine wso S rfl rfl ?_; clear S; intro w S)
  refine wpList_nil ?_
  refine wpm_nil (kwa S) ?_
  (refine hZ _ _ ?_)
  (replace S := stOne (St.pullB b6 S); refine ⟨_, b6, a44, k44, (fun b o h => hF44 _ _ (hF43 _ _ (hF41 _ _ (hF40 _ _ (hF36 _ _ (hF35 _ _ h)))))), K, m44, ?_⟩; (refine S.keep ?_; exact zk))
end Go.Proofs.YtgefmjghdijbfaaGreatDoor
