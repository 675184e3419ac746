/- Walks. -/
import Derived.Test.YtgefmjghdijbfaaGreatDoorKEvalNames10
import Derived.Test.YtgefmjghdijbfaaGreatDoorKEvalNames01
import Derived.Test.YtgefmjghdijbfaaGreatDoorKEvalNames05
import Derived.Test.YtgefmjghdijbfaaGreatDoorQ26
set_option maxHeartbeats 4000000
namespace Go.Proofs.YtgefmjghdijbfaaGreatDoor
open Go Go.Wk Go.Un Go.De Go.Num
set_option linter.unusedSimpArgs false
set_option linter.unusedVariables false
attribute [local irreducible] Go.wpList Go.Code.wp Go.wpStill Go.Wk.wpPre Go.bodyPost Go.Calls Go.Wk.Ct Go.Wk.OwnS Go.Wk.wpG Go.Wk.wpM
def nin (n : Nat) : List UInt8 := List.replicate n 57
theorem nin_step {n i : Nat} (hi : i < n) : ((List.replicate i (Value.int .u8 57) ++ List.replicate (n - i) (Value.int .u8 0)) : List Value).set i (.int .u8 57) = List.replicate (i + 1) (Value.int .u8 57) ++ List.replicate (n - (i + 1)) (Value.int .u8 0) := by
 rw [List.set_append_right _ _ (by simp), List.length_replicate, Nat.sub_self, show n - i = (n - (i + 1)) + 1 by omega, List.replicate_succ, List.set_cons_zero, List.replicate_succ', List.append_assoc]; rfl
theorem ninesCt (n : Nat) (F : Heap) (hn : n ≤ 1000) : Ct Tryz.prog 18 [.int .i64 (n : Int)] F [] (fun _ _ u => u = .string (bs (nin n))) := by
 refine Ct.enter Tryz.func18 rfl Tryz.ntmps18 rfl fun w0 a S => ?_
 (revert S a; refine go 6 ?_; intro Z hZ a S)
 (refine wpl_makeSlice (q := n) S rfl rfl rfl rfl rfl rfl rfl (by omega) (by omega) ?_; clear S a; intro b a w hown S)
 (revert S a; revert hZ Z; refine go 9 ?_; intro Z hZ a S)
 refine wpc_loop (fun m a w' => ∃ (i : Nat) (g : Grp), m = n - i ∧ i ≤ n ∧ OwnS 5 1 (.slice (some ⟨b, 0, none⟩) n n) n (List.replicate i (Value.int .u8 57) ++ List.replicate (n - i) (Value.int .u8 0)) g ∧ St 17 [(0, .int .i64 (n : Int)), (3, .slice (some ⟨b, 0, none⟩) n n), (4, .int .i64 (i : Int))] w0 F [] F [g] a w') ?_ ?_
 ·(refine ⟨n, 0, _, rfl, Nat.zero_le _, (by simpa using hown), ?_⟩; refine S.keep ?_; exact zk)
 (clear hown S; rintro m a w ⟨i, g, rfl, hi, hown, S⟩)
 (revert S a; refine go 7 ?_; intro Z hZ a S)
 refine wpc_sp S rfl ?_ ?_ <;> intro h
 ·(revert S a; revert hZ Z; refine go 8 ?_; intro Z hZ a S)
  (refine wpl_storeOwn S rfl rfl rfl rfl rfl hown rfl (by omega) ?_; clear hown S; intro g w hown S)
  (revert S a; revert hZ Z; refine go 7 ?_; intro a S)
  change ∃ m', _ ∧ _
  (refine ⟨n - (i + 1), by omega, i + 1, g, rfl, by omega, (by rw [← nin_step (by omega)]; exact hown), ?_⟩; refine S.keep ⟨rfl, rfl, reg (by omega), trivial⟩)
 (refine wp_exit ?_; conv => whnf)
 clear hZ Z
 (revert S a; revert hZ Z; refine go 3 ?_; intro Z hZ a S)
 (have hie : i = n := (by omega); subst hie; (refine wv S (sv_toStr (l := nin i) S rfl rfl (by rw [show (nin i).map (fun b => Value.int .u8 b.toNat) = List.replicate i (Value.int .u8 57) from (by unfold nin; rw [List.map_replicate]; rfl)]; simpa using hown)) ?_; clear S a; intro a S))
 (revert S a; revert hZ Z; refine go 3 ?_; intro a S)
 refine wp_ret (fr1 S Tryz.results18 ?_)
 rfl
theorem enPairCt (F : Heap) (x y : Vv) (cx cy : List Value) (hx : RvR F x cx) (hy : RvR F y cy) : Ct Tryz.prog 16 [.agg ⟨cx⟩, .agg ⟨cy⟩] F [] (fun F' _ u => ∃ cs, u = .agg ⟨cs⟩ ∧ cs.length = 9 ∧ ReR F' (pairX x y) cs) := by
 obtain ⟨a1, c1, rfl, -, -⟩ := vac_slc (ror_vac hx)
 obtain ⟨a2, c2, rfl, -, -⟩ := vac_slc (ror_vac hy)
 refine Ct.enter Tryz.func16 rfl Tryz.ntmps16 rfl fun w0 a S => ?_
 refine wp_sr fun Z hZ => ?_
 (refine wbx S ?_; clear S a; intro b2 a w S)
 (refine wbx S ?_; clear S a; intro b3 a w S)
 (refine wpl_alloc S rfl rfl rfl rfl ?_; clear S a; intro b4 a w S)
 (revert S a; revert hZ Z; refine go 2 ?_; intro a S)
 (refine wp_seq_k ?_; intro Z hZ)
 (replace S := St.pullB b3 S; have S' := frz1 S; clear S; obtain ⟨F3, hF3, hb3, S⟩ := S'; replace S := St.pullB b2 S; have S' := frz1 S; clear S; obtain ⟨F2, hF2, hb2, S⟩ := S'; have q2 := cels_of hb2; have q3 := cels_of (hF2 _ _ hb3); have hm : ∀ b o, F b = some o → F2 b = some o := (fun b o h => hF2 _ _ (hF3 _ _ h)))
 (refine wpc_mixM [0, 2, 5] [0, 2] [] (.one 0 (.one 2 (.one 1 (.one 3 (.one 4 (.one 5 (.one 6 .nil))))))) [] S mixed (by kernel_rfl) ?_; clear S; intro w S)
 (refine wlF S rfl (fun w' S => sv_loadAF S rfl rfl q2 rfl) ?_; clear S a; intro a S)
 (refine wlF S rfl (fun w' S => sv_loadAF S rfl rfl q3 rfl) ?_; clear S a; intro a S)
 refine wpm_eff rfl rfl (kwa S) ?_
 (refine wcF S (llitCt F2 x _ (Mon.h hm hx)) ?_; clear S a; intro v6 F6 a w hv hF6 S; obtain ⟨c6, rfl, -, r6⟩ := hv; obtain ⟨xa6, xb6, xc6, xd6, xe6, he6, -, -⟩ := exc_slc (ror_exc r6); subst he6; replace q3 := Cels.mono hF6 q3)
 (revert S a; refine go 2 ?_; intro a S)
 (refine wcF S (llitCt F6 y _ (Mon.h hF6 (Mon.h hm hy))) ?_; clear S a; intro v8 F8 a w hv hF8 S; obtain ⟨c8, rfl, -, r8⟩ := hv; obtain ⟨xa8, xb8, xc8, xd8, xe8, he8, -, -⟩ := exc_slc (ror_exc r8); subst he8)
 (revert S a; refine go 2 ?_; intro a S)
 (refine wpl_buildSlice S rfl rfl rfl rfl rfl rfl (by rfl) (by simp [Value.cells, splice]) rfl (by rfl) (by rfl) ?_; clear S a; intro b9 a w hown S; have S' := frz1 S; clear S; obtain ⟨F9, hF9, hb9, S⟩ := S'; have r9 := trs_lim (lim_of (l := ([litX x, litX y] : List Ex)) hb9 (LiC.app (l := ([litX x] : List Ex)) (LiC.one (sz := 9) rfl (Mon.h (fun b o h => hF9 _ _ (hF8 _ _ h)) r6)) (LiC.one (sz := 9) rfl (Mon.h hF9 r8))) (show 2 ≤ _ by decide)))
 (revert S a; refine go 3 ?_; intro a S)
 (refine wso S rfl rfl ?_; clear S; intro w S)
 (revert S a; revert hZ Z; refine go 3 ?_; intro a S)
 refine wp_ret (fin_ret S (results1 Tryz.results16 (RV.cellO S rfl (by rfl))) ?_)
 (exact ⟨_, rfl, rfl, [_, _, _, _, _, _, _, _], _, rfl, rfl, ⟨_, rfl, TrS.nil _ _ _⟩, r9⟩)
theorem zzEnB0 {p : Prop} (h : p := by (unfold truthO; first | (rw [if_pos (by omega)]; done) | (rw [if_neg (by omega), if_pos (by omega)]; done) | (rw [if_neg (by omega), if_neg (by omega)]; (first | rfl | (congr 1; simp))) | trace_state)) : p := h
theorem enHoldsCt (F : Heap) (hT : TabF F) (hE : ErrF F) (x : Ex) (cs : List Value) (hX : ReR F x cs) (hg : GE x.1 x.2) : Ct Tryz.prog 41 [.pointer none, .agg ⟨cs⟩, .slice none 0 0] F [] (fun _ _ u => u = .tuple ⟨[.bool (truthO (evalO [] [] x.1 x.2)).1, .int .i64 (truthO (evalO [] [] x.1 x.2)).2]⟩) := by
 have hev := eval0Ct F hT hE x cs hX hg
 obtain ⟨a1, n1, c1, ao, cap, rfl, -, -⟩ := exc_slc (ror_exc hX)
 generalize evalO [] [] x.1 x.2 = A at hev ⊢
 refine Ct.enter Tryz.func41 rfl Tryz.ntmps41 rfl fun w0 a S => ?_
 refine wp_sr fun Z hZ => ?_
 (refine wbx S ?_; clear S a; intro b4 a w S)
 (revert S a; revert hZ Z; refine go 8 ?_; intro Z hZ a S)
 (refine wcF S hev ?_; clear S a; intro v14 F14 a w hv hF14 S; obtain ⟨c14, rfl, q14⟩ := hv; obtain ⟨xa14, xb14, he14, -, -⟩ := vac_slc q14; subst he14)
 (revert S a; refine go 3 ?_; intro a S)
 (refine wpl_alloc S rfl rfl rfl rfl ?_; clear S a; intro b8 a w S)
 (refine wso S rfl rfl ?_; clear S; intro w S)
 (revert S a; revert hZ Z; refine go 11 ?_; intro Z hZ a S)
 refine wpc_sp S rfl ?_ ?_ <;> intro h
 ·(revert S a; refine go 6 ?_; intro a S)
  refine wp_ret (fr2 S Tryz.results41 ?_)
  exact zzEnB0
 (revert S a; refine go 7 ?_; intro a S)
 refine wpc_sp S rfl ?_ ?_ <;> intro h
 ·(revert S a; refine go 5 ?_; intro a S)
  refine wp_ret (fr2 S Tryz.results41 ?_)
  exact zzEnB0
 (revert S a; revert hZ Z; refine go 10 ?_; intro a S)
 refine wp_ret (fr2 S Tryz.results41 ?_)
 exact zzEnB0
def ofV (n : Nat) (v : Vv) : Vf := roseOf (List.replicate n v)
theorem enOfCt (F : Heap) (n : Nat) (hn : n ≤ 1000) (x : Vv) (cx : List Value) (hx : RvR F x cx) : Ct Tryz.prog 42 [.int .i64 (n : Int), .agg ⟨cx⟩] F [] (fun F' G' u => ∃ g xs, G' = [g] ∧ OwnS 33 4 u n xs g ∧ LiC F' 4 RvR xs (List.replicate n x)) := by
 obtain ⟨a1, c1, rfl, -, -⟩ := vac_slc (ror_vac hx)
 refine Ct.enter Tryz.func42 rfl Tryz.ntmps42 rfl fun w0 a S => ?_
 refine wp_sr fun Z hZ => ?_
 (refine wbx S ?_; clear S a; intro b3 a w S)
 (revert S a; revert hZ Z; refine go 3 ?_; intro a S)
 (refine wp_seq_k ?_; intro Z hZ)
 (replace S := St.pullB b3 S; have S' := frz1 S; clear S; obtain ⟨F3, hF3, hb3, S⟩ := S'; have q3 := cels_of hb3)
 (revert S a; revert hZ Z; refine go 10 ?_; intro Z hZ a S)
 refine wpc_loop (fun m a w' => ∃ (i : Nat) (v : Value) (g : Grp) (xs : List Value), m = n - i ∧ i ≤ n ∧ OwnS 33 4 v i xs g ∧ LiC F3 4 RvR xs (List.replicate i x) ∧ St 17 [(0, .int .i64 (n : Int)), (3, ptr b3), (5, v), (6, .int .i64 (i : Int))] w0 F [] F3 [g] a w') ?_ ?_
 ·(refine ⟨n, 0, .slice none 0 0, [], [], rfl, Nat.zero_le _, OwnS.nil _ _, rfl, ?_⟩; replace S := S.nilg; refine S.keep ?_; exact zk)
 (clear S; rintro m a w ⟨i, v, g, xs, rfl, hi, hown, hxs, S⟩)
 (revert S a; refine go 7 ?_; intro Z hZ a S)
 refine wpc_sp S rfl ?_ ?_ <;> intro h
 ·(revert S a; revert hZ Z; refine go 6 ?_; intro Z hZ a S)
  (refine wv S (sv_loadAF S rfl rfl q3 rfl) ?_; clear S a; intro a S)
  (refine wpl_append S rfl rfl rfl rfl rfl rfl rfl rfl rfl rfl rfl (fun _ => rfl) hown (by rfl) (by simp [Value.cells, splice, splice]) (by simp [Value.cells, Value.oneCell', splice, splice]) rfl (by rfl) (by rfl) rfl (by omega) (by omega) ?_; clear hown S a; intro v u g a w hown S)
  (revert S a; revert hZ Z; refine go 8 ?_; intro a S)
  change ∃ m', _ ∧ _
  (refine ⟨n - (i + 1), by omega, i + 1, _, _, _, rfl, by omega, hown, (by rw [List.replicate_succ']; exact LiC.app hxs (LiC.one rfl (Mon.h hF3 hx))), ?_⟩; (refine S.keep ?_; exact zk))
 (refine wp_exit ?_; conv => whnf)
 clear hZ Z
 (revert S a; revert hZ Z; refine go 6 ?_; intro a S)
 refine wp_ret (fr1 S Tryz.results42 ?_)
 (obtain rfl : i = n := (by omega); exact ⟨_, _, rfl, hown, hxs⟩)
theorem enRowCt (F : Heap) (a : Option Addr) (n c : Nat) : Ct Tryz.prog 43 [.slice a n c] F [] (fun _ _ u => u = .agg ⟨[.int .u8 5, .int .i64 0, .string (bs []), .slice a n c]⟩) := by
 refine Ct.enter Tryz.func43 rfl Tryz.ntmps43 rfl fun w0 a S => ?_
 refine wp_sr fun Z hZ => ?_
 (refine wpl_alloc S rfl rfl rfl rfl ?_; clear S a; intro b2 a w S)
 (revert S a; revert hZ Z; refine go 5 ?_; intro Z hZ a S)
 (refine wso S rfl rfl ?_; clear S; intro w S)
 (revert S a; revert hZ Z; refine go 2 ?_; intro a S)
 refine wp_ret (fin_ret S (results1 Tryz.results43 (RV.cellO S rfl (by rfl))) ?_)
 rfl
def vX (s : List UInt8) : Ex := kX 2 s .nil
abbrev vXc (s : List UInt8) : List Value := [.int .u8 2, .int .i64 0, .int .i64 0, .string (bs s), .int .u8 0, .int .i64 0, .string (bs []), .slice none 0 0, .slice none 0 0]
theorem vX_ror (F : Heap) (s : List UInt8) : ReR F (vX s) (vXc s) := ⟨[_, _, _, _, _, _, _, _], _, rfl, rfl, ⟨_, rfl, TrS.nil _ _ _⟩, TrS.nil _ _ _⟩
def tupX (l : List Ex) : Ex := (⟨4, 0, 0, [], ⟨0, 0, []⟩, .nil⟩, roseOf l)
theorem enPair3Ct (F : Heap) (hT : TabF F) (hE : ErrF F) (x y : Vv) (cx cy : List Value) (bx bY : Nat) (hbx : Cels F bx 0 cx) (hby : Cels F bY 0 cy) (hx : RvR F x cx) (hy : RvR F y cy) (gx : GV x) (gy : GV y) (s t : List UInt8) (hs : s.length ≤ 4096) (ht : t.length ≤ 4096) :
  Ct Tryz.prog 44 ([] ++ [.string (bs s), .string (bs t)] ++ [ptr bx, ptr bY]) F [] (fun F' _ u => AnsR F' u (evalO [] [([88], x), ([89], y)] (tupX [vX s, vX t]).1 (tupX [vX s, vX t]).2)) := by
 obtain ⟨a1, c1, rfl, -, -⟩ := vac_slc (ror_vac hx)
 obtain ⟨a2, c2, rfl, -, -⟩ := vac_slc (ror_vac hy)
 refine Ct.enter Tryz.func44 rfl Tryz.ntmps44 rfl fun w0 a S => ?_
 refine wp_sr fun Z hZ => ?_
 (refine wpl_alloc S rfl rfl rfl rfl ?_; clear S a; intro b6 a w S)
 (revert S a; revert hZ Z; refine go 8 ?_; intro Z hZ a S)
 (refine wpl_buildSlice S rfl rfl rfl rfl rfl rfl (by rfl) (by simp [Value.cells, splice]) rfl (by rfl) (by rfl) ?_; clear S a; intro b12 a w hown S; have S' := frz1 S; clear S; obtain ⟨F12, hF12, hb12, S⟩ := S'; have r12 := trs_lim (lim_of (l := ([vX s, vX t] : List Ex)) hb12 (LiC.app (l := ([vX s] : List Ex)) (LiC.one (sz := 9) rfl (vX_ror F12 s)) (LiC.one (sz := 9) rfl (vX_ror F12 t))) (show 2 ≤ _ by decide)))
 (revert S a; refine go 1 ?_; intro a S)
 (refine wv S (sv_loadAF S rfl rfl (Cels.mono hF12 hbx) rfl) ?_; clear S a; intro a S)
 (revert S a; refine go 1 ?_; intro a S)
 (refine wv S (sv_loadAF S rfl rfl (Cels.mono hF12 hby) rfl) ?_; clear S a; intro a S)
 (revert S a; refine go 1 ?_; intro a S)
 (refine wpl_buildSlice S rfl rfl rfl rfl rfl rfl (by rfl) (by simp [Value.cells, splice]) rfl (by rfl) (by rfl) ?_; clear S a; intro b18 a w hown S; have S' := frz1 S; clear S; obtain ⟨F18, hF18, hb18, S⟩ := S'; have hm : ∀ b o, F b = some o → F18 b = some o := (fun b o h => hF18 _ _ (hF12 _ _ h)); have r18 : LiM F18 5 BdR (.slice (some ⟨b18, 0, none⟩) 2 2) [([88], x), ([89], y)] := lim_of (l := ([([88], x), ([89], y)] : List Bd)) hb18 (LiC.app (l := ([([88], x)] : List Bd)) (LiC.one (sz := 5) rfl ⟨_, rfl, ror_vac (Mon.h hm hx)⟩) (LiC.one (sz := 5) rfl ⟨_, rfl, ror_vac (Mon.h hm hy)⟩)) (show 2 ≤ _ by decide))
 (refine wcF S (evalCt F18 (hT.mono hm) (hE.mono hm) none [] (fun F' nm _ => cons0Ct F' nm) [([88], x), ([89], y)] _ r18 (fun z hz => by simp only [List.mem_cons, List.not_mem_nil, or_false] at hz; rcases hz with rfl | rfl; exact gx; exact gy) (tupX [vX s, vX t]).1 (tupX [vX s, vX t]).2 _ (ror_exc (x := tupX [vX s, vX t]) ⟨[_, _, _, _, _, _, _, _], _, rfl, rfl, ⟨_, rfl, TrS.nil _ _ _⟩, r12.mono hF18⟩) ⟨GV_z, ⟨show 2 ≤ 3000 by decide, show 0 ≤ 140737488355328 by decide⟩, ⟨GV_z, ⟨show 0 ≤ 3000 by decide, Nat.le_trans hs (by decide)⟩, trivial⟩, ⟨GV_z, ⟨show 0 ≤ 3000 by decide, Nat.le_trans ht (by decide)⟩, trivial⟩, trivial⟩) ?_; clear S a; intro v19 F19 a w hv hF19 S; obtain ⟨c19, rfl, q19⟩ := hv; obtain ⟨xa19, xb19, he19, -, -⟩ := vac_slc q19; subst he19)
 (revert S a; refine go 2 ?_; intro a S)
 (refine wso S rfl rfl ?_; clear S; intro w S)
 (revert S a; revert hZ Z; refine go 3 ?_; intro a S)
 refine wp_ret (fin_ret S (results2 Tryz.results44 (RV.cellO S rfl (by rfl)) (RV.tmp S rfl)) ?_)
 exact ⟨_, rfl, q19⟩
end Go.Proofs.YtgefmjghdijbfaaGreatDoor
namespace Go.Wk
open Go
set_option linter.unusedVariables false
theorem tr_add_le {w0 : World} {F0 : Heap} {K0 : List Nat} {w : World} {F : Heap} {g : Grp} (h : Tr w0 F0 K0 w F ([] ++ g :: [])) : ∀ b o, F b = some o → F.add g b = some o := fun b o e => by
 rw [Heap.add_none (fun hm => ?_)]
 ·exact e
 ·obtain ⟨p, hp, rfl⟩ := List.mem_map.1 hm
  have := (h.own p (by simp only [List.nil_append, List.flatten_cons]; exact List.mem_append_left _ hp)).2.1
  rw [this] at e; cases e
theorem ct_frz {P : Program} {f : FuncId} {args : List Value} {F : Heap} {Post : Heap → Grp → Value → Prop} {Post' : Heap → Value → Prop} (h : Ct P f args F [] (fun F' G' u => ∃ g, G' = [g] ∧ Post F' g u)) (hp : ∀ F' g u, (∀ b o, F' b = some o → F'.add g b = some o) → Post F' g u → Post' (F'.add g) u) : Ct P f args F [] (fun F' _ u => Post' F' u) := by
 intro w hw
 refine (h w hw).mono fun e w' ⟨v, F', G', h1, h2, g, h3, h4⟩ => ?_
 subst h3
 have h2' : Tr w F (keys []) w' F' ([] ++ g :: []) := h2
 have hle : ∀ b o, F' b = some o → F'.add g b = some o := tr_add_le h2'
 exact ⟨v, F'.add g, [], h1, h2'.freeze, hp F' g v hle h4⟩
theorem ct_le {P : Program} {f : FuncId} {args : List Value} {F : Heap} {G : List Grp} {Post : Heap → List Grp → Value → Prop} (h : Ct P f args F G Post) : Ct P f args F G (fun F' G' u => Post F' G' u ∧ ∀ b o, F b = some o → F' b = some o) := fun w hw =>
 (h w hw).mono fun _ _ ⟨v, F', G', h1, h2, h3⟩ => ⟨v, F', G', h1, h2, h3, h2.ext⟩
end Go.Wk
namespace Go.Proofs.YtgefmjghdijbfaaGreatDoor
open Go Go.Wk Go.Un Go.De
set_option linter.unusedSimpArgs false
set_option linter.unusedVariables false
attribute [local irreducible] Go.wpList Go.Code.wp Go.wpStill Go.Wk.wpPre Go.bodyPost Go.Calls Go.Wk.Ct Go.Wk.OwnS Go.Wk.wpG Go.Wk.wpM
theorem cloneS1 (F : Heap) (v : Value) (l : List (List UInt8)) (h : LiM F 1 StR v l) (hl : l.length ≤ 1000000) : Ct Tryz.prog 47 [v] F [] (fun F' _ u => LiM F' 1 StR u l) :=
 ct_frz (Post := fun F' g u => (∃ xs, OwnS 9 1 u l.length xs g ∧ LiC F 1 StR xs l) ∧ ∀ b o, F b = some o → F' b = some o) (Ct.mono (ct_le (cloneSCt F v l h hl)) fun F' G' u ⟨⟨g, xs, h1, h2, h3⟩, h4⟩ => ⟨g, h1, ⟨xs, h2, h3⟩, h4⟩) fun F' g u hle ⟨⟨xs, h1, h2⟩, h3⟩ => LiC.lim h1 (h2.mono h3) rfl hle (by omega)
theorem consMCt (F : Heap) (tb m1 m2 m3 : Nat) (ts : List TD) (css : List KC) (rs : List RD) (hT : TabS F tb m1 m2 m3 ts css rs) (hK : KSz css) (s : List UInt8) :
  Ct Tryz.prog 126 [.pointer (some ⟨tb, 0, none⟩), .string (bs s)] F [] (fun F' _ u => ∃ (x : KC) (a1 : Option Addr) (n1 c1 : Nat) (a4 : Option Addr) (c4 : Nat), u = .tuple ⟨[.agg ⟨[.string (bs x.ty), .slice a1 n1 c1, .int .i64 x.pl, .slice a4 x.fs.length c4]⟩, .bool (findC css s).isSome]⟩ ∧ (findC css s = some x ∨ findC css s = none ∧ x = zKC) ∧ LiM F' 1 StR (.slice a1 n1 c1) x.ps ∧ LiM F' 3 FdR (.slice a4 x.fs.length c4) x.fs) := by
 have hcc : Cel F tb 1 (.map (some m2)) := hT.c 1 _ rfl
 obtain ⟨es, hes, hmm⟩ := hT.k
 refine Ct.enter Tryz.func126 rfl Tryz.ntmps126 rfl fun w0 a S => ?_
 refine wp_sr fun Z hZ => ?_
 (refine wpl_alloc S rfl rfl rfl rfl ?_; clear S a; intro b4 a w S)
 (revert S a; revert hZ Z; refine go 6 ?_; intro Z hZ Z hZ a S)
 (refine wv S (sv_lit (c := false) (sv_eqPtrSome S rfl rfl rfl) (by rfl)) ?_; clear S a; intro a S)
 (revert S a; revert hZ Z; refine go 2 ?_; intro a S)
 refine wpc_false S rfl ?_
 (revert S a; revert hZ Z; refine go 6 ?_; intro Z hZ a S)
 (refine wv S (sv_loadF S rfl rfl hcc) ?_; clear S a; intro a S)
 (revert S a; refine go 1 ?_; intro a S)
 (refine wv S (sv_lookupF (enc := kS) S rfl rfl rfl hes) ?_; clear S a; intro a S)
 (obtain ⟨y, ap, cp, ac, cc, hgd, hps, hfs, hy, his⟩ := get_kc hmm s; obtain ⟨hy1, hy2, hy3⟩ := hK.of hy; rw [if_pos rfl, hgd, his] at S)
 (revert S a; refine go 3 ?_; intro a S)
 (refine wpl_alloc S rfl rfl rfl rfl ?_; clear S a; intro b6 a w S)
 (refine wso S rfl rfl ?_; clear S; intro w S)
 (revert S a; revert hZ Z; refine go 3 ?_; intro a S)
 (refine wp_seq_k ?_; intro Z hZ)
 (refine wpc_mixM [0, 1, 3, 4, 6, 8] [1, 4] [7, 9] (.one 0 (.one 1 (.one 3 (.one 4 (.one 2 (.one 6 (.one 5 (.one 7 (.one 8 (.one 9 .nil)))))))))) [b6] S mixed (by kernel_rfl) ?_; clear S; intro w S)
 (revert S a; refine go 5 ?_; intro a S)
 (refine wcF S (cloneS1 F _ y.ps hps hy1) ?_; clear S a; intro u9 F5 a w hv hF5 S; have hvc := hv; obtain ⟨a22, c22, rfl, -, -⟩ := hvc)
 (revert S a; refine go 3 ?_; intro a S)
 (refine wcF S (ownedCt F5 y.fs _ (hfs.mono hF5) hy2 hy3) ?_; clear S a; intro u8 F6 a w hv6 hF6 S; have hvd := hv6; obtain ⟨a25, c25, rfl, -, -⟩ := hvd)
 (revert S a; refine go 2 ?_; intro a S)
 (refine wpl_store1 S rfl rfl rfl rfl rfl rfl (by first | (simp; done) | (simp [Value.cells]; done) | exact Nat.le_of_ble_eq_true rfl) ?_; clear S; intro w S)
 (revert S a; refine go 2 ?_; intro a S)
 refine wpm_eff rfl rfl (fun h => absurd h (by decide)) ?_
 (refine wpl_store1 S rfl rfl rfl rfl rfl rfl (by first | (simp; done) | (simp [Value.cells]; done) | exact Nat.le_of_ble_eq_true rfl) ?_; clear S; intro w S)
 refine wpList_nil ?_
 refine wpm_nil (fun h => absurd h (by decide)) ?_
 (revert S a; revert hZ Z; refine go 4 ?_; intro Z hZ a S)
 (refine wso S rfl rfl ?_; clear S; intro w S)
 (revert S a; revert hZ Z; refine go 3 ?_; intro a S)
 refine wp_ret (fin_ret S (results2 Tryz.results126 (RV.cellO S rfl (by rfl)) (RV.tmp S rfl)) ?_)
 exact ⟨y, _, _, _, _, _, rfl, hy, hv.mono hF6, hv6⟩
end Go.Proofs.YtgefmjghdijbfaaGreatDoor
