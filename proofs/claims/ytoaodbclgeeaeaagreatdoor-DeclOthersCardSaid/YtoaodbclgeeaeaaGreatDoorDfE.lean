/- The walk of awake: the first example. -/
import Derived.Test.YtoaodbclgeeaeaaGreatDoorDfD
namespace Go.Proofs.YtoaodbclgeeaeaaGreatDoor
open Go Go.Wk Go.Un Go.De
set_option linter.unusedSimpArgs false
set_option linter.unusedVariables false
attribute [local irreducible] Go.wpList Go.Code.wp Go.wpStill Go.Wk.wpPre Go.bodyPost Go.Calls Go.Wk.Ct Go.Wk.OwnS
attribute [local irreducible] Go.Wk.wpG Go.Wk.wpM

def awM : MD := ⟨[], [listTD], [⟨0, 0, false, false, [114], [⟨[120], sInt, .nil⟩]⟩], [], []⟩
theorem aw_take : takeE awM = 0 := by decide +kernel
def aw1H : VH := ⟨2, 1, []⟩
def awVH : VH := ⟨6, 0, sCons⟩
def awNH : VH := ⟨6, 0, sNil⟩
def awL : Vf := .cons aw1H .nil (.cons awNH .nil .nil)
theorem aw_1 : isF awM.ts (consOf awM.ts) awVH awL (sList, .cons sInt .nil .nil) = true := by decide +kernel
theorem aw_2 : isF awM.ts (consOf awM.ts) awVH awL (sList, .cons sText .nil .nil) = false := by decide +kernel
theorem aw_3 : isF awM.ts (consOf awM.ts) awNH .nil (sList, .cons sText .nil .nil) = true := by decide +kernel
theorem aw_4 : rowE awM.ts (consOf awM.ts) awM.rs [114] (.cons aw1H .nil .nil) = 0 := by decide +kernel
theorem aw_5 : rowE awM.ts (consOf awM.ts) awM.rs [114] (.cons awVH awL .nil) = 70 := by decide +kernel
theorem aw_6 : rowE awM.ts (consOf awM.ts) awM.rs [113] .nil = 63 := by decide +kernel
theorem aw_7 : (findC (consOf awM.ts) sCons).map (fun c => (c.ty, c.pl, c.fs.length)) = some (sList, 1, 2) := by decide +kernel
theorem aw_8 : (findC (consOf awM.ts) sCons).isSome = true := by decide +kernel
theorem aw_c {y : KC} (hy : findC (consOf awM.ts) sCons = some y ∨ findC (consOf awM.ts) sCons = none ∧ y = zKC) : y.ty = sList ∧ y.pl = 1 ∧ y.fs.length = 2 := by
  have h7 := aw_7
  rcases hy with h | ⟨h, -⟩
  · rw [h] at h7; simpa using h7
  · rw [h] at h7; cases h7
theorem aw_KS : KSz (consOf awM.ts) := by
  intro c hc
  rw [show consOf awM.ts = [⟨sNil, sList, [sA], 0, []⟩, ⟨sCons, sList, [sA], 1, [⟨sHead, sA, .nil⟩, ⟨[], sList, .cons sA .nil .nil⟩]⟩] from rfl] at hc
  rcases List.mem_cons.1 hc with rfl | hc
  · exact ⟨by decide, by decide, fun x hx => by cases hx⟩
  · rw [List.mem_singleton] at hc
    subst hc
    refine ⟨by decide, by decide, FSz.thin fun x hx => ?_⟩
    rcases List.mem_cons.1 hx with rfl | hx
    · decide
    · rw [List.mem_singleton] at hx; subst hx; decide
theorem aw_K : KThin (consOf awM.ts) := fun c hc => (aw_KS c hc).2.2
theorem aw_R : ∀ r ∈ awM.rs, FSz r.fs := by
  intro r hr x hx
  rw [show awM.rs = [⟨0, 0, false, false, [114], [⟨[120], sInt, .nil⟩]⟩] from rfl, List.mem_singleton] at hr
  subst hr
  rw [List.mem_singleton] at hx
  subst hx
  decide
theorem awSz : MSz awM := by
  refine ⟨fun x hx => ?_, fun r hr => ⟨aw_R r hr, ?_⟩, by decide, by decide⟩
  · rw [show awM.ts = [listTD] from rfl, List.mem_singleton] at hx
    subst hx
    refine ⟨by decide, by decide, fun c hc => ?_⟩
    rcases List.mem_cons.1 hc with rfl | hc
    · exact ⟨fun x hx => (by cases hx), by decide⟩
    · rw [List.mem_singleton] at hc
      subst hc
      refine ⟨fun x hx => ?_, by decide⟩
      rcases List.mem_cons.1 hx with rfl | hx
      · decide
      · rw [List.mem_singleton] at hx; subst hx; decide
  · rw [show awM.rs = [⟨0, 0, false, false, [114], [⟨[120], sInt, .nil⟩]⟩] from rfl, List.mem_singleton] at hr
    subst hr
    decide
def awCells : List Value := [.int .u8 2, .int .i64 1, .string (bs []), .slice none 0 0, .int .u8 6, .int .i64 0, .string (bs sNil), .slice none 0 0]
theorem aw_c1 : ∀ (j : Nat) (u : Value), ([.int .u8 2, .int .i64 1, .string (bs []), .slice none 0 0] : List Value)[j]? = some u → (⟨awCells⟩ : Array Value)[0 + j]? = some u
  | 0, u, h => h
  | 1, u, h => h
  | 2, u, h => h
  | 3, u, h => h
  | k + 4, u, h => by simp at h
theorem aw_c2 : ∀ (j : Nat) (u : Value), ([.int .u8 6, .int .i64 0, .string (bs sNil), .slice none 0 0] : List Value)[j]? = some u → (⟨awCells⟩ : Array Value)[4 + j]? = some u
  | 0, u, h => h
  | 1, u, h => h
  | 2, u, h => h
  | 3, u, h => h
  | k + 4, u, h => by simp at h
section
variable {n : Sz} {L : List (Nat × Value)} {w0 : World} {F0 : Heap} {K0 : List Nat} {a : Act} {w : World}
theorem aw_mk {F : Heap} {b14 b17 b19 : Nat} {aP aC : Option Addr} {cP cC : Nat} {R : List Grp} (hP : LiM F 1 StR (.slice aP 1 cP) listTD.ps) (hC : LiM F 2 CdR (.slice aC 2 cC) listTD.cs)
    (S : St n L w0 F0 K0 F ([(b19, .cells ⟨[.int .i64 0, .int .i64 0, .bool false, .bool false, .string (bs [114]), .slice (some ⟨b17, 0, none⟩) 1 1]⟩ 60 (0, 0))] :: [(b17, .cells ⟨[.string (bs [120]), .string (bs sInt), .slice none 0 0]⟩ 53 (0, 0))] :: [(b14, .cells ⟨[.int .i64 0, .int .i64 0, .bool false, .string (bs sList), .slice aP 1 cP, .slice aC 2 cC]⟩ 57 (0, 0))] :: R) a w) :
    ∃ F2, (∀ b o, F b = some o → F2 b = some o) ∧ MdR F2 awM [.string (bs []), .slice none 0 0, .slice (some ⟨b14, 0, none⟩) 1 1, .slice (some ⟨b19, 0, none⟩) 1 1, .slice none 0 0, .slice none 0 0] ∧ St n L w0 F0 K0 F2 R a w := by
  obtain ⟨F1, hle1, h19, S⟩ := frz1 S
  obtain ⟨F2, hle2, h17, S⟩ := frz1 S
  obtain ⟨F3, hle3, h14, S⟩ := frz1 S
  have hle : ∀ b o, F b = some o → F3 b = some o := fun b o h => hle3 _ _ (hle2 _ _ (hle1 _ _ h))
  have k14 : LiM F3 6 TdR (.slice (some ⟨b14, 0, none⟩) 1 1) awM.ts := lim_of (l := awM.ts) h14 (LiC.one rfl ⟨_, _, rfl, hP.mono hle, hC.mono hle⟩) (by decide)
  have k17 : LiM F3 3 FdR (.slice (some ⟨b17, 0, none⟩) 1 1) [⟨[120], sInt, .nil⟩] := lim_of (l := ([⟨[120], sInt, .nil⟩] : List FD)) (hle3 _ _ h17) (LiC.one rfl ⟨_, rfl, slf_nil _⟩) (by decide)
  have k19 : LiM F3 6 RdR (.slice (some ⟨b19, 0, none⟩) 1 1) awM.rs := lim_of (l := awM.rs) (hle3 _ _ (hle2 _ _ h19)) (LiC.one rfl ⟨_, rfl, k17⟩) (by decide)
  exact ⟨F3, hle, ⟨none, 0, 0, _, _, _, _, rfl, k14, k19, LiM.nil _ _ _, LiM.nil _ _ _⟩, S⟩
end
set_option maxRecDepth 20000 in
set_option maxHeartbeats 64000000 in
theorem awakeCt (F : Heap) (hE : ErrT F) : Ct Tryz.prog 8 [] F [] (fun _ _ u => u = .bool true) := by
  refine Ct.enter Tryz.func8 rfl Tryz.ntmps8 rfl fun w0 a S => ?_
  refine wp_sr fun Kq1 hKq1 => ?_
  (refine wpl_v S rfl rfl rfl (sv_pure S rfl) ?_; clear S a; intro a S)
  (refine wpList_nil (hKq1 _ _ (wp_sr fun Kq2 hKq2 => ?_)); try clear hKq1 Kq1)
  iterate 2 (refine wpl_v S rfl rfl rfl (sv_build S rfl rfl rfl) ?_; clear S a; intro a S)
  (refine wpl_alloc S rfl rfl rfl rfl ?_; clear S a; intro b1 a w S)
  (refine wpl_alloc S rfl rfl rfl rfl ?_; clear S a; intro b2 a w S)
  iterate 2 (refine wpl_storeO S rfl rfl rfl rfl rfl (by rfl) (by simp [Value.cells, Value.oneCell', splice]) (by rfl) ?_; clear S; intro w S)
  (refine wpList_nil (hKq2 _ _ (wp_seq_k fun Kq3 hKq3 => ?_)); try clear hKq2 Kq2)
  replace hKq3 : ∀ (a' : Act) (w' : World), (∃ (F3 : Heap) (tb m1 m2 m3 : Nat), (∀ b o, F b = some o → F3 b = some o) ∧ TabS F3 tb m1 m2 m3 awM.ts (consOf awM.ts) awM.rs ∧ St 105 [(1, ptr b1), (2, ptr b2), (3, ptr tb), (5, .int .i64 0)] w0 F [] F3 [[(b2, .cells ⟨[.string (bs sText), .slice none 0 0]⟩ 24 (0, 0))], [(b1, .cells ⟨[.string (bs sInt), .slice none 0 0]⟩ 24 (0, 0))]] a' w') → Kq3 a' w' := (by
   (intro a w hM; refine hKq3 _ _ ?_; clear hKq3 Kq3; clear S; obtain ⟨F3, tb, m1, m2, m3, hF3, hT, S⟩ := hM)
   (refine wp_seq_k ?_; intro Kq4 hKq4)
   refine wp_sr fun Kq5 hKq5 => ?_
   (refine wpl_v S rfl rfl rfl (sv_pure S rfl) ?_; clear S a; intro a S)
   (refine wpl_v S rfl rfl rfl (sv_lit (c := false) (sv_pure S rfl) (by rfl)) ?_; clear S a; intro a S)
   (refine wpl_v S rfl rfl rfl (sv_pure S rfl) ?_; clear S a; intro a S)
   refine wpl_take S rfl rfl rfl ?_
   (refine wpl_v S rfl rfl rfl (sv_pure S rfl) ?_; clear S a; intro a S)
   refine wpl_take S rfl rfl rfl ?_
   (refine wpl_v S rfl rfl rfl (sv_lit (c := false) (sv_eqPtrSome S rfl rfl rfl) (by rfl)) ?_; clear S a; intro a S)
   first | (refine wpl_v S rfl rfl rfl (sv_pure S rfl) ?_; clear S a; intro a S) | (refine wpl_v S rfl rfl rfl (sv_pickB S rfl rfl rfl rfl) ?_; clear S a; intro a S)
   (refine wpList_nil (hKq5 _ _ ?_); try clear hKq5 Kq5)
   refine wpc_false S rfl ?_
   refine wp_skip ?_
   (refine hKq4 _ _ ?_; try (clear hKq4 Kq4))
   refine wp_sr fun Kq6 hKq6 => ?_
   (refine wpl_v S rfl rfl rfl (sv_build S rfl rfl rfl) ?_; clear S a; intro a S)
   (refine wpl_alloc S rfl rfl rfl rfl ?_; clear S a; intro b6 a w S)
   (refine wpl_storeO S rfl rfl rfl rfl rfl (by rfl) (by simp [Value.cells, Value.oneCell', splice]) (by rfl) ?_; clear S; intro w S)
   (refine wpList_nil (hKq6 _ _ (wp_sr fun Kq7 hKq7 => ?_)); try clear hKq6 Kq6)
   first | (refine wpl_v S rfl rfl rfl (sv_loadAO S rfl rfl (by rfl)) ?_; clear S a; intro a S) | (refine wpl_v S rfl rfl rfl (sv_loadAF S rfl rfl (by assumption) (by rfl)) ?_; clear S a; intro a S)
   (refine wpl_v S rfl rfl rfl (sv_build S rfl rfl rfl) ?_; clear S a; intro a S)
   (refine wpl_buildSlice S rfl rfl rfl rfl rfl rfl (by rfl) (by simp [Value.cells, splice, splice]) rfl (by rfl) (by rfl) ?_; clear S a; intro b34 a w hown S)
   (refine wpl_v S rfl rfl rfl (sv_build S rfl rfl rfl) ?_; clear S a; intro a S)
   (refine wpl_alloc S rfl rfl rfl rfl ?_; clear S a; intro b7 a w S)
   (refine wpl_storeO S rfl rfl rfl rfl rfl (by rfl) (by simp [Value.cells, Value.oneCell', splice]) (by rfl) ?_; clear S; intro w S)
   (refine wpList_nil (hKq7 _ _ (wp_sr fun Kq8 hKq8 => ?_)); try clear hKq7 Kq7)
   (refine wpl_v S rfl rfl rfl (sv_pure S rfl) ?_; clear S a; intro a S)
   (refine wpl_call0 S rfl rfl rfl rfl rfl rfl (consCt F3 tb m1 m2 m3 _ _ _ hT aw_KS sCons) rfl ?_; clear S a; intro v9 a w hv S; obtain ⟨y, a1, n1, c1, a4, c4, rfl, hy⟩ := hv; obtain ⟨hy1, hy2, hy3⟩ := aw_c hy; rw [hy1, hy2, hy3, aw_8] at S)
   iterate 2 (refine wpl_v S rfl rfl rfl (sv_pure S rfl) ?_; clear S a; intro a S)
   (refine wpl_v S rfl rfl rfl (sv_lit (c := true) (sv_pure S rfl) (by rfl)) ?_; clear S a; intro a S)
   (refine wpl_alloc S rfl rfl rfl rfl ?_; clear S a; intro b8 a w S)
   (refine wpl_storeO S rfl rfl rfl rfl rfl (by rfl) (by simp [Value.cells, Value.oneCell', splice]) (by rfl) ?_; clear S; intro w S)
   (refine wpl_v S rfl rfl rfl (sv_pure S rfl) ?_; clear S a; intro a S)
   (refine wpList_nil (hKq8 _ _ (wp_seq_k fun Kq9 hKq9 => ?_)); try clear hKq8 Kq8)
   (replace S : St _ _ _ _ _ F3 [[(b34, .cells ⟨[.int .u8 2, .int .i64 1, .string (bs []), .slice none 0 0, .int .u8 6, .int .i64 0, .string (bs sNil), .slice none 0 0]⟩ 40 (0, 0))], [(b8, .cells ⟨[.string (bs sList), .slice a1 n1 c1, .int .i64 1, .slice a4 2 c4]⟩ 76 (0, 0))], [(b7, .cells ⟨[.int .u8 6, .int .i64 0, .string (bs sCons), .slice (some ⟨b34, 0, none⟩) 2 2]⟩ 40 (0, 0))], [(b6, .cells ⟨[.int .u8 2, .int .i64 1, .string (bs []), .slice none 0 0]⟩ 40 (0, 0))], [(b2, .cells ⟨[.string (bs sText), .slice none 0 0]⟩ 24 (0, 0))], [(b1, .cells ⟨[.string (bs sInt), .slice none 0 0]⟩ 24 (0, 0))]] _ _ := St.permI S 6 rfl [2, 0, 1, 3, 4, 5] (by decide); have S' := frz1 S; clear S; obtain ⟨F4, hle4, h34, S⟩ := S'; replace hT := hT.mono hle4; have hL : TrS F4 4 VhR (.slice (some ⟨b34, 0, none⟩) 2 2) awL := ⟨_, _, rfl, ⟨Nat.le_refl _, by decide⟩, fun _ => ⟨_, _, rfl, ⟨⟨_, none, 0, ⟨rfl, by decide⟩, rfl, fun j u hj => ⟨_, _, _, h34, aw_c1 j u hj⟩, ⟨Nat.le_refl _, by decide⟩, fun h => absurd h (by decide)⟩, ⟨_, none, 0, ⟨rfl, by decide⟩, rfl, fun j u hj => ⟨_, _, _, h34, aw_c2 j u hj⟩, ⟨Nat.le_refl _, by decide⟩, fun h => absurd h (by decide)⟩, trivial⟩⟩⟩; have hc61 : Cels F4 b34 4 [.int .u8 6, .int .i64 0, .string (bs sNil), .slice none 0 0] := fun j u hj => ⟨_, _, _, h34, aw_c2 j u hj⟩)
   (refine wpc_mixM [0, 1, 2, 4, 6, 7, 8, 9, 11, 13, 14, 15, 16, 17, 18, 19, 20, 21, 23, 25, 26, 27, 28, 29, 30, 31, 32, 33, 34, 35, 36, 37, 38, 39, 40, 41, 42, 43, 44, 45, 46, 47, 50, 51, 52, 53, 54, 57, 58, 59, 60, 62, 63] [1, 2, 8, 9, 18, 20, 21, 31, 36, 41, 47, 54] [] (.one 0 (.one 1 (.one 2 (.one 3 (.one 4 (.one 5 (.one 6 (.one 7 (.one 8 (.one 9 (.one 10 (.one 11 (.one 12 (.one 13 (.one 14 (.one 15 (.one 16 (.one 17 (.one 18 (.one 19 (.one 20 (.one 21 (.one 22 (.one 23 (.one 24 (.one 25 (.one 26 (.one 27 (.one 28 (.one 29 (.one 30 (.one 31 (.one 32 (.one 33 (.one 34 (.one 35 (.one 36 (.one 37 (.one 38 (.one 39 (.one 40 (.one 41 (.one 42 (.one 43 (.one 44 (.one 45 (.one 46 (.one 47 (.one 48 (.one 49 (.one 50 (.one 51 (.one 52 (.one 53 (.one 54 (.one 55 (.one 56 (.one 57 (.one 58 (.one 59 (.one 60 (.one 61 (.one 62 (.one 63 (.one 64 .nil))))))))))))))))))))))))))))))))))))))))))))))))))))))))))))))))) [b7, b1, b2, b8, b6] S mixed (by kernel_rfl) ?_; clear S; intro w S)
   (refine wpm_v S rfl rfl rfl (want_none _ rfl) rfl rfl (fun w' S => sv_pure S rfl) ?_; clear S a; intro a S)
   first | (refine wpm_lateO b7 S rfl rfl rfl (want_none _ rfl) rfl rfl (fun w' S => sv_loadO S rfl rfl (by rfl)) ?_; clear S a; intro a S) | (refine wpm_lateO b7 S rfl rfl rfl (want_none _ rfl) rfl rfl (fun w' S => sv_loadAO S rfl rfl (by rfl)) ?_; clear S a; intro a S)
   first | (refine wpm_lateO b1 S rfl rfl rfl (want_none _ rfl) rfl rfl (fun w' S => sv_loadO S rfl rfl (by rfl)) ?_; clear S a; intro a S) | (refine wpm_lateO b1 S rfl rfl rfl (want_none _ rfl) rfl rfl (fun w' S => sv_loadAO S rfl rfl (by rfl)) ?_; clear S a; intro a S)
   refine wpm_eff rfl rfl (kwg S fun b o h => by first | exact h | solve_by_elim | exact hle9 _ _ (hle8 _ _ (hle7 _ _ (hle6 _ _ (hle5 _ _ h))))) ?_
   (refine wpl_buildSlice S rfl rfl rfl rfl rfl rfl (by rfl) (by simp [Value.cells, splice, splice]) rfl (by rfl) (by rfl) ?_; clear S a; intro b44 a w hown S)
   refine wpList_nil ?_
   (refine wpm_v S rfl rfl rfl (want_none _ rfl) rfl rfl (fun w' S => sv_build S rfl rfl rfl) ?_; clear S a; intro a S)
   refine wpm_eff rfl rfl (kwg S fun b o h => by first | exact h | solve_by_elim | exact hle9 _ _ (hle8 _ _ (hle7 _ _ (hle6 _ _ (hle5 _ _ h))))) ?_
   (have S' := frz1 (p := (b44, .cells ⟨[.string (bs sInt), .slice none 0 0]⟩ 24 (0, 0))) S; clear S; obtain ⟨F5, hle5, hb44, S⟩ := S'; replace hT := hT.mono hle5; replace hL := hL.mono hle5; refine wpl_call0 S rfl rfl rfl rfl rfl rfl (isCt F5 tb m1 m2 m3 _ _ _ hT aw_K awVH awL (by decide) _ ⟨_, rfl, hL, by decide⟩ (sList, .cons sInt .nil .nil) _ (by decide) ⟨_, rfl, slf_of (l := .cons sInt .nil .nil) hb44 (FoC.one (slf_nil _)) (by decide)⟩) rfl ?_; clear S a; intro v a w hv S; subst hv; rw [aw_1] at S)
   refine wpList_nil ?_
   (refine wpm_v S rfl rfl rfl (want_none _ rfl) rfl rfl (fun w' S => sv_pure S rfl) ?_; clear S a; intro a S)
   (refine wpm_v S rfl rfl rfl (want_yes S rfl rfl rfl) rfl rfl (fun w' S => sv_pure S rfl) ?_; clear S a; intro a S)
   first | (refine wpm_lateO b7 S rfl rfl rfl (want_yes S rfl rfl rfl) rfl rfl (fun w' S => sv_loadO S rfl rfl (by rfl)) ?_; clear S a; intro a S) | (refine wpm_lateO b7 S rfl rfl rfl (want_yes S rfl rfl rfl) rfl rfl (fun w' S => sv_loadAO S rfl rfl (by rfl)) ?_; clear S a; intro a S)
   first | (refine wpm_lateO b2 S rfl rfl rfl (want_yes S rfl rfl rfl) rfl rfl (fun w' S => sv_loadO S rfl rfl (by rfl)) ?_; clear S a; intro a S) | (refine wpm_lateO b2 S rfl rfl rfl (want_yes S rfl rfl rfl) rfl rfl (fun w' S => sv_loadAO S rfl rfl (by rfl)) ?_; clear S a; intro a S)
   refine wpm_eff rfl rfl (kwg S fun b o h => by first | exact h | solve_by_elim | exact hle9 _ _ (hle8 _ _ (hle7 _ _ (hle6 _ _ (hle5 _ _ h))))) ?_
   refine wpl_take S rfl rfl rfl ?_
   (refine wpl_buildSlice S rfl rfl rfl rfl rfl rfl (by rfl) (by simp [Value.cells, splice, splice]) rfl (by rfl) (by rfl) ?_; clear S a; intro b51 a w hown S)
   refine wpList_nil ?_
   (refine wpm_v S rfl rfl rfl (want_yes S rfl rfl rfl) rfl rfl (fun w' S => sv_build S rfl rfl rfl) ?_; clear S a; intro a S)
   refine wpm_eff rfl rfl (kwg S fun b o h => by first | exact h | solve_by_elim | exact hle9 _ _ (hle8 _ _ (hle7 _ _ (hle6 _ _ (hle5 _ _ h))))) ?_
   refine wpl_take S rfl rfl rfl ?_
   (have S' := frz1 (p := (b51, .cells ⟨[.string (bs sText), .slice none 0 0]⟩ 24 (0, 0))) S; clear S; obtain ⟨F6, hle6, hb51, S⟩ := S'; replace hT := hT.mono hle6; replace hL := hL.mono hle6; refine wpl_call0 S rfl rfl rfl rfl rfl rfl (isCt F6 tb m1 m2 m3 _ _ _ hT aw_K awVH awL (by decide) _ ⟨_, rfl, hL, by decide⟩ (sList, .cons sText .nil .nil) _ (by decide) ⟨_, rfl, slf_of (l := .cons sText .nil .nil) hb51 (FoC.one (slf_nil _)) (by decide)⟩) rfl ?_; clear S a; intro v a w hv S; subst hv; rw [aw_2] at S)
   refine wpList_nil ?_
   (refine wpm_v S rfl rfl rfl (want_yes S rfl rfl rfl) rfl rfl (fun w' S => sv_pure S rfl) ?_; clear S a; intro a S)
   first | (refine wpm_v S rfl rfl rfl (want_none _ rfl) rfl rfl (fun w' S => sv_pure S rfl) ?_; clear S a; intro a S) | (refine wpm_v S rfl rfl rfl (want_none _ rfl) rfl rfl (fun w' S => sv_pickB S rfl rfl rfl rfl) ?_; clear S a; intro a S)
   (refine wpm_v S rfl rfl rfl (want_none _ rfl) rfl rfl (fun w' S => sv_pure S rfl) ?_; clear S a; intro a S)
   (refine wpm_v S rfl rfl rfl (want_yes S rfl rfl rfl) rfl rfl (fun w' S => sv_pure S rfl) ?_; clear S a; intro a S)
   (refine wpm_v S rfl rfl rfl (want_yes S rfl rfl rfl) rfl rfl (fun w' S => sv_fieldAddr S rfl rfl rfl inferInstance rfl) ?_; clear S a; intro a S)
   first | (refine wpm_lateO b7 S rfl rfl rfl (want_yes S rfl rfl rfl) rfl rfl (fun w' S => sv_loadO S rfl rfl (by rfl)) ?_; clear S a; intro a S) | (refine wpm_lateO b7 S rfl rfl rfl (want_yes S rfl rfl rfl) rfl rfl (fun w' S => sv_loadAO S rfl rfl (by rfl)) ?_; clear S a; intro a S)
   (refine wpm_v S rfl rfl rfl (want_yes S rfl rfl rfl) rfl rfl (fun w' S => sv_indexAddrSl S rfl rfl rfl (by first | omega | (simp only [List.length_append, List.length_cons, List.length_nil]; omega))) ?_; clear S a; intro a S)
   (refine wpm_lateF S rfl rfl rfl (want_yes S rfl rfl rfl) rfl rfl (fun w' S => sv_loadAF S rfl rfl hc61 rfl) ?_; clear S a; intro a S)
   first | (refine wpm_lateO b2 S rfl rfl rfl (want_yes S rfl rfl rfl) rfl rfl (fun w' S => sv_loadO S rfl rfl (by rfl)) ?_; clear S a; intro a S) | (refine wpm_lateO b2 S rfl rfl rfl (want_yes S rfl rfl rfl) rfl rfl (fun w' S => sv_loadAO S rfl rfl (by rfl)) ?_; clear S a; intro a S)
   refine wpm_eff rfl rfl (kwg S fun b o h => by first | exact h | solve_by_elim | exact hle9 _ _ (hle8 _ _ (hle7 _ _ (hle6 _ _ (hle5 _ _ h))))) ?_
   refine wpl_take S rfl rfl rfl ?_
   (refine wpl_buildSlice S rfl rfl rfl rfl rfl rfl (by rfl) (by simp [Value.cells, splice, splice]) rfl (by rfl) (by rfl) ?_; clear S a; intro b63 a w hown S)
   refine wpList_nil ?_
   (refine wpm_v S rfl rfl rfl (want_yes S rfl rfl rfl) rfl rfl (fun w' S => sv_build S rfl rfl rfl) ?_; clear S a; intro a S)
   refine wpm_eff rfl rfl (kwg S fun b o h => by first | exact h | solve_by_elim | exact hle9 _ _ (hle8 _ _ (hle7 _ _ (hle6 _ _ (hle5 _ _ h))))) ?_
   refine wpl_take S rfl rfl rfl ?_
   (have S' := frz1 (p := (b63, .cells ⟨[.string (bs sText), .slice none 0 0]⟩ 24 (0, 0))) S; clear S; obtain ⟨F7, hle7, hb63, S⟩ := S'; replace hT := hT.mono hle7; replace hL := hL.mono hle7; refine wpl_call0 S rfl rfl rfl rfl rfl rfl (isCt F7 tb m1 m2 m3 _ _ _ hT aw_K awNH (Rose.nil : Vf) (by decide) _ ⟨_, rfl, TrS.nil _ _ _, by decide⟩ (sList, .cons sText .nil .nil) _ (by decide) ⟨_, rfl, slf_of (l := .cons sText .nil .nil) hb63 (FoC.one (slf_nil _)) (by decide)⟩) rfl ?_; clear S a; intro v a w hv S; subst hv; rw [aw_3] at S)
   refine wpList_nil ?_
   first | (refine wpm_v S rfl rfl rfl (want_none _ rfl) rfl rfl (fun w' S => sv_pure S rfl) ?_; clear S a; intro a S) | (refine wpm_v S rfl rfl rfl (want_none _ rfl) rfl rfl (fun w' S => sv_pickB S rfl rfl rfl rfl) ?_; clear S a; intro a S)
   (refine wpm_v S rfl rfl rfl (want_none _ rfl) rfl rfl (fun w' S => sv_pure S rfl) ?_; clear S a; intro a S)
   (refine wpm_v S rfl rfl rfl (want_yes S rfl rfl rfl) rfl rfl (fun w' S => sv_pure S rfl) ?_; clear S a; intro a S)
   first | (refine wpm_v S rfl rfl rfl (want_none _ rfl) rfl rfl (fun w' S => sv_pure S rfl) ?_; clear S a; intro a S) | (refine wpm_v S rfl rfl rfl (want_none _ rfl) rfl rfl (fun w' S => sv_pickB S rfl rfl rfl rfl) ?_; clear S a; intro a S)
   (refine wpm_v S rfl rfl rfl (want_none _ rfl) rfl rfl (fun w' S => sv_pure S rfl) ?_; clear S a; intro a S)
   (refine wpm_v S rfl rfl rfl (want_yes S rfl rfl rfl) rfl rfl (fun w' S => sv_fieldAddr S rfl rfl rfl inferInstance rfl) ?_; clear S a; intro a S)
   first | (refine wpm_lateO b8 S rfl rfl rfl (want_yes S rfl rfl rfl) rfl rfl (fun w' S => sv_loadO S rfl rfl (by rfl)) ?_; clear S a; intro a S) | (refine wpm_lateO b8 S rfl rfl rfl (want_yes S rfl rfl rfl) rfl rfl (fun w' S => sv_loadAO S rfl rfl (by rfl)) ?_; clear S a; intro a S)
   (refine wpm_v S rfl rfl rfl (want_yes S rfl rfl rfl) rfl rfl (fun w' S => sv_lit (c := true) (sv_pure S rfl) (by rfl)) ?_; clear S a; intro a S)
   first | (refine wpm_v S rfl rfl rfl (want_none _ rfl) rfl rfl (fun w' S => sv_pure S rfl) ?_; clear S a; intro a S) | (refine wpm_v S rfl rfl rfl (want_none _ rfl) rfl rfl (fun w' S => sv_pickB S rfl rfl rfl rfl) ?_; clear S a; intro a S)
   (refine wpm_v S rfl rfl rfl (want_none _ rfl) rfl rfl (fun w' S => sv_pure S rfl) ?_; clear S a; intro a S)
   (refine wpm_v S rfl rfl rfl (want_yes S rfl rfl rfl) rfl rfl (fun w' S => sv_fieldAddr S rfl rfl rfl inferInstance rfl) ?_; clear S a; intro a S)
   first | (refine wpm_lateO b8 S rfl rfl rfl (want_yes S rfl rfl rfl) rfl rfl (fun w' S => sv_loadO S rfl rfl (by rfl)) ?_; clear S a; intro a S) | (refine wpm_lateO b8 S rfl rfl rfl (want_yes S rfl rfl rfl) rfl rfl (fun w' S => sv_loadAO S rfl rfl (by rfl)) ?_; clear S a; intro a S)
   (refine wpm_v S rfl rfl rfl (want_yes S rfl rfl rfl) rfl rfl (fun w' S => sv_lit (c := true) (sv_pure S rfl) (by rfl)) ?_; clear S a; intro a S)
   first | (refine wpm_v S rfl rfl rfl (want_none _ rfl) rfl rfl (fun w' S => sv_pure S rfl) ?_; clear S a; intro a S) | (refine wpm_v S rfl rfl rfl (want_none _ rfl) rfl rfl (fun w' S => sv_pickB S rfl rfl rfl rfl) ?_; clear S a; intro a S)
   (refine wpm_v S rfl rfl rfl (want_none _ rfl) rfl rfl (fun w' S => sv_pure S rfl) ?_; clear S a; intro a S)
   (refine wpm_v S rfl rfl rfl (want_yes S rfl rfl rfl) rfl rfl (fun w' S => sv_fieldAddr S rfl rfl rfl inferInstance rfl) ?_; clear S a; intro a S)
   first | (refine wpm_lateO b8 S rfl rfl rfl (want_yes S rfl rfl rfl) rfl rfl (fun w' S => sv_loadO S rfl rfl (by rfl)) ?_; clear S a; intro a S) | (refine wpm_lateO b8 S rfl rfl rfl (want_yes S rfl rfl rfl) rfl rfl (fun w' S => sv_loadAO S rfl rfl (by rfl)) ?_; clear S a; intro a S)
   (refine wpm_v S rfl rfl rfl (want_yes S rfl rfl rfl) rfl rfl (fun w' S => sv_lenSl S rfl rfl) ?_; clear S a; intro a S)
   (refine wpm_v S rfl rfl rfl (want_yes S rfl rfl rfl) rfl rfl (fun w' S => sv_lit (c := true) (sv_pure S rfl) (by rfl)) ?_; clear S a; intro a S)
   first | (refine wpm_v S rfl rfl rfl (want_none _ rfl) rfl rfl (fun w' S => sv_pure S rfl) ?_; clear S a; intro a S) | (refine wpm_v S rfl rfl rfl (want_none _ rfl) rfl rfl (fun w' S => sv_pickB S rfl rfl rfl rfl) ?_; clear S a; intro a S)
   (refine wpm_v S rfl rfl rfl (want_none _ rfl) rfl rfl (fun w' S => sv_pure S rfl) ?_; clear S a; intro a S)
   (refine wpm_v S rfl rfl rfl (want_yes S rfl rfl rfl) rfl rfl (fun w' S => sv_pure S rfl) ?_; clear S a; intro a S)
   first | (refine wpm_lateO b6 S rfl rfl rfl (want_yes S rfl rfl rfl) rfl rfl (fun w' S => sv_loadO S rfl rfl (by rfl)) ?_; clear S a; intro a S) | (refine wpm_lateO b6 S rfl rfl rfl (want_yes S rfl rfl rfl) rfl rfl (fun w' S => sv_loadAO S rfl rfl (by rfl)) ?_; clear S a; intro a S)
   refine wpm_eff rfl rfl (kwg S fun b o h => by first | exact h | solve_by_elim | exact hle9 _ _ (hle8 _ _ (hle7 _ _ (hle6 _ _ (hle5 _ _ h))))) ?_
   refine wpl_take S rfl rfl rfl ?_
   (refine wpl_buildSlice S rfl rfl rfl rfl rfl rfl (by rfl) (by simp [Value.cells, splice, splice]) rfl (by rfl) (by rfl) ?_; clear S a; intro b89 a w hown S)
   refine wpList_nil ?_
   refine wpm_eff rfl rfl (kwg S fun b o h => by first | exact h | solve_by_elim | exact hle9 _ _ (hle8 _ _ (hle7 _ _ (hle6 _ _ (hle5 _ _ h))))) ?_
   refine wpl_take S rfl rfl rfl ?_
   (have S' := frz1 (p := (b89, .cells ⟨[.int .u8 2, .int .i64 1, .string (bs []), .slice none 0 0]⟩ 40 (0, 0))) S; clear S; obtain ⟨F8, hle8, hb89, S⟩ := S'; replace hT := hT.mono hle8; replace hL := hL.mono hle8; have hL8 : TrS F8 4 VhR (.slice (some ⟨b89, 0, none⟩) 1 1) (.cons aw1H .nil .nil) := ⟨_, _, rfl, ⟨Nat.le_refl _, by decide⟩, fun _ => ⟨_, _, rfl, ⟨⟨_, none, 0, ⟨rfl, by decide⟩, rfl, cels_of hb89, ⟨Nat.le_refl _, by decide⟩, fun h => absurd h (by decide)⟩, trivial⟩⟩⟩; refine wpl_call0 S rfl rfl rfl rfl rfl rfl (rowCt F8 tb m1 m2 m3 _ _ _ hT aw_K aw_R [114] (.cons aw1H .nil .nil) (by decide) _ hL8) rfl ?_; clear S a; intro v a w hv S; subst hv; rw [aw_4] at S)
   refine wpList_nil ?_
   (refine wpm_v S rfl rfl rfl (want_yes S rfl rfl rfl) rfl rfl (fun w' S => sv_lit (c := true) (sv_pure S rfl) (by rfl)) ?_; clear S a; intro a S)
   first | (refine wpm_v S rfl rfl rfl (want_none _ rfl) rfl rfl (fun w' S => sv_pure S rfl) ?_; clear S a; intro a S) | (refine wpm_v S rfl rfl rfl (want_none _ rfl) rfl rfl (fun w' S => sv_pickB S rfl rfl rfl rfl) ?_; clear S a; intro a S)
   (refine wpm_v S rfl rfl rfl (want_none _ rfl) rfl rfl (fun w' S => sv_pure S rfl) ?_; clear S a; intro a S)
   (refine wpm_v S rfl rfl rfl (want_yes S rfl rfl rfl) rfl rfl (fun w' S => sv_pure S rfl) ?_; clear S a; intro a S)
   first | (refine wpm_lateO b7 S rfl rfl rfl (want_yes S rfl rfl rfl) rfl rfl (fun w' S => sv_loadO S rfl rfl (by rfl)) ?_; clear S a; intro a S) | (refine wpm_lateO b7 S rfl rfl rfl (want_yes S rfl rfl rfl) rfl rfl (fun w' S => sv_loadAO S rfl rfl (by rfl)) ?_; clear S a; intro a S)
   refine wpm_eff rfl rfl (kwg S fun b o h => by first | exact h | solve_by_elim | exact hle9 _ _ (hle8 _ _ (hle7 _ _ (hle6 _ _ (hle5 _ _ h))))) ?_
   refine wpl_take S rfl rfl rfl ?_
   (refine wpl_buildSlice S rfl rfl rfl rfl rfl rfl (by rfl) (by simp [Value.cells, splice, splice]) rfl (by rfl) (by rfl) ?_; clear S a; intro b96 a w hown S)
   refine wpList_nil ?_
   refine wpm_eff rfl rfl (kwg S fun b o h => by first | exact h | solve_by_elim | exact hle9 _ _ (hle8 _ _ (hle7 _ _ (hle6 _ _ (hle5 _ _ h))))) ?_
   refine wpl_take S rfl rfl rfl ?_
   (have S' := frz1 (p := (b96, .cells ⟨[.int .u8 6, .int .i64 0, .string (bs sCons), .slice (some ⟨b34, 0, none⟩) 2 2]⟩ 40 (0, 0))) S; clear S; obtain ⟨F9, hle9, hb96, S⟩ := S'; replace hT := hT.mono hle9; replace hL := hL.mono hle9; have hL9 : TrS F9 4 VhR (.slice (some ⟨b96, 0, none⟩) 1 1) (.cons awVH awL .nil) := ⟨_, _, rfl, ⟨Nat.le_refl _, by decide⟩, fun _ => ⟨_, _, rfl, ⟨⟨_, _, _, ⟨rfl, by decide⟩, rfl, cels_of hb96, ⟨Nat.le_refl _, by decide⟩, fun _ => by obtain ⟨ao, cp, e1, e2, e3⟩ := hL; cases e1; exact e3 (by decide)⟩, trivial⟩⟩⟩; refine wpl_call0 S rfl rfl rfl rfl rfl rfl (rowCt F9 tb m1 m2 m3 _ _ _ hT aw_K aw_R [114] (.cons awVH awL .nil) (by decide) _ hL9) rfl ?_; clear S a; intro v a w hv S; subst hv; rw [aw_5] at S)
   refine wpList_nil ?_
   (refine wpm_v S rfl rfl rfl (want_yes S rfl rfl rfl) rfl rfl (fun w' S => sv_lit (c := true) (sv_pure S rfl) (by rfl)) ?_; clear S a; intro a S)
   first | (refine wpm_v S rfl rfl rfl (want_none _ rfl) rfl rfl (fun w' S => sv_pure S rfl) ?_; clear S a; intro a S) | (refine wpm_v S rfl rfl rfl (want_none _ rfl) rfl rfl (fun w' S => sv_pickB S rfl rfl rfl rfl) ?_; clear S a; intro a S)
   (refine wpm_v S rfl rfl rfl (want_none _ rfl) rfl rfl (fun w' S => sv_pure S rfl) ?_; clear S a; intro a S)
   (refine wpm_v S rfl rfl rfl (want_yes S rfl rfl rfl) rfl rfl (fun w' S => sv_pure S rfl) ?_; clear S a; intro a S)
   refine wpm_eff rfl rfl (kwg S fun b o h => by first | exact h | solve_by_elim | exact hle9 _ _ (hle8 _ _ (hle7 _ _ (hle6 _ _ (hle5 _ _ h))))) ?_
   refine wpl_take S rfl rfl rfl ?_
   (refine wpl_call0 S rfl rfl rfl rfl rfl rfl (rowCt F9 tb m1 m2 m3 _ _ _ hT aw_K aw_R [113] (Rose.nil : Vf) (by decide) _ (TrS.nil _ _ _)) rfl ?_; clear S a; intro v a w hv S; subst hv; rw [aw_6] at S)
   refine wpList_nil ?_
   (refine wpm_v S rfl rfl rfl (want_yes S rfl rfl rfl) rfl rfl (fun w' S => sv_lit (c := true) (sv_pure S rfl) (by rfl)) ?_; clear S a; intro a S)
   first | (refine wpm_v S rfl rfl rfl (want_none _ rfl) rfl rfl (fun w' S => sv_pure S rfl) ?_; clear S a; intro a S) | (refine wpm_v S rfl rfl rfl (want_none _ rfl) rfl rfl (fun w' S => sv_pickB S rfl rfl rfl rfl) ?_; clear S a; intro a S)
   refine wpm_eff rfl rfl (kwg S fun b o h => by first | exact h | solve_by_elim | exact hle9 _ _ (hle8 _ _ (hle7 _ _ (hle6 _ _ (hle5 _ _ h))))) ?_
   (refine wpl_v S rfl rfl rfl (sv_pure S rfl) ?_; clear S a; intro a S)
   refine wpList_nil ?_
   (refine wpm_nil (kwg S fun b o h => by first | exact h | solve_by_elim | exact hle9 _ _ (hle8 _ _ (hle7 _ _ (hle6 _ _ (hle5 _ _ h))))) (hKq9 _ _ ?_); try clear hKq9 Kq9)
   refine wp_ret (fin_ret S (results1 Tryz.results8 (RV.tmp S rfl)) ?_)
   rfl)
  (refine wpc_mixM [2, 3, 5, 7, 9, 10, 11, 12] [2] [] (.one 2 (.one 3 (.three 0 4 13 (.three 1 4 13 (.two 4 13 (.one 5 (.two 6 13 (.one 7 (.two 8 13 (.one 9 (.one 10 (.one 11 (.one 12 (.one 13 (.one 14 (.one 15 (.one 16 .nil)))))))) (.one 8 (.one 9 (.one 10 (.one 11 (.one 12 (.one 14 (.one 15 (.one 16 .nil)))))))))) (.one 6 (.one 7 (.one 8 (.one 9 (.one 10 (.one 11 (.one 12 (.one 14 (.one 15 (.one 16 .nil)))))))))))) (.one 4 (.one 5 (.one 6 (.one 7 (.one 8 (.one 9 (.one 10 (.one 11 (.one 12 (.one 14 (.one 15 (.one 16 .nil))))))))))))) (.one 5 (.three 1 6 13 (.two 6 13 (.one 7 (.two 8 13 (.one 9 (.one 10 (.one 11 (.one 12 (.one 13 (.one 14 (.one 15 (.one 16 .nil)))))))) (.one 8 (.one 9 (.one 10 (.one 11 (.one 12 (.one 14 (.one 15 (.one 16 .nil)))))))))) (.one 6 (.one 7 (.one 8 (.one 9 (.one 10 (.one 11 (.one 12 (.one 14 (.one 15 (.one 16 .nil))))))))))) (.two 1 13 (.one 7 (.two 8 13 (.one 9 (.one 10 (.one 11 (.one 12 (.one 13 (.one 14 (.one 15 (.one 16 .nil)))))))) (.one 8 (.one 9 (.one 10 (.one 11 (.one 12 (.one 14 (.one 15 (.one 16 .nil)))))))))) (.one 1 (.one 7 (.one 8 (.one 9 (.one 10 (.one 11 (.one 12 (.one 14 (.one 15 (.one 16 .nil))))))))))) (.two 1 6 (.one 6 (.one 7 (.one 8 (.one 9 (.one 10 (.one 11 (.one 12 (.one 14 (.one 15 (.one 16 .nil)))))))))) (.one 1 (.one 7 (.one 8 (.one 9 (.one 10 (.one 11 (.one 12 (.one 14 (.one 15 (.one 16 .nil))))))))))))) (.two 1 4 (.one 4 (.one 5 (.one 6 (.one 7 (.one 8 (.one 9 (.one 10 (.one 11 (.one 12 (.one 14 (.one 15 (.one 16 .nil)))))))))))) (.one 5 (.two 1 6 (.one 6 (.one 7 (.one 8 (.one 9 (.one 10 (.one 11 (.one 12 (.one 14 (.one 15 (.one 16 .nil)))))))))) (.one 1 (.one 7 (.one 8 (.one 9 (.one 10 (.one 11 (.one 12 (.one 14 (.one 15 (.one 16 .nil)))))))))))))) (.one 5 (.three 0 6 13 (.three 1 6 13 (.two 6 13 (.one 7 (.two 8 13 (.one 9 (.one 10 (.one 11 (.one 12 (.one 13 (.one 14 (.one 15 (.one 16 .nil)))))))) (.one 8 (.one 9 (.one 10 (.one 11 (.one 12 (.one 14 (.one 15 (.one 16 .nil)))))))))) (.one 6 (.one 7 (.one 8 (.one 9 (.one 10 (.one 11 (.one 12 (.one 14 (.one 15 (.one 16 .nil))))))))))) (.two 1 13 (.one 7 (.two 8 13 (.one 9 (.one 10 (.one 11 (.one 12 (.one 13 (.one 14 (.one 15 (.one 16 .nil)))))))) (.one 8 (.one 9 (.one 10 (.one 11 (.one 12 (.one 14 (.one 15 (.one 16 .nil)))))))))) (.one 1 (.one 7 (.one 8 (.one 9 (.one 10 (.one 11 (.one 12 (.one 14 (.one 15 (.one 16 .nil))))))))))) (.two 1 6 (.one 6 (.one 7 (.one 8 (.one 9 (.one 10 (.one 11 (.one 12 (.one 14 (.one 15 (.one 16 .nil)))))))))) (.one 1 (.one 7 (.one 8 (.one 9 (.one 10 (.one 11 (.one 12 (.one 14 (.one 15 (.one 16 .nil)))))))))))) (.two 0 13 (.two 1 13 (.one 7 (.two 8 13 (.one 9 (.one 10 (.one 11 (.one 12 (.one 13 (.one 14 (.one 15 (.one 16 .nil)))))))) (.one 8 (.one 9 (.one 10 (.one 11 (.one 12 (.one 14 (.one 15 (.one 16 .nil)))))))))) (.one 1 (.one 7 (.one 8 (.one 9 (.one 10 (.one 11 (.one 12 (.one 14 (.one 15 (.one 16 .nil))))))))))) (.one 0 (.one 1 (.one 7 (.one 8 (.one 9 (.one 10 (.one 11 (.one 12 (.one 14 (.one 15 (.one 16 .nil)))))))))))) (.two 0 6 (.two 1 6 (.one 6 (.one 7 (.one 8 (.one 9 (.one 10 (.one 11 (.one 12 (.one 14 (.one 15 (.one 16 .nil)))))))))) (.one 1 (.one 7 (.one 8 (.one 9 (.one 10 (.one 11 (.one 12 (.one 14 (.one 15 (.one 16 .nil))))))))))) (.one 0 (.one 1 (.one 7 (.one 8 (.one 9 (.one 10 (.one 11 (.one 12 (.one 14 (.one 15 (.one 16 .nil)))))))))))))) (.two 0 4 (.two 1 4 (.one 4 (.one 5 (.one 6 (.one 7 (.one 8 (.one 9 (.one 10 (.one 11 (.one 12 (.one 14 (.one 15 (.one 16 .nil)))))))))))) (.one 5 (.two 1 6 (.one 6 (.one 7 (.one 8 (.one 9 (.one 10 (.one 11 (.one 12 (.one 14 (.one 15 (.one 16 .nil)))))))))) (.one 1 (.one 7 (.one 8 (.one 9 (.one 10 (.one 11 (.one 12 (.one 14 (.one 15 (.one 16 .nil))))))))))))) (.one 5 (.two 0 6 (.two 1 6 (.one 6 (.one 7 (.one 8 (.one 9 (.one 10 (.one 11 (.one 12 (.one 14 (.one 15 (.one 16 .nil)))))))))) (.one 1 (.one 7 (.one 8 (.one 9 (.one 10 (.one 11 (.one 12 (.one 14 (.one 15 (.one 16 .nil))))))))))) (.one 0 (.one 1 (.one 7 (.one 8 (.one 9 (.one 10 (.one 11 (.one 12 (.one 14 (.one 15 (.one 16 .nil))))))))))))))))) [b1] S mixed (by kernel_rfl) ?_; clear S; intro w S)
  first | (refine wpm_lateO b1 S rfl rfl rfl (want_none _ rfl) rfl rfl (fun w' S => sv_loadO S rfl rfl (by rfl)) ?_; clear S a; intro a S) | (refine wpm_lateO b1 S rfl rfl rfl (want_none _ rfl) rfl rfl (fun w' S => sv_loadAO S rfl rfl (by rfl)) ?_; clear S a; intro a S)
  (refine wpm_v S rfl rfl rfl (want_none _ rfl) rfl rfl (fun w' S => sv_build S rfl rfl rfl) ?_; clear S a; intro a S)
  refine wpm_three rfl rfl rfl (kwg S fun b o h => by first | exact h | solve_by_elim | exact hle9 _ _ (hle8 _ _ (hle7 _ _ (hle6 _ _ (hle5 _ _ h))))) ?_ ?_ ?_
  · skip
    (refine wpl_callF S rfl rfl rfl rfl rfl rfl (listCt F) rfl ?_; clear S a; intro vl F13 a w hvl hF13 S; obtain ⟨csl, rfl, vP0, vC0, rfl, hP, hC⟩ := hvl; have hPc := hP; obtain ⟨aP, cP, rfl, -, -⟩ := hPc; have hCc := hC; obtain ⟨aC, cC, rfl, -, -⟩ := hCc)
    refine wpList_nil ?_
    refine wpm_three rfl rfl rfl (kwg S fun b o h => by first | exact h | solve_by_elim | exact hle9 _ _ (hle8 _ _ (hle7 _ _ (hle6 _ _ (hle5 _ _ h))))) ?_ ?_ ?_
    · skip
      (refine wpl_buildSlice S rfl rfl rfl rfl rfl rfl (by rfl) (by simp [Value.cells, splice, splice]) rfl (by rfl) (by rfl) ?_; clear S a; intro b14 a w hown S)
      refine wpList_nil ?_
      refine wpm_two rfl rfl (kwg S fun b o h => by first | exact h | solve_by_elim | exact hle9 _ _ (hle8 _ _ (hle7 _ _ (hle6 _ _ (hle5 _ _ h))))) ?_ ?_
      · skip
        (refine wpl_buildSlice S rfl rfl rfl rfl rfl rfl (by rfl) (by simp [Value.cells, splice, splice]) rfl (by rfl) (by rfl) ?_; clear S a; intro b17 a w hown S)
        refine wpList_nil ?_
        (refine wpm_v S rfl rfl rfl (want_none _ rfl) rfl rfl (fun w' S => sv_build S rfl rfl rfl) ?_; clear S a; intro a S)
        refine wpm_two rfl rfl (kwg S fun b o h => by first | exact h | solve_by_elim | exact hle9 _ _ (hle8 _ _ (hle7 _ _ (hle6 _ _ (hle5 _ _ h))))) ?_ ?_
        · skip
          (refine wpl_buildSlice S rfl rfl rfl rfl rfl rfl (by rfl) (by simp [Value.cells, splice, splice]) rfl (by rfl) (by rfl) ?_; clear S a; intro b19 a w hown S)
          refine wpList_nil ?_
          (refine wpm_v S rfl rfl rfl (want_none _ rfl) rfl rfl (fun w' S => sv_build S rfl rfl rfl) ?_; clear S a; intro a S)
          refine wpm_two rfl rfl (kwg S fun b o h => by first | exact h | solve_by_elim | exact hle9 _ _ (hle8 _ _ (hle7 _ _ (hle6 _ _ (hle5 _ _ h))))) ?_ ?_
          · skip
            (replace S := St.pullB b1 S; replace S := St.pullB b2 S; replace S := St.pullB b14 S; replace S := St.pullB b17 S; replace S := St.pullB b19 S; have S9 := aw_mk hP hC S; clear S; obtain ⟨F2, hle2, hMd, S⟩ := S9; refine wpl_callF S rfl rfl rfl rfl rfl rfl (newCt F2 (hE.mono (fun b o h => hle2 _ _ (hF13 _ _ h))) awM _ hMd awSz) rfl ?_; clear S a; intro u9 F3 a w hv hF3 S; obtain ⟨hv0, -⟩ := hv; obtain ⟨tb, m1, m2, m3, rfl, hT⟩ := hv0 aw_take)
            refine wpList_nil ?_
            iterate 4 (refine wpm_v S rfl rfl rfl (want_none _ rfl) rfl rfl (fun w' S => sv_pure S rfl) ?_; clear S a; intro a S)
            refine wpm_eff rfl rfl (kwg S fun b o h => by first | exact h | solve_by_elim | exact hle9 _ _ (hle8 _ _ (hle7 _ _ (hle6 _ _ (hle5 _ _ h))))) ?_
            (refine wpl_alloc S rfl rfl rfl rfl ?_; clear S a; intro b4 a w S)
            refine wpList_nil ?_
            refine wpm_eff rfl rfl (kwg S fun b o h => by first | exact h | solve_by_elim | exact hle9 _ _ (hle8 _ _ (hle7 _ _ (hle6 _ _ (hle5 _ _ h))))) ?_
            (refine wpl_v S rfl rfl rfl (sv_pure S rfl) ?_; clear S a; intro a S)
            refine wpList_nil ?_
            refine wpm_eff rfl rfl (kwg S fun b o h => by first | exact h | solve_by_elim | exact hle9 _ _ (hle8 _ _ (hle7 _ _ (hle6 _ _ (hle5 _ _ h))))) ?_
            (refine wpl_storeO S rfl rfl rfl rfl rfl (by rfl) (by simp [Value.cells, Value.oneCell', splice]) (by rfl) ?_; clear S; intro w S)
            refine wpList_nil ?_
            refine wpm_eff rfl rfl (kwg S fun b o h => by first | exact h | solve_by_elim | exact hle9 _ _ (hle8 _ _ (hle7 _ _ (hle6 _ _ (hle5 _ _ h))))) ?_
            (refine wpl_v S rfl rfl rfl (sv_pure S rfl) ?_; clear S a; intro a S)
            refine wpList_nil ?_
            refine wpm_nil (kwg S fun b o h => by first | exact h | solve_by_elim | exact hle9 _ _ (hle8 _ _ (hle7 _ _ (hle6 _ _ (hle5 _ _ h))))) ?_
            (refine hKq3 _ _ ?_)
            (replace S := St.pullB b4 S; replace S := S.drop1; refine ⟨F3, tb, m1, m2, m3, fun b o h => hF3 _ _ (hle2 _ _ (hF13 _ _ h)), hT, ?_⟩; refine S.keep ?_; repeat (first | exact trivial | refine ⟨rfl, ?_⟩))
          skip
          (refine wpl_alloc S rfl rfl rfl rfl ?_; clear S a; intro b4 a w S)
          refine wpList_nil ?_
          refine wpm_eff rfl rfl (kwg S fun b o h => by first | exact h | solve_by_elim | exact hle9 _ _ (hle8 _ _ (hle7 _ _ (hle6 _ _ (hle5 _ _ h))))) ?_
          (replace S := St.pullB b1 S; replace S := St.pullB b2 S; replace S := St.pullB b14 S; replace S := St.pullB b17 S; replace S := St.pullB b19 S; have S9 := aw_mk hP hC S; clear S; obtain ⟨F2, hle2, hMd, S⟩ := S9; refine wpl_callF S rfl rfl rfl rfl rfl rfl (newCt F2 (hE.mono (fun b o h => hle2 _ _ (hF13 _ _ h))) awM _ hMd awSz) rfl ?_; clear S a; intro u9 F3 a w hv hF3 S; obtain ⟨hv0, -⟩ := hv; obtain ⟨tb, m1, m2, m3, rfl, hT⟩ := hv0 aw_take)
          refine wpList_nil ?_
          iterate 4 (refine wpm_v S rfl rfl rfl (want_none _ rfl) rfl rfl (fun w' S => sv_pure S rfl) ?_; clear S a; intro a S)
          refine wpm_eff rfl rfl (kwg S fun b o h => by first | exact h | solve_by_elim | exact hle9 _ _ (hle8 _ _ (hle7 _ _ (hle6 _ _ (hle5 _ _ h))))) ?_
          (refine wpl_v S rfl rfl rfl (sv_pure S rfl) ?_; clear S a; intro a S)
          refine wpList_nil ?_
          refine wpm_eff rfl rfl (kwg S fun b o h => by first | exact h | solve_by_elim | exact hle9 _ _ (hle8 _ _ (hle7 _ _ (hle6 _ _ (hle5 _ _ h))))) ?_
          (refine wpl_storeO S rfl rfl rfl rfl rfl (by rfl) (by simp [Value.cells, Value.oneCell', splice]) (by rfl) ?_; clear S; intro w S)
          refine wpList_nil ?_
          refine wpm_eff rfl rfl (kwg S fun b o h => by first | exact h | solve_by_elim | exact hle9 _ _ (hle8 _ _ (hle7 _ _ (hle6 _ _ (hle5 _ _ h))))) ?_
          (refine wpl_v S rfl rfl rfl (sv_pure S rfl) ?_; clear S a; intro a S)
          refine wpList_nil ?_
          refine wpm_nil (kwg S fun b o h => by first | exact h | solve_by_elim | exact hle9 _ _ (hle8 _ _ (hle7 _ _ (hle6 _ _ (hle5 _ _ h))))) ?_
          (refine hKq3 _ _ ?_)
          (replace S := St.pullB b4 S; replace S := S.drop1; refine ⟨F3, tb, m1, m2, m3, fun b o h => hF3 _ _ (hle2 _ _ (hF13 _ _ h)), hT, ?_⟩; refine S.keep ?_; repeat (first | exact trivial | refine ⟨rfl, ?_⟩))
        skip
        (refine wpl_alloc S rfl rfl rfl rfl ?_; clear S a; intro b4 a w S)
        refine wpList_nil ?_
        refine wpm_eff rfl rfl (kwg S fun b o h => by first | exact h | solve_by_elim | exact hle9 _ _ (hle8 _ _ (hle7 _ _ (hle6 _ _ (hle5 _ _ h))))) ?_
        (refine wpl_buildSlice S rfl rfl rfl rfl rfl rfl (by rfl) (by simp [Value.cells, splice, splice]) rfl (by rfl) (by rfl) ?_; clear S a; intro b19 a w hown S)
        refine wpList_nil ?_
        (refine wpm_v S rfl rfl rfl (want_none _ rfl) rfl rfl (fun w' S => sv_build S rfl rfl rfl) ?_; clear S a; intro a S)
        refine wpm_eff rfl rfl (kwg S fun b o h => by first | exact h | solve_by_elim | exact hle9 _ _ (hle8 _ _ (hle7 _ _ (hle6 _ _ (hle5 _ _ h))))) ?_
        (replace S := St.pullB b1 S; replace S := St.pullB b2 S; replace S := St.pullB b14 S; replace S := St.pullB b17 S; replace S := St.pullB b19 S; have S9 := aw_mk hP hC S; clear S; obtain ⟨F2, hle2, hMd, S⟩ := S9; refine wpl_callF S rfl rfl rfl rfl rfl rfl (newCt F2 (hE.mono (fun b o h => hle2 _ _ (hF13 _ _ h))) awM _ hMd awSz) rfl ?_; clear S a; intro u9 F3 a w hv hF3 S; obtain ⟨hv0, -⟩ := hv; obtain ⟨tb, m1, m2, m3, rfl, hT⟩ := hv0 aw_take)
        refine wpList_nil ?_
        iterate 4 (refine wpm_v S rfl rfl rfl (want_none _ rfl) rfl rfl (fun w' S => sv_pure S rfl) ?_; clear S a; intro a S)
        refine wpm_eff rfl rfl (kwg S fun b o h => by first | exact h | solve_by_elim | exact hle9 _ _ (hle8 _ _ (hle7 _ _ (hle6 _ _ (hle5 _ _ h))))) ?_
        (refine wpl_v S rfl rfl rfl (sv_pure S rfl) ?_; clear S a; intro a S)
        refine wpList_nil ?_
        refine wpm_eff rfl rfl (kwg S fun b o h => by first | exact h | solve_by_elim | exact hle9 _ _ (hle8 _ _ (hle7 _ _ (hle6 _ _ (hle5 _ _ h))))) ?_
        (refine wpl_storeO S rfl rfl rfl rfl rfl (by rfl) (by simp [Value.cells, Value.oneCell', splice]) (by rfl) ?_; clear S; intro w S)
        refine wpList_nil ?_
        refine wpm_eff rfl rfl (kwg S fun b o h => by first | exact h | solve_by_elim | exact hle9 _ _ (hle8 _ _ (hle7 _ _ (hle6 _ _ (hle5 _ _ h))))) ?_
        (refine wpl_v S rfl rfl rfl (sv_pure S rfl) ?_; clear S a; intro a S)
        refine wpList_nil ?_
        refine wpm_nil (kwg S fun b o h => by first | exact h | solve_by_elim | exact hle9 _ _ (hle8 _ _ (hle7 _ _ (hle6 _ _ (hle5 _ _ h))))) ?_
        (refine hKq3 _ _ ?_)
        (replace S := St.pullB b4 S; replace S := S.drop1; refine ⟨F3, tb, m1, m2, m3, fun b o h => hF3 _ _ (hle2 _ _ (hF13 _ _ h)), hT, ?_⟩; refine S.keep ?_; repeat (first | exact trivial | refine ⟨rfl, ?_⟩))
      skip
      (refine wpl_alloc S rfl rfl rfl rfl ?_; clear S a; intro b4 a w S)
      refine wpList_nil ?_
      refine wpm_eff rfl rfl (kwg S fun b o h => by first | exact h | solve_by_elim | exact hle9 _ _ (hle8 _ _ (hle7 _ _ (hle6 _ _ (hle5 _ _ h))))) ?_
      (refine wpl_buildSlice S rfl rfl rfl rfl rfl rfl (by rfl) (by simp [Value.cells, splice, splice]) rfl (by rfl) (by rfl) ?_; clear S a; intro b17 a w hown S)
      refine wpList_nil ?_
      (refine wpm_v S rfl rfl rfl (want_none _ rfl) rfl rfl (fun w' S => sv_build S rfl rfl rfl) ?_; clear S a; intro a S)
      refine wpm_eff rfl rfl (kwg S fun b o h => by first | exact h | solve_by_elim | exact hle9 _ _ (hle8 _ _ (hle7 _ _ (hle6 _ _ (hle5 _ _ h))))) ?_
      (refine wpl_buildSlice S rfl rfl rfl rfl rfl rfl (by rfl) (by simp [Value.cells, splice, splice]) rfl (by rfl) (by rfl) ?_; clear S a; intro b19 a w hown S)
      refine wpList_nil ?_
      (refine wpm_v S rfl rfl rfl (want_none _ rfl) rfl rfl (fun w' S => sv_build S rfl rfl rfl) ?_; clear S a; intro a S)
      refine wpm_eff rfl rfl (kwg S fun b o h => by first | exact h | solve_by_elim | exact hle9 _ _ (hle8 _ _ (hle7 _ _ (hle6 _ _ (hle5 _ _ h))))) ?_
      (replace S := St.pullB b1 S; replace S := St.pullB b2 S; replace S := St.pullB b14 S; replace S := St.pullB b17 S; replace S := St.pullB b19 S; have S9 := aw_mk hP hC S; clear S; obtain ⟨F2, hle2, hMd, S⟩ := S9; refine wpl_callF S rfl rfl rfl rfl rfl rfl (newCt F2 (hE.mono (fun b o h => hle2 _ _ (hF13 _ _ h))) awM _ hMd awSz) rfl ?_; clear S a; intro u9 F3 a w hv hF3 S; obtain ⟨hv0, -⟩ := hv; obtain ⟨tb, m1, m2, m3, rfl, hT⟩ := hv0 aw_take)
      refine wpList_nil ?_
      iterate 4 (refine wpm_v S rfl rfl rfl (want_none _ rfl) rfl rfl (fun w' S => sv_pure S rfl) ?_; clear S a; intro a S)
      refine wpm_eff rfl rfl (kwg S fun b o h => by first | exact h | solve_by_elim | exact hle9 _ _ (hle8 _ _ (hle7 _ _ (hle6 _ _ (hle5 _ _ h))))) ?_
      (refine wpl_v S rfl rfl rfl (sv_pure S rfl) ?_; clear S a; intro a S)
      refine wpList_nil ?_
      refine wpm_eff rfl rfl (kwg S fun b o h => by first | exact h | solve_by_elim | exact hle9 _ _ (hle8 _ _ (hle7 _ _ (hle6 _ _ (hle5 _ _ h))))) ?_
      (refine wpl_storeO S rfl rfl rfl rfl rfl (by rfl) (by simp [Value.cells, Value.oneCell', splice]) (by rfl) ?_; clear S; intro w S)
      refine wpList_nil ?_
      refine wpm_eff rfl rfl (kwg S fun b o h => by first | exact h | solve_by_elim | exact hle9 _ _ (hle8 _ _ (hle7 _ _ (hle6 _ _ (hle5 _ _ h))))) ?_
      (refine wpl_v S rfl rfl rfl (sv_pure S rfl) ?_; clear S a; intro a S)
      refine wpList_nil ?_
      refine wpm_nil (kwg S fun b o h => by first | exact h | solve_by_elim | exact hle9 _ _ (hle8 _ _ (hle7 _ _ (hle6 _ _ (hle5 _ _ h))))) ?_
      (refine hKq3 _ _ ?_)
      (replace S := St.pullB b4 S; replace S := S.drop1; refine ⟨F3, tb, m1, m2, m3, fun b o h => hF3 _ _ (hle2 _ _ (hF13 _ _ h)), hT, ?_⟩; refine S.keep ?_; repeat (first | exact trivial | refine ⟨rfl, ?_⟩))
    · skip
      (refine wpl_buildSlice S rfl rfl rfl rfl rfl rfl (by rfl) (by simp [Value.cells, splice, splice]) rfl (by rfl) (by rfl) ?_; clear S a; intro b17 a w hown S)
      refine wpList_nil ?_
      (refine wpm_v S rfl rfl rfl (want_none _ rfl) rfl rfl (fun w' S => sv_build S rfl rfl rfl) ?_; clear S a; intro a S)
      refine wpm_three rfl rfl rfl (kwg S fun b o h => by first | exact h | solve_by_elim | exact hle9 _ _ (hle8 _ _ (hle7 _ _ (hle6 _ _ (hle5 _ _ h))))) ?_ ?_ ?_
      · skip
        (refine wpl_buildSlice S rfl rfl rfl rfl rfl rfl (by rfl) (by simp [Value.cells, splice, splice]) rfl (by rfl) (by rfl) ?_; clear S a; intro b14 a w hown S)
        refine wpList_nil ?_
        refine wpm_two rfl rfl (kwg S fun b o h => by first | exact h | solve_by_elim | exact hle9 _ _ (hle8 _ _ (hle7 _ _ (hle6 _ _ (hle5 _ _ h))))) ?_ ?_
        · skip
          (refine wpl_buildSlice S rfl rfl rfl rfl rfl rfl (by rfl) (by simp [Value.cells, splice, splice]) rfl (by rfl) (by rfl) ?_; clear S a; intro b19 a w hown S)
          refine wpList_nil ?_
          (refine wpm_v S rfl rfl rfl (want_none _ rfl) rfl rfl (fun w' S => sv_build S rfl rfl rfl) ?_; clear S a; intro a S)
          refine wpm_two rfl rfl (kwg S fun b o h => by first | exact h | solve_by_elim | exact hle9 _ _ (hle8 _ _ (hle7 _ _ (hle6 _ _ (hle5 _ _ h))))) ?_ ?_
          · skip
            (replace S := St.pullB b1 S; replace S := St.pullB b2 S; replace S := St.pullB b14 S; replace S := St.pullB b17 S; replace S := St.pullB b19 S; have S9 := aw_mk hP hC S; clear S; obtain ⟨F2, hle2, hMd, S⟩ := S9; refine wpl_callF S rfl rfl rfl rfl rfl rfl (newCt F2 (hE.mono (fun b o h => hle2 _ _ (hF13 _ _ h))) awM _ hMd awSz) rfl ?_; clear S a; intro u9 F3 a w hv hF3 S; obtain ⟨hv0, -⟩ := hv; obtain ⟨tb, m1, m2, m3, rfl, hT⟩ := hv0 aw_take)
            refine wpList_nil ?_
            iterate 4 (refine wpm_v S rfl rfl rfl (want_none _ rfl) rfl rfl (fun w' S => sv_pure S rfl) ?_; clear S a; intro a S)
            refine wpm_eff rfl rfl (kwg S fun b o h => by first | exact h | solve_by_elim | exact hle9 _ _ (hle8 _ _ (hle7 _ _ (hle6 _ _ (hle5 _ _ h))))) ?_
            (refine wpl_alloc S rfl rfl rfl rfl ?_; clear S a; intro b4 a w S)
            refine wpList_nil ?_
            refine wpm_eff rfl rfl (kwg S fun b o h => by first | exact h | solve_by_elim | exact hle9 _ _ (hle8 _ _ (hle7 _ _ (hle6 _ _ (hle5 _ _ h))))) ?_
            (refine wpl_v S rfl rfl rfl (sv_pure S rfl) ?_; clear S a; intro a S)
            refine wpList_nil ?_
            refine wpm_eff rfl rfl (kwg S fun b o h => by first | exact h | solve_by_elim | exact hle9 _ _ (hle8 _ _ (hle7 _ _ (hle6 _ _ (hle5 _ _ h))))) ?_
            (refine wpl_storeO S rfl rfl rfl rfl rfl (by rfl) (by simp [Value.cells, Value.oneCell', splice]) (by rfl) ?_; clear S; intro w S)
            refine wpList_nil ?_
            refine wpm_eff rfl rfl (kwg S fun b o h => by first | exact h | solve_by_elim | exact hle9 _ _ (hle8 _ _ (hle7 _ _ (hle6 _ _ (hle5 _ _ h))))) ?_
            (refine wpl_v S rfl rfl rfl (sv_pure S rfl) ?_; clear S a; intro a S)
            refine wpList_nil ?_
            refine wpm_nil (kwg S fun b o h => by first | exact h | solve_by_elim | exact hle9 _ _ (hle8 _ _ (hle7 _ _ (hle6 _ _ (hle5 _ _ h))))) ?_
            (refine hKq3 _ _ ?_)
            (replace S := St.pullB b4 S; replace S := S.drop1; refine ⟨F3, tb, m1, m2, m3, fun b o h => hF3 _ _ (hle2 _ _ (hF13 _ _ h)), hT, ?_⟩; refine S.keep ?_; repeat (first | exact trivial | refine ⟨rfl, ?_⟩))
          skip
          (refine wpl_alloc S rfl rfl rfl rfl ?_; clear S a; intro b4 a w S)
          refine wpList_nil ?_
          refine wpm_eff rfl rfl (kwg S fun b o h => by first | exact h | solve_by_elim | exact hle9 _ _ (hle8 _ _ (hle7 _ _ (hle6 _ _ (hle5 _ _ h))))) ?_
          (replace S := St.pullB b1 S; replace S := St.pullB b2 S; replace S := St.pullB b14 S; replace S := St.pullB b17 S; replace S := St.pullB b19 S; have S9 := aw_mk hP hC S; clear S; obtain ⟨F2, hle2, hMd, S⟩ := S9; refine wpl_callF S rfl rfl rfl rfl rfl rfl (newCt F2 (hE.mono (fun b o h => hle2 _ _ (hF13 _ _ h))) awM _ hMd awSz) rfl ?_; clear S a; intro u9 F3 a w hv hF3 S; obtain ⟨hv0, -⟩ := hv; obtain ⟨tb, m1, m2, m3, rfl, hT⟩ := hv0 aw_take)
          refine wpList_nil ?_
          iterate 4 (refine wpm_v S rfl rfl rfl (want_none _ rfl) rfl rfl (fun w' S => sv_pure S rfl) ?_; clear S a; intro a S)
          refine wpm_eff rfl rfl (kwg S fun b o h => by first | exact h | solve_by_elim | exact hle9 _ _ (hle8 _ _ (hle7 _ _ (hle6 _ _ (hle5 _ _ h))))) ?_
          (refine wpl_v S rfl rfl rfl (sv_pure S rfl) ?_; clear S a; intro a S)
          refine wpList_nil ?_
          refine wpm_eff rfl rfl (kwg S fun b o h => by first | exact h | solve_by_elim | exact hle9 _ _ (hle8 _ _ (hle7 _ _ (hle6 _ _ (hle5 _ _ h))))) ?_
          (refine wpl_storeO S rfl rfl rfl rfl rfl (by rfl) (by simp [Value.cells, Value.oneCell', splice]) (by rfl) ?_; clear S; intro w S)
          refine wpList_nil ?_
          refine wpm_eff rfl rfl (kwg S fun b o h => by first | exact h | solve_by_elim | exact hle9 _ _ (hle8 _ _ (hle7 _ _ (hle6 _ _ (hle5 _ _ h))))) ?_
          (refine wpl_v S rfl rfl rfl (sv_pure S rfl) ?_; clear S a; intro a S)
          refine wpList_nil ?_
          refine wpm_nil (kwg S fun b o h => by first | exact h | solve_by_elim | exact hle9 _ _ (hle8 _ _ (hle7 _ _ (hle6 _ _ (hle5 _ _ h))))) ?_
          (refine hKq3 _ _ ?_)
          (replace S := St.pullB b4 S; replace S := S.drop1; refine ⟨F3, tb, m1, m2, m3, fun b o h => hF3 _ _ (hle2 _ _ (hF13 _ _ h)), hT, ?_⟩; refine S.keep ?_; repeat (first | exact trivial | refine ⟨rfl, ?_⟩))
        skip
        (refine wpl_alloc S rfl rfl rfl rfl ?_; clear S a; intro b4 a w S)
        refine wpList_nil ?_
        refine wpm_eff rfl rfl (kwg S fun b o h => by first | exact h | solve_by_elim | exact hle9 _ _ (hle8 _ _ (hle7 _ _ (hle6 _ _ (hle5 _ _ h))))) ?_
        (refine wpl_buildSlice S rfl rfl rfl rfl rfl rfl (by rfl) (by simp [Value.cells, splice, splice]) rfl (by rfl) (by rfl) ?_; clear S a; intro b19 a w hown S)
        refine wpList_nil ?_
        (refine wpm_v S rfl rfl rfl (want_none _ rfl) rfl rfl (fun w' S => sv_build S rfl rfl rfl) ?_; clear S a; intro a S)
        refine wpm_eff rfl rfl (kwg S fun b o h => by first | exact h | solve_by_elim | exact hle9 _ _ (hle8 _ _ (hle7 _ _ (hle6 _ _ (hle5 _ _ h))))) ?_
        (replace S := St.pullB b1 S; replace S := St.pullB b2 S; replace S := St.pullB b14 S; replace S := St.pullB b17 S; replace S := St.pullB b19 S; have S9 := aw_mk hP hC S; clear S; obtain ⟨F2, hle2, hMd, S⟩ := S9; refine wpl_callF S rfl rfl rfl rfl rfl rfl (newCt F2 (hE.mono (fun b o h => hle2 _ _ (hF13 _ _ h))) awM _ hMd awSz) rfl ?_; clear S a; intro u9 F3 a w hv hF3 S; obtain ⟨hv0, -⟩ := hv; obtain ⟨tb, m1, m2, m3, rfl, hT⟩ := hv0 aw_take)
        refine wpList_nil ?_
        iterate 4 (refine wpm_v S rfl rfl rfl (want_none _ rfl) rfl rfl (fun w' S => sv_pure S rfl) ?_; clear S a; intro a S)
        refine wpm_eff rfl rfl (kwg S fun b o h => by first | exact h | solve_by_elim | exact hle9 _ _ (hle8 _ _ (hle7 _ _ (hle6 _ _ (hle5 _ _ h))))) ?_
        (refine wpl_v S rfl rfl rfl (sv_pure S rfl) ?_; clear S a; intro a S)
        refine wpList_nil ?_
        refine wpm_eff rfl rfl (kwg S fun b o h => by first | exact h | solve_by_elim | exact hle9 _ _ (hle8 _ _ (hle7 _ _ (hle6 _ _ (hle5 _ _ h))))) ?_
        (refine wpl_storeO S rfl rfl rfl rfl rfl (by rfl) (by simp [Value.cells, Value.oneCell', splice]) (by rfl) ?_; clear S; intro w S)
        refine wpList_nil ?_
        refine wpm_eff rfl rfl (kwg S fun b o h => by first | exact h | solve_by_elim | exact hle9 _ _ (hle8 _ _ (hle7 _ _ (hle6 _ _ (hle5 _ _ h))))) ?_
        (refine wpl_v S rfl rfl rfl (sv_pure S rfl) ?_; clear S a; intro a S)
        refine wpList_nil ?_
        refine wpm_nil (kwg S fun b o h => by first | exact h | solve_by_elim | exact hle9 _ _ (hle8 _ _ (hle7 _ _ (hle6 _ _ (hle5 _ _ h))))) ?_
        (refine hKq3 _ _ ?_)
        (replace S := St.pullB b4 S; replace S := S.drop1; refine ⟨F3, tb, m1, m2, m3, fun b o h => hF3 _ _ (hle2 _ _ (hF13 _ _ h)), hT, ?_⟩; refine S.keep ?_; repeat (first | exact trivial | refine ⟨rfl, ?_⟩))
      · skip
        (refine wpl_buildSlice S rfl rfl rfl rfl rfl rfl (by rfl) (by simp [Value.cells, splice, splice]) rfl (by rfl) (by rfl) ?_; clear S a; intro b19 a w hown S)
        refine wpList_nil ?_
        refine wpm_two rfl rfl (kwg S fun b o h => by first | exact h | solve_by_elim | exact hle9 _ _ (hle8 _ _ (hle7 _ _ (hle6 _ _ (hle5 _ _ h))))) ?_ ?_
        · skip
          (refine wpl_buildSlice S rfl rfl rfl rfl rfl rfl (by rfl) (by simp [Value.cells, splice, splice]) rfl (by rfl) (by rfl) ?_; clear S a; intro b14 a w hown S)
          refine wpList_nil ?_
          (refine wpm_v S rfl rfl rfl (want_none _ rfl) rfl rfl (fun w' S => sv_build S rfl rfl rfl) ?_; clear S a; intro a S)
          refine wpm_two rfl rfl (kwg S fun b o h => by first | exact h | solve_by_elim | exact hle9 _ _ (hle8 _ _ (hle7 _ _ (hle6 _ _ (hle5 _ _ h))))) ?_ ?_
          · skip
            (replace S := St.pullB b1 S; replace S := St.pullB b2 S; replace S := St.pullB b14 S; replace S := St.pullB b17 S; replace S := St.pullB b19 S; have S9 := aw_mk hP hC S; clear S; obtain ⟨F2, hle2, hMd, S⟩ := S9; refine wpl_callF S rfl rfl rfl rfl rfl rfl (newCt F2 (hE.mono (fun b o h => hle2 _ _ (hF13 _ _ h))) awM _ hMd awSz) rfl ?_; clear S a; intro u9 F3 a w hv hF3 S; obtain ⟨hv0, -⟩ := hv; obtain ⟨tb, m1, m2, m3, rfl, hT⟩ := hv0 aw_take)
            refine wpList_nil ?_
            iterate 4 (refine wpm_v S rfl rfl rfl (want_none _ rfl) rfl rfl (fun w' S => sv_pure S rfl) ?_; clear S a; intro a S)
            refine wpm_eff rfl rfl (kwg S fun b o h => by first | exact h | solve_by_elim | exact hle9 _ _ (hle8 _ _ (hle7 _ _ (hle6 _ _ (hle5 _ _ h))))) ?_
            (refine wpl_alloc S rfl rfl rfl rfl ?_; clear S a; intro b4 a w S)
            refine wpList_nil ?_
            refine wpm_eff rfl rfl (kwg S fun b o h => by first | exact h | solve_by_elim | exact hle9 _ _ (hle8 _ _ (hle7 _ _ (hle6 _ _ (hle5 _ _ h))))) ?_
            (refine wpl_v S rfl rfl rfl (sv_pure S rfl) ?_; clear S a; intro a S)
            refine wpList_nil ?_
            refine wpm_eff rfl rfl (kwg S fun b o h => by first | exact h | solve_by_elim | exact hle9 _ _ (hle8 _ _ (hle7 _ _ (hle6 _ _ (hle5 _ _ h))))) ?_
            (refine wpl_storeO S rfl rfl rfl rfl rfl (by rfl) (by simp [Value.cells, Value.oneCell', splice]) (by rfl) ?_; clear S; intro w S)
            refine wpList_nil ?_
            refine wpm_eff rfl rfl (kwg S fun b o h => by first | exact h | solve_by_elim | exact hle9 _ _ (hle8 _ _ (hle7 _ _ (hle6 _ _ (hle5 _ _ h))))) ?_
            (refine wpl_v S rfl rfl rfl (sv_pure S rfl) ?_; clear S a; intro a S)
            refine wpList_nil ?_
            refine wpm_nil (kwg S fun b o h => by first | exact h | solve_by_elim | exact hle9 _ _ (hle8 _ _ (hle7 _ _ (hle6 _ _ (hle5 _ _ h))))) ?_
            (refine hKq3 _ _ ?_)
            (replace S := St.pullB b4 S; replace S := S.drop1; refine ⟨F3, tb, m1, m2, m3, fun b o h => hF3 _ _ (hle2 _ _ (hF13 _ _ h)), hT, ?_⟩; refine S.keep ?_; repeat (first | exact trivial | refine ⟨rfl, ?_⟩))
          skip
          (refine wpl_alloc S rfl rfl rfl rfl ?_; clear S a; intro b4 a w S)
          refine wpList_nil ?_
          refine wpm_eff rfl rfl (kwg S fun b o h => by first | exact h | solve_by_elim | exact hle9 _ _ (hle8 _ _ (hle7 _ _ (hle6 _ _ (hle5 _ _ h))))) ?_
          (replace S := St.pullB b1 S; replace S := St.pullB b2 S; replace S := St.pullB b14 S; replace S := St.pullB b17 S; replace S := St.pullB b19 S; have S9 := aw_mk hP hC S; clear S; obtain ⟨F2, hle2, hMd, S⟩ := S9; refine wpl_callF S rfl rfl rfl rfl rfl rfl (newCt F2 (hE.mono (fun b o h => hle2 _ _ (hF13 _ _ h))) awM _ hMd awSz) rfl ?_; clear S a; intro u9 F3 a w hv hF3 S; obtain ⟨hv0, -⟩ := hv; obtain ⟨tb, m1, m2, m3, rfl, hT⟩ := hv0 aw_take)
          refine wpList_nil ?_
          iterate 4 (refine wpm_v S rfl rfl rfl (want_none _ rfl) rfl rfl (fun w' S => sv_pure S rfl) ?_; clear S a; intro a S)
          refine wpm_eff rfl rfl (kwg S fun b o h => by first | exact h | solve_by_elim | exact hle9 _ _ (hle8 _ _ (hle7 _ _ (hle6 _ _ (hle5 _ _ h))))) ?_
          (refine wpl_v S rfl rfl rfl (sv_pure S rfl) ?_; clear S a; intro a S)
          refine wpList_nil ?_
          refine wpm_eff rfl rfl (kwg S fun b o h => by first | exact h | solve_by_elim | exact hle9 _ _ (hle8 _ _ (hle7 _ _ (hle6 _ _ (hle5 _ _ h))))) ?_
          (refine wpl_storeO S rfl rfl rfl rfl rfl (by rfl) (by simp [Value.cells, Value.oneCell', splice]) (by rfl) ?_; clear S; intro w S)
          refine wpList_nil ?_
          refine wpm_eff rfl rfl (kwg S fun b o h => by first | exact h | solve_by_elim | exact hle9 _ _ (hle8 _ _ (hle7 _ _ (hle6 _ _ (hle5 _ _ h))))) ?_
          (refine wpl_v S rfl rfl rfl (sv_pure S rfl) ?_; clear S a; intro a S)
          refine wpList_nil ?_
          refine wpm_nil (kwg S fun b o h => by first | exact h | solve_by_elim | exact hle9 _ _ (hle8 _ _ (hle7 _ _ (hle6 _ _ (hle5 _ _ h))))) ?_
          (refine hKq3 _ _ ?_)
          (replace S := St.pullB b4 S; replace S := S.drop1; refine ⟨F3, tb, m1, m2, m3, fun b o h => hF3 _ _ (hle2 _ _ (hF13 _ _ h)), hT, ?_⟩; refine S.keep ?_; repeat (first | exact trivial | refine ⟨rfl, ?_⟩))
        skip
        (refine wpl_alloc S rfl rfl rfl rfl ?_; clear S a; intro b4 a w S)
        refine wpList_nil ?_
        refine wpm_eff rfl rfl (kwg S fun b o h => by first | exact h | solve_by_elim | exact hle9 _ _ (hle8 _ _ (hle7 _ _ (hle6 _ _ (hle5 _ _ h))))) ?_
        (refine wpl_buildSlice S rfl rfl rfl rfl rfl rfl (by rfl) (by simp [Value.cells, splice, splice]) rfl (by rfl) (by rfl) ?_; clear S a; intro b14 a w hown S)
        refine wpList_nil ?_
        (refine wpm_v S rfl rfl rfl (want_none _ rfl) rfl rfl (fun w' S => sv_build S rfl rfl rfl) ?_; clear S a; intro a S)
        refine wpm_eff rfl rfl (kwg S fun b o h => by first | exact h | solve_by_elim | exact hle9 _ _ (hle8 _ _ (hle7 _ _ (hle6 _ _ (hle5 _ _ h))))) ?_
        (replace S := St.pullB b1 S; replace S := St.pullB b2 S; replace S := St.pullB b14 S; replace S := St.pullB b17 S; replace S := St.pullB b19 S; have S9 := aw_mk hP hC S; clear S; obtain ⟨F2, hle2, hMd, S⟩ := S9; refine wpl_callF S rfl rfl rfl rfl rfl rfl (newCt F2 (hE.mono (fun b o h => hle2 _ _ (hF13 _ _ h))) awM _ hMd awSz) rfl ?_; clear S a; intro u9 F3 a w hv hF3 S; obtain ⟨hv0, -⟩ := hv; obtain ⟨tb, m1, m2, m3, rfl, hT⟩ := hv0 aw_take)
        refine wpList_nil ?_
        iterate 4 (refine wpm_v S rfl rfl rfl (want_none _ rfl) rfl rfl (fun w' S => sv_pure S rfl) ?_; clear S a; intro a S)
        refine wpm_eff rfl rfl (kwg S fun b o h => by first | exact h | solve_by_elim | exact hle9 _ _ (hle8 _ _ (hle7 _ _ (hle6 _ _ (hle5 _ _ h))))) ?_
        (refine wpl_v S rfl rfl rfl (sv_pure S rfl) ?_; clear S a; intro a S)
        refine wpList_nil ?_
        refine wpm_eff rfl rfl (kwg S fun b o h => by first | exact h | solve_by_elim | exact hle9 _ _ (hle8 _ _ (hle7 _ _ (hle6 _ _ (hle5 _ _ h))))) ?_
        (refine wpl_storeO S rfl rfl rfl rfl rfl (by rfl) (by simp [Value.cells, Value.oneCell', splice]) (by rfl) ?_; clear S; intro w S)
        refine wpList_nil ?_
        refine wpm_eff rfl rfl (kwg S fun b o h => by first | exact h | solve_by_elim | exact hle9 _ _ (hle8 _ _ (hle7 _ _ (hle6 _ _ (hle5 _ _ h))))) ?_
        (refine wpl_v S rfl rfl rfl (sv_pure S rfl) ?_; clear S a; intro a S)
        refine wpList_nil ?_
        refine wpm_nil (kwg S fun b o h => by first | exact h | solve_by_elim | exact hle9 _ _ (hle8 _ _ (hle7 _ _ (hle6 _ _ (hle5 _ _ h))))) ?_
        (refine hKq3 _ _ ?_)
        (replace S := St.pullB b4 S; replace S := S.drop1; refine ⟨F3, tb, m1, m2, m3, fun b o h => hF3 _ _ (hle2 _ _ (hF13 _ _ h)), hT, ?_⟩; refine S.keep ?_; repeat (first | exact trivial | refine ⟨rfl, ?_⟩))
      skip
      (refine wpl_alloc S rfl rfl rfl rfl ?_; clear S a; intro b4 a w S)
      refine wpList_nil ?_
      refine wpm_two rfl rfl (kwg S fun b o h => by first | exact h | solve_by_elim | exact hle9 _ _ (hle8 _ _ (hle7 _ _ (hle6 _ _ (hle5 _ _ h))))) ?_ ?_
      · skip
        (refine wpl_buildSlice S rfl rfl rfl rfl rfl rfl (by rfl) (by simp [Value.cells, splice, splice]) rfl (by rfl) (by rfl) ?_; clear S a; intro b14 a w hown S)
        refine wpList_nil ?_
        refine wpm_eff rfl rfl (kwg S fun b o h => by first | exact h | solve_by_elim | exact hle9 _ _ (hle8 _ _ (hle7 _ _ (hle6 _ _ (hle5 _ _ h))))) ?_
        (refine wpl_buildSlice S rfl rfl rfl rfl rfl rfl (by rfl) (by simp [Value.cells, splice, splice]) rfl (by rfl) (by rfl) ?_; clear S a; intro b19 a w hown S)
        refine wpList_nil ?_
        (refine wpm_v S rfl rfl rfl (want_none _ rfl) rfl rfl (fun w' S => sv_build S rfl rfl rfl) ?_; clear S a; intro a S)
        refine wpm_eff rfl rfl (kwg S fun b o h => by first | exact h | solve_by_elim | exact hle9 _ _ (hle8 _ _ (hle7 _ _ (hle6 _ _ (hle5 _ _ h))))) ?_
        (replace S := St.pullB b1 S; replace S := St.pullB b2 S; replace S := St.pullB b14 S; replace S := St.pullB b17 S; replace S := St.pullB b19 S; have S9 := aw_mk hP hC S; clear S; obtain ⟨F2, hle2, hMd, S⟩ := S9; refine wpl_callF S rfl rfl rfl rfl rfl rfl (newCt F2 (hE.mono (fun b o h => hle2 _ _ (hF13 _ _ h))) awM _ hMd awSz) rfl ?_; clear S a; intro u9 F3 a w hv hF3 S; obtain ⟨hv0, -⟩ := hv; obtain ⟨tb, m1, m2, m3, rfl, hT⟩ := hv0 aw_take)
        refine wpList_nil ?_
        iterate 4 (refine wpm_v S rfl rfl rfl (want_none _ rfl) rfl rfl (fun w' S => sv_pure S rfl) ?_; clear S a; intro a S)
        refine wpm_eff rfl rfl (kwg S fun b o h => by first | exact h | solve_by_elim | exact hle9 _ _ (hle8 _ _ (hle7 _ _ (hle6 _ _ (hle5 _ _ h))))) ?_
        (refine wpl_v S rfl rfl rfl (sv_pure S rfl) ?_; clear S a; intro a S)
        refine wpList_nil ?_
        refine wpm_eff rfl rfl (kwg S fun b o h => by first | exact h | solve_by_elim | exact hle9 _ _ (hle8 _ _ (hle7 _ _ (hle6 _ _ (hle5 _ _ h))))) ?_
        (refine wpl_storeO S rfl rfl rfl rfl rfl (by rfl) (by simp [Value.cells, Value.oneCell', splice]) (by rfl) ?_; clear S; intro w S)
        refine wpList_nil ?_
        refine wpm_eff rfl rfl (kwg S fun b o h => by first | exact h | solve_by_elim | exact hle9 _ _ (hle8 _ _ (hle7 _ _ (hle6 _ _ (hle5 _ _ h))))) ?_
        (refine wpl_v S rfl rfl rfl (sv_pure S rfl) ?_; clear S a; intro a S)
        refine wpList_nil ?_
        refine wpm_nil (kwg S fun b o h => by first | exact h | solve_by_elim | exact hle9 _ _ (hle8 _ _ (hle7 _ _ (hle6 _ _ (hle5 _ _ h))))) ?_
        (refine hKq3 _ _ ?_)
        (replace S := St.pullB b4 S; replace S := S.drop1; refine ⟨F3, tb, m1, m2, m3, fun b o h => hF3 _ _ (hle2 _ _ (hF13 _ _ h)), hT, ?_⟩; refine S.keep ?_; repeat (first | exact trivial | refine ⟨rfl, ?_⟩))
      skip
      (refine wpl_buildSlice S rfl rfl rfl rfl rfl rfl (by rfl) (by simp [Value.cells, splice, splice]) rfl (by rfl) (by rfl) ?_; clear S a; intro b19 a w hown S)
      refine wpList_nil ?_
      refine wpm_eff rfl rfl (kwg S fun b o h => by first | exact h | solve_by_elim | exact hle9 _ _ (hle8 _ _ (hle7 _ _ (hle6 _ _ (hle5 _ _ h))))) ?_
      (refine wpl_buildSlice S rfl rfl rfl rfl rfl rfl (by rfl) (by simp [Value.cells, splice, splice]) rfl (by rfl) (by rfl) ?_; clear S a; intro b14 a w hown S)
      refine wpList_nil ?_
      (refine wpm_v S rfl rfl rfl (want_none _ rfl) rfl rfl (fun w' S => sv_build S rfl rfl rfl) ?_; clear S a; intro a S)
      refine wpm_eff rfl rfl (kwg S fun b o h => by first | exact h | solve_by_elim | exact hle9 _ _ (hle8 _ _ (hle7 _ _ (hle6 _ _ (hle5 _ _ h))))) ?_
      (replace S := St.pullB b1 S; replace S := St.pullB b2 S; replace S := St.pullB b14 S; replace S := St.pullB b17 S; replace S := St.pullB b19 S; have S9 := aw_mk hP hC S; clear S; obtain ⟨F2, hle2, hMd, S⟩ := S9; refine wpl_callF S rfl rfl rfl rfl rfl rfl (newCt F2 (hE.mono (fun b o h => hle2 _ _ (hF13 _ _ h))) awM _ hMd awSz) rfl ?_; clear S a; intro u9 F3 a w hv hF3 S; obtain ⟨hv0, -⟩ := hv; obtain ⟨tb, m1, m2, m3, rfl, hT⟩ := hv0 aw_take)
      refine wpList_nil ?_
      iterate 4 (refine wpm_v S rfl rfl rfl (want_none _ rfl) rfl rfl (fun w' S => sv_pure S rfl) ?_; clear S a; intro a S)
      refine wpm_eff rfl rfl (kwg S fun b o h => by first | exact h | solve_by_elim | exact hle9 _ _ (hle8 _ _ (hle7 _ _ (hle6 _ _ (hle5 _ _ h))))) ?_
      (refine wpl_v S rfl rfl rfl (sv_pure S rfl) ?_; clear S a; intro a S)
      refine wpList_nil ?_
      refine wpm_eff rfl rfl (kwg S fun b o h => by first | exact h | solve_by_elim | exact hle9 _ _ (hle8 _ _ (hle7 _ _ (hle6 _ _ (hle5 _ _ h))))) ?_
      (refine wpl_storeO S rfl rfl rfl rfl rfl (by rfl) (by simp [Value.cells, Value.oneCell', splice]) (by rfl) ?_; clear S; intro w S)
      refine wpList_nil ?_
      refine wpm_eff rfl rfl (kwg S fun b o h => by first | exact h | solve_by_elim | exact hle9 _ _ (hle8 _ _ (hle7 _ _ (hle6 _ _ (hle5 _ _ h))))) ?_
      (refine wpl_v S rfl rfl rfl (sv_pure S rfl) ?_; clear S a; intro a S)
      refine wpList_nil ?_
      refine wpm_nil (kwg S fun b o h => by first | exact h | solve_by_elim | exact hle9 _ _ (hle8 _ _ (hle7 _ _ (hle6 _ _ (hle5 _ _ h))))) ?_
      (refine hKq3 _ _ ?_)
      (replace S := St.pullB b4 S; replace S := S.drop1; refine ⟨F3, tb, m1, m2, m3, fun b o h => hF3 _ _ (hle2 _ _ (hF13 _ _ h)), hT, ?_⟩; refine S.keep ?_; repeat (first | exact trivial | refine ⟨rfl, ?_⟩))
    skip
    (refine wpl_alloc S rfl rfl rfl rfl ?_; clear S a; intro b4 a w S)
    refine wpList_nil ?_
    refine wpm_two rfl rfl (kwg S fun b o h => by first | exact h | solve_by_elim | exact hle9 _ _ (hle8 _ _ (hle7 _ _ (hle6 _ _ (hle5 _ _ h))))) ?_ ?_
    · skip
      (refine wpl_buildSlice S rfl rfl rfl rfl rfl rfl (by rfl) (by simp [Value.cells, splice, splice]) rfl (by rfl) (by rfl) ?_; clear S a; intro b14 a w hown S)
      refine wpList_nil ?_
      refine wpm_eff rfl rfl (kwg S fun b o h => by first | exact h | solve_by_elim | exact hle9 _ _ (hle8 _ _ (hle7 _ _ (hle6 _ _ (hle5 _ _ h))))) ?_
      (refine wpl_buildSlice S rfl rfl rfl rfl rfl rfl (by rfl) (by simp [Value.cells, splice, splice]) rfl (by rfl) (by rfl) ?_; clear S a; intro b17 a w hown S)
      refine wpList_nil ?_
      (refine wpm_v S rfl rfl rfl (want_none _ rfl) rfl rfl (fun w' S => sv_build S rfl rfl rfl) ?_; clear S a; intro a S)
      refine wpm_eff rfl rfl (kwg S fun b o h => by first | exact h | solve_by_elim | exact hle9 _ _ (hle8 _ _ (hle7 _ _ (hle6 _ _ (hle5 _ _ h))))) ?_
      (refine wpl_buildSlice S rfl rfl rfl rfl rfl rfl (by rfl) (by simp [Value.cells, splice, splice]) rfl (by rfl) (by rfl) ?_; clear S a; intro b19 a w hown S)
      refine wpList_nil ?_
      (refine wpm_v S rfl rfl rfl (want_none _ rfl) rfl rfl (fun w' S => sv_build S rfl rfl rfl) ?_; clear S a; intro a S)
      refine wpm_eff rfl rfl (kwg S fun b o h => by first | exact h | solve_by_elim | exact hle9 _ _ (hle8 _ _ (hle7 _ _ (hle6 _ _ (hle5 _ _ h))))) ?_
      (replace S := St.pullB b1 S; replace S := St.pullB b2 S; replace S := St.pullB b14 S; replace S := St.pullB b17 S; replace S := St.pullB b19 S; have S9 := aw_mk hP hC S; clear S; obtain ⟨F2, hle2, hMd, S⟩ := S9; refine wpl_callF S rfl rfl rfl rfl rfl rfl (newCt F2 (hE.mono (fun b o h => hle2 _ _ (hF13 _ _ h))) awM _ hMd awSz) rfl ?_; clear S a; intro u9 F3 a w hv hF3 S; obtain ⟨hv0, -⟩ := hv; obtain ⟨tb, m1, m2, m3, rfl, hT⟩ := hv0 aw_take)
      refine wpList_nil ?_
      iterate 4 (refine wpm_v S rfl rfl rfl (want_none _ rfl) rfl rfl (fun w' S => sv_pure S rfl) ?_; clear S a; intro a S)
      refine wpm_eff rfl rfl (kwg S fun b o h => by first | exact h | solve_by_elim | exact hle9 _ _ (hle8 _ _ (hle7 _ _ (hle6 _ _ (hle5 _ _ h))))) ?_
      (refine wpl_v S rfl rfl rfl (sv_pure S rfl) ?_; clear S a; intro a S)
      refine wpList_nil ?_
      refine wpm_eff rfl rfl (kwg S fun b o h => by first | exact h | solve_by_elim | exact hle9 _ _ (hle8 _ _ (hle7 _ _ (hle6 _ _ (hle5 _ _ h))))) ?_
      (refine wpl_storeO S rfl rfl rfl rfl rfl (by rfl) (by simp [Value.cells, Value.oneCell', splice]) (by rfl) ?_; clear S; intro w S)
      refine wpList_nil ?_
      refine wpm_eff rfl rfl (kwg S fun b o h => by first | exact h | solve_by_elim | exact hle9 _ _ (hle8 _ _ (hle7 _ _ (hle6 _ _ (hle5 _ _ h))))) ?_
      (refine wpl_v S rfl rfl rfl (sv_pure S rfl) ?_; clear S a; intro a S)
      refine wpList_nil ?_
      refine wpm_nil (kwg S fun b o h => by first | exact h | solve_by_elim | exact hle9 _ _ (hle8 _ _ (hle7 _ _ (hle6 _ _ (hle5 _ _ h))))) ?_
      (refine hKq3 _ _ ?_)
      (replace S := St.pullB b4 S; replace S := S.drop1; refine ⟨F3, tb, m1, m2, m3, fun b o h => hF3 _ _ (hle2 _ _ (hF13 _ _ h)), hT, ?_⟩; refine S.keep ?_; repeat (first | exact trivial | refine ⟨rfl, ?_⟩))
    skip
    (refine wpl_buildSlice S rfl rfl rfl rfl rfl rfl (by rfl) (by simp [Value.cells, splice, splice]) rfl (by rfl) (by rfl) ?_; clear S a; intro b17 a w hown S)
    refine wpList_nil ?_
    (refine wpm_v S rfl rfl rfl (want_none _ rfl) rfl rfl (fun w' S => sv_build S rfl rfl rfl) ?_; clear S a; intro a S)
    refine wpm_two rfl rfl (kwg S fun b o h => by first | exact h | solve_by_elim | exact hle9 _ _ (hle8 _ _ (hle7 _ _ (hle6 _ _ (hle5 _ _ h))))) ?_ ?_
    · skip
      (refine wpl_buildSlice S rfl rfl rfl rfl rfl rfl (by rfl) (by simp [Value.cells, splice, splice]) rfl (by rfl) (by rfl) ?_; clear S a; intro b14 a w hown S)
      refine wpList_nil ?_
      refine wpm_eff rfl rfl (kwg S fun b o h => by first | exact h | solve_by_elim | exact hle9 _ _ (hle8 _ _ (hle7 _ _ (hle6 _ _ (hle5 _ _ h))))) ?_
      (refine wpl_buildSlice S rfl rfl rfl rfl rfl rfl (by rfl) (by simp [Value.cells, splice, splice]) rfl (by rfl) (by rfl) ?_; clear S a; intro b19 a w hown S)
      refine wpList_nil ?_
      (refine wpm_v S rfl rfl rfl (want_none _ rfl) rfl rfl (fun w' S => sv_build S rfl rfl rfl) ?_; clear S a; intro a S)
      refine wpm_eff rfl rfl (kwg S fun b o h => by first | exact h | solve_by_elim | exact hle9 _ _ (hle8 _ _ (hle7 _ _ (hle6 _ _ (hle5 _ _ h))))) ?_
      (replace S := St.pullB b1 S; replace S := St.pullB b2 S; replace S := St.pullB b14 S; replace S := St.pullB b17 S; replace S := St.pullB b19 S; have S9 := aw_mk hP hC S; clear S; obtain ⟨F2, hle2, hMd, S⟩ := S9; refine wpl_callF S rfl rfl rfl rfl rfl rfl (newCt F2 (hE.mono (fun b o h => hle2 _ _ (hF13 _ _ h))) awM _ hMd awSz) rfl ?_; clear S a; intro u9 F3 a w hv hF3 S; obtain ⟨hv0, -⟩ := hv; obtain ⟨tb, m1, m2, m3, rfl, hT⟩ := hv0 aw_take)
      refine wpList_nil ?_
      iterate 4 (refine wpm_v S rfl rfl rfl (want_none _ rfl) rfl rfl (fun w' S => sv_pure S rfl) ?_; clear S a; intro a S)
      refine wpm_eff rfl rfl (kwg S fun b o h => by first | exact h | solve_by_elim | exact hle9 _ _ (hle8 _ _ (hle7 _ _ (hle6 _ _ (hle5 _ _ h))))) ?_
      (refine wpl_v S rfl rfl rfl (sv_pure S rfl) ?_; clear S a; intro a S)
      refine wpList_nil ?_
      refine wpm_eff rfl rfl (kwg S fun b o h => by first | exact h | solve_by_elim | exact hle9 _ _ (hle8 _ _ (hle7 _ _ (hle6 _ _ (hle5 _ _ h))))) ?_
      (refine wpl_storeO S rfl rfl rfl rfl rfl (by rfl) (by simp [Value.cells, Value.oneCell', splice]) (by rfl) ?_; clear S; intro w S)
      refine wpList_nil ?_
      refine wpm_eff rfl rfl (kwg S fun b o h => by first | exact h | solve_by_elim | exact hle9 _ _ (hle8 _ _ (hle7 _ _ (hle6 _ _ (hle5 _ _ h))))) ?_
      (refine wpl_v S rfl rfl rfl (sv_pure S rfl) ?_; clear S a; intro a S)
      refine wpList_nil ?_
      refine wpm_nil (kwg S fun b o h => by first | exact h | solve_by_elim | exact hle9 _ _ (hle8 _ _ (hle7 _ _ (hle6 _ _ (hle5 _ _ h))))) ?_
      (refine hKq3 _ _ ?_)
      (replace S := St.pullB b4 S; replace S := S.drop1; refine ⟨F3, tb, m1, m2, m3, fun b o h => hF3 _ _ (hle2 _ _ (hF13 _ _ h)), hT, ?_⟩; refine S.keep ?_; repeat (first | exact trivial | refine ⟨rfl, ?_⟩))
    skip
    (refine wpl_buildSlice S rfl rfl rfl rfl rfl rfl (by rfl) (by simp [Value.cells, splice, splice]) rfl (by rfl) (by rfl) ?_; clear S a; intro b19 a w hown S)
    refine wpList_nil ?_
    refine wpm_eff rfl rfl (kwg S fun b o h => by first | exact h | solve_by_elim | exact hle9 _ _ (hle8 _ _ (hle7 _ _ (hle6 _ _ (hle5 _ _ h))))) ?_
    (refine wpl_buildSlice S rfl rfl rfl rfl rfl rfl (by rfl) (by simp [Value.cells, splice, splice]) rfl (by rfl) (by rfl) ?_; clear S a; intro b14 a w hown S)
    refine wpList_nil ?_
    (refine wpm_v S rfl rfl rfl (want_none _ rfl) rfl rfl (fun w' S => sv_build S rfl rfl rfl) ?_; clear S a; intro a S)
    refine wpm_eff rfl rfl (kwg S fun b o h => by first | exact h | solve_by_elim | exact hle9 _ _ (hle8 _ _ (hle7 _ _ (hle6 _ _ (hle5 _ _ h))))) ?_
    (replace S := St.pullB b1 S; replace S := St.pullB b2 S; replace S := St.pullB b14 S; replace S := St.pullB b17 S; replace S := St.pullB b19 S; have S9 := aw_mk hP hC S; clear S; obtain ⟨F2, hle2, hMd, S⟩ := S9; refine wpl_callF S rfl rfl rfl rfl rfl rfl (newCt F2 (hE.mono (fun b o h => hle2 _ _ (hF13 _ _ h))) awM _ hMd awSz) rfl ?_; clear S a; intro u9 F3 a w hv hF3 S; obtain ⟨hv0, -⟩ := hv; obtain ⟨tb, m1, m2, m3, rfl, hT⟩ := hv0 aw_take)
    refine wpList_nil ?_
    iterate 4 (refine wpm_v S rfl rfl rfl (want_none _ rfl) rfl rfl (fun w' S => sv_pure S rfl) ?_; clear S a; intro a S)
    refine wpm_eff rfl rfl (kwg S fun b o h => by first | exact h | solve_by_elim | exact hle9 _ _ (hle8 _ _ (hle7 _ _ (hle6 _ _ (hle5 _ _ h))))) ?_
    (refine wpl_v S rfl rfl rfl (sv_pure S rfl) ?_; clear S a; intro a S)
    refine wpList_nil ?_
    refine wpm_eff rfl rfl (kwg S fun b o h => by first | exact h | solve_by_elim | exact hle9 _ _ (hle8 _ _ (hle7 _ _ (hle6 _ _ (hle5 _ _ h))))) ?_
    (refine wpl_storeO S rfl rfl rfl rfl rfl (by rfl) (by simp [Value.cells, Value.oneCell', splice]) (by rfl) ?_; clear S; intro w S)
    refine wpList_nil ?_
    refine wpm_eff rfl rfl (kwg S fun b o h => by first | exact h | solve_by_elim | exact hle9 _ _ (hle8 _ _ (hle7 _ _ (hle6 _ _ (hle5 _ _ h))))) ?_
    (refine wpl_v S rfl rfl rfl (sv_pure S rfl) ?_; clear S a; intro a S)
    refine wpList_nil ?_
    refine wpm_nil (kwg S fun b o h => by first | exact h | solve_by_elim | exact hle9 _ _ (hle8 _ _ (hle7 _ _ (hle6 _ _ (hle5 _ _ h))))) ?_
    (refine hKq3 _ _ ?_)
    (replace S := St.pullB b4 S; replace S := S.drop1; refine ⟨F3, tb, m1, m2, m3, fun b o h => hF3 _ _ (hle2 _ _ (hF13 _ _ h)), hT, ?_⟩; refine S.keep ?_; repeat (first | exact trivial | refine ⟨rfl, ?_⟩))
  · skip
    (refine wpl_buildSlice S rfl rfl rfl rfl rfl rfl (by rfl) (by simp [Value.cells, splice, splice]) rfl (by rfl) (by rfl) ?_; clear S a; intro b17 a w hown S)
    refine wpList_nil ?_
    (refine wpm_v S rfl rfl rfl (want_none _ rfl) rfl rfl (fun w' S => sv_build S rfl rfl rfl) ?_; clear S a; intro a S)
    refine wpm_three rfl rfl rfl (kwg S fun b o h => by first | exact h | solve_by_elim | exact hle9 _ _ (hle8 _ _ (hle7 _ _ (hle6 _ _ (hle5 _ _ h))))) ?_ ?_ ?_
    · skip
      (refine wpl_callF S rfl rfl rfl rfl rfl rfl (listCt F) rfl ?_; clear S a; intro vl F13 a w hvl hF13 S; obtain ⟨csl, rfl, vP0, vC0, rfl, hP, hC⟩ := hvl; have hPc := hP; obtain ⟨aP, cP, rfl, -, -⟩ := hPc; have hCc := hC; obtain ⟨aC, cC, rfl, -, -⟩ := hCc)
      refine wpList_nil ?_
      refine wpm_three rfl rfl rfl (kwg S fun b o h => by first | exact h | solve_by_elim | exact hle9 _ _ (hle8 _ _ (hle7 _ _ (hle6 _ _ (hle5 _ _ h))))) ?_ ?_ ?_
      · skip
        (refine wpl_buildSlice S rfl rfl rfl rfl rfl rfl (by rfl) (by simp [Value.cells, splice, splice]) rfl (by rfl) (by rfl) ?_; clear S a; intro b14 a w hown S)
        refine wpList_nil ?_
        refine wpm_two rfl rfl (kwg S fun b o h => by first | exact h | solve_by_elim | exact hle9 _ _ (hle8 _ _ (hle7 _ _ (hle6 _ _ (hle5 _ _ h))))) ?_ ?_
        · skip
          (refine wpl_buildSlice S rfl rfl rfl rfl rfl rfl (by rfl) (by simp [Value.cells, splice, splice]) rfl (by rfl) (by rfl) ?_; clear S a; intro b19 a w hown S)
          refine wpList_nil ?_
          (refine wpm_v S rfl rfl rfl (want_none _ rfl) rfl rfl (fun w' S => sv_build S rfl rfl rfl) ?_; clear S a; intro a S)
          refine wpm_two rfl rfl (kwg S fun b o h => by first | exact h | solve_by_elim | exact hle9 _ _ (hle8 _ _ (hle7 _ _ (hle6 _ _ (hle5 _ _ h))))) ?_ ?_
          · skip
            (replace S := St.pullB b1 S; replace S := St.pullB b2 S; replace S := St.pullB b14 S; replace S := St.pullB b17 S; replace S := St.pullB b19 S; have S9 := aw_mk hP hC S; clear S; obtain ⟨F2, hle2, hMd, S⟩ := S9; refine wpl_callF S rfl rfl rfl rfl rfl rfl (newCt F2 (hE.mono (fun b o h => hle2 _ _ (hF13 _ _ h))) awM _ hMd awSz) rfl ?_; clear S a; intro u9 F3 a w hv hF3 S; obtain ⟨hv0, -⟩ := hv; obtain ⟨tb, m1, m2, m3, rfl, hT⟩ := hv0 aw_take)
            refine wpList_nil ?_
            iterate 4 (refine wpm_v S rfl rfl rfl (want_none _ rfl) rfl rfl (fun w' S => sv_pure S rfl) ?_; clear S a; intro a S)
            refine wpm_eff rfl rfl (kwg S fun b o h => by first | exact h | solve_by_elim | exact hle9 _ _ (hle8 _ _ (hle7 _ _ (hle6 _ _ (hle5 _ _ h))))) ?_
            (refine wpl_alloc S rfl rfl rfl rfl ?_; clear S a; intro b4 a w S)
            refine wpList_nil ?_
            refine wpm_eff rfl rfl (kwg S fun b o h => by first | exact h | solve_by_elim | exact hle9 _ _ (hle8 _ _ (hle7 _ _ (hle6 _ _ (hle5 _ _ h))))) ?_
            (refine wpl_v S rfl rfl rfl (sv_pure S rfl) ?_; clear S a; intro a S)
            refine wpList_nil ?_
            refine wpm_eff rfl rfl (kwg S fun b o h => by first | exact h | solve_by_elim | exact hle9 _ _ (hle8 _ _ (hle7 _ _ (hle6 _ _ (hle5 _ _ h))))) ?_
            (refine wpl_storeO S rfl rfl rfl rfl rfl (by rfl) (by simp [Value.cells, Value.oneCell', splice]) (by rfl) ?_; clear S; intro w S)
            refine wpList_nil ?_
            refine wpm_eff rfl rfl (kwg S fun b o h => by first | exact h | solve_by_elim | exact hle9 _ _ (hle8 _ _ (hle7 _ _ (hle6 _ _ (hle5 _ _ h))))) ?_
            (refine wpl_v S rfl rfl rfl (sv_pure S rfl) ?_; clear S a; intro a S)
            refine wpList_nil ?_
            refine wpm_nil (kwg S fun b o h => by first | exact h | solve_by_elim | exact hle9 _ _ (hle8 _ _ (hle7 _ _ (hle6 _ _ (hle5 _ _ h))))) ?_
            (refine hKq3 _ _ ?_)
            (replace S := St.pullB b4 S; replace S := S.drop1; refine ⟨F3, tb, m1, m2, m3, fun b o h => hF3 _ _ (hle2 _ _ (hF13 _ _ h)), hT, ?_⟩; refine S.keep ?_; repeat (first | exact trivial | refine ⟨rfl, ?_⟩))
          skip
          (refine wpl_alloc S rfl rfl rfl rfl ?_; clear S a; intro b4 a w S)
          refine wpList_nil ?_
          refine wpm_eff rfl rfl (kwg S fun b o h => by first | exact h | solve_by_elim | exact hle9 _ _ (hle8 _ _ (hle7 _ _ (hle6 _ _ (hle5 _ _ h))))) ?_
          (replace S := St.pullB b1 S; replace S := St.pullB b2 S; replace S := St.pullB b14 S; replace S := St.pullB b17 S; replace S := St.pullB b19 S; have S9 := aw_mk hP hC S; clear S; obtain ⟨F2, hle2, hMd, S⟩ := S9; refine wpl_callF S rfl rfl rfl rfl rfl rfl (newCt F2 (hE.mono (fun b o h => hle2 _ _ (hF13 _ _ h))) awM _ hMd awSz) rfl ?_; clear S a; intro u9 F3 a w hv hF3 S; obtain ⟨hv0, -⟩ := hv; obtain ⟨tb, m1, m2, m3, rfl, hT⟩ := hv0 aw_take)
          refine wpList_nil ?_
          iterate 4 (refine wpm_v S rfl rfl rfl (want_none _ rfl) rfl rfl (fun w' S => sv_pure S rfl) ?_; clear S a; intro a S)
          refine wpm_eff rfl rfl (kwg S fun b o h => by first | exact h | solve_by_elim | exact hle9 _ _ (hle8 _ _ (hle7 _ _ (hle6 _ _ (hle5 _ _ h))))) ?_
          (refine wpl_v S rfl rfl rfl (sv_pure S rfl) ?_; clear S a; intro a S)
          refine wpList_nil ?_
          refine wpm_eff rfl rfl (kwg S fun b o h => by first | exact h | solve_by_elim | exact hle9 _ _ (hle8 _ _ (hle7 _ _ (hle6 _ _ (hle5 _ _ h))))) ?_
          (refine wpl_storeO S rfl rfl rfl rfl rfl (by rfl) (by simp [Value.cells, Value.oneCell', splice]) (by rfl) ?_; clear S; intro w S)
          refine wpList_nil ?_
          refine wpm_eff rfl rfl (kwg S fun b o h => by first | exact h | solve_by_elim | exact hle9 _ _ (hle8 _ _ (hle7 _ _ (hle6 _ _ (hle5 _ _ h))))) ?_
          (refine wpl_v S rfl rfl rfl (sv_pure S rfl) ?_; clear S a; intro a S)
          refine wpList_nil ?_
          refine wpm_nil (kwg S fun b o h => by first | exact h | solve_by_elim | exact hle9 _ _ (hle8 _ _ (hle7 _ _ (hle6 _ _ (hle5 _ _ h))))) ?_
          (refine hKq3 _ _ ?_)
          (replace S := St.pullB b4 S; replace S := S.drop1; refine ⟨F3, tb, m1, m2, m3, fun b o h => hF3 _ _ (hle2 _ _ (hF13 _ _ h)), hT, ?_⟩; refine S.keep ?_; repeat (first | exact trivial | refine ⟨rfl, ?_⟩))
        skip
        (refine wpl_alloc S rfl rfl rfl rfl ?_; clear S a; intro b4 a w S)
        refine wpList_nil ?_
        refine wpm_eff rfl rfl (kwg S fun b o h => by first | exact h | solve_by_elim | exact hle9 _ _ (hle8 _ _ (hle7 _ _ (hle6 _ _ (hle5 _ _ h))))) ?_
        (refine wpl_buildSlice S rfl rfl rfl rfl rfl rfl (by rfl) (by simp [Value.cells, splice, splice]) rfl (by rfl) (by rfl) ?_; clear S a; intro b19 a w hown S)
        refine wpList_nil ?_
        (refine wpm_v S rfl rfl rfl (want_none _ rfl) rfl rfl (fun w' S => sv_build S rfl rfl rfl) ?_; clear S a; intro a S)
        refine wpm_eff rfl rfl (kwg S fun b o h => by first | exact h | solve_by_elim | exact hle9 _ _ (hle8 _ _ (hle7 _ _ (hle6 _ _ (hle5 _ _ h))))) ?_
        (replace S := St.pullB b1 S; replace S := St.pullB b2 S; replace S := St.pullB b14 S; replace S := St.pullB b17 S; replace S := St.pullB b19 S; have S9 := aw_mk hP hC S; clear S; obtain ⟨F2, hle2, hMd, S⟩ := S9; refine wpl_callF S rfl rfl rfl rfl rfl rfl (newCt F2 (hE.mono (fun b o h => hle2 _ _ (hF13 _ _ h))) awM _ hMd awSz) rfl ?_; clear S a; intro u9 F3 a w hv hF3 S; obtain ⟨hv0, -⟩ := hv; obtain ⟨tb, m1, m2, m3, rfl, hT⟩ := hv0 aw_take)
        refine wpList_nil ?_
        iterate 4 (refine wpm_v S rfl rfl rfl (want_none _ rfl) rfl rfl (fun w' S => sv_pure S rfl) ?_; clear S a; intro a S)
        refine wpm_eff rfl rfl (kwg S fun b o h => by first | exact h | solve_by_elim | exact hle9 _ _ (hle8 _ _ (hle7 _ _ (hle6 _ _ (hle5 _ _ h))))) ?_
        (refine wpl_v S rfl rfl rfl (sv_pure S rfl) ?_; clear S a; intro a S)
        refine wpList_nil ?_
        refine wpm_eff rfl rfl (kwg S fun b o h => by first | exact h | solve_by_elim | exact hle9 _ _ (hle8 _ _ (hle7 _ _ (hle6 _ _ (hle5 _ _ h))))) ?_
        (refine wpl_storeO S rfl rfl rfl rfl rfl (by rfl) (by simp [Value.cells, Value.oneCell', splice]) (by rfl) ?_; clear S; intro w S)
        refine wpList_nil ?_
        refine wpm_eff rfl rfl (kwg S fun b o h => by first | exact h | solve_by_elim | exact hle9 _ _ (hle8 _ _ (hle7 _ _ (hle6 _ _ (hle5 _ _ h))))) ?_
        (refine wpl_v S rfl rfl rfl (sv_pure S rfl) ?_; clear S a; intro a S)
        refine wpList_nil ?_
        refine wpm_nil (kwg S fun b o h => by first | exact h | solve_by_elim | exact hle9 _ _ (hle8 _ _ (hle7 _ _ (hle6 _ _ (hle5 _ _ h))))) ?_
        (refine hKq3 _ _ ?_)
        (replace S := St.pullB b4 S; replace S := S.drop1; refine ⟨F3, tb, m1, m2, m3, fun b o h => hF3 _ _ (hle2 _ _ (hF13 _ _ h)), hT, ?_⟩; refine S.keep ?_; repeat (first | exact trivial | refine ⟨rfl, ?_⟩))
      · skip
        (refine wpl_buildSlice S rfl rfl rfl rfl rfl rfl (by rfl) (by simp [Value.cells, splice, splice]) rfl (by rfl) (by rfl) ?_; clear S a; intro b19 a w hown S)
        refine wpList_nil ?_
        refine wpm_two rfl rfl (kwg S fun b o h => by first | exact h | solve_by_elim | exact hle9 _ _ (hle8 _ _ (hle7 _ _ (hle6 _ _ (hle5 _ _ h))))) ?_ ?_
        · skip
          (refine wpl_buildSlice S rfl rfl rfl rfl rfl rfl (by rfl) (by simp [Value.cells, splice, splice]) rfl (by rfl) (by rfl) ?_; clear S a; intro b14 a w hown S)
          refine wpList_nil ?_
          (refine wpm_v S rfl rfl rfl (want_none _ rfl) rfl rfl (fun w' S => sv_build S rfl rfl rfl) ?_; clear S a; intro a S)
          refine wpm_two rfl rfl (kwg S fun b o h => by first | exact h | solve_by_elim | exact hle9 _ _ (hle8 _ _ (hle7 _ _ (hle6 _ _ (hle5 _ _ h))))) ?_ ?_
          · skip
            (replace S := St.pullB b1 S; replace S := St.pullB b2 S; replace S := St.pullB b14 S; replace S := St.pullB b17 S; replace S := St.pullB b19 S; have S9 := aw_mk hP hC S; clear S; obtain ⟨F2, hle2, hMd, S⟩ := S9; refine wpl_callF S rfl rfl rfl rfl rfl rfl (newCt F2 (hE.mono (fun b o h => hle2 _ _ (hF13 _ _ h))) awM _ hMd awSz) rfl ?_; clear S a; intro u9 F3 a w hv hF3 S; obtain ⟨hv0, -⟩ := hv; obtain ⟨tb, m1, m2, m3, rfl, hT⟩ := hv0 aw_take)
            refine wpList_nil ?_
            iterate 4 (refine wpm_v S rfl rfl rfl (want_none _ rfl) rfl rfl (fun w' S => sv_pure S rfl) ?_; clear S a; intro a S)
            refine wpm_eff rfl rfl (kwg S fun b o h => by first | exact h | solve_by_elim | exact hle9 _ _ (hle8 _ _ (hle7 _ _ (hle6 _ _ (hle5 _ _ h))))) ?_
            (refine wpl_alloc S rfl rfl rfl rfl ?_; clear S a; intro b4 a w S)
            refine wpList_nil ?_
            refine wpm_eff rfl rfl (kwg S fun b o h => by first | exact h | solve_by_elim | exact hle9 _ _ (hle8 _ _ (hle7 _ _ (hle6 _ _ (hle5 _ _ h))))) ?_
            (refine wpl_v S rfl rfl rfl (sv_pure S rfl) ?_; clear S a; intro a S)
            refine wpList_nil ?_
            refine wpm_eff rfl rfl (kwg S fun b o h => by first | exact h | solve_by_elim | exact hle9 _ _ (hle8 _ _ (hle7 _ _ (hle6 _ _ (hle5 _ _ h))))) ?_
            (refine wpl_storeO S rfl rfl rfl rfl rfl (by rfl) (by simp [Value.cells, Value.oneCell', splice]) (by rfl) ?_; clear S; intro w S)
            refine wpList_nil ?_
            refine wpm_eff rfl rfl (kwg S fun b o h => by first | exact h | solve_by_elim | exact hle9 _ _ (hle8 _ _ (hle7 _ _ (hle6 _ _ (hle5 _ _ h))))) ?_
            (refine wpl_v S rfl rfl rfl (sv_pure S rfl) ?_; clear S a; intro a S)
            refine wpList_nil ?_
            refine wpm_nil (kwg S fun b o h => by first | exact h | solve_by_elim | exact hle9 _ _ (hle8 _ _ (hle7 _ _ (hle6 _ _ (hle5 _ _ h))))) ?_
            (refine hKq3 _ _ ?_)
            (replace S := St.pullB b4 S; replace S := S.drop1; refine ⟨F3, tb, m1, m2, m3, fun b o h => hF3 _ _ (hle2 _ _ (hF13 _ _ h)), hT, ?_⟩; refine S.keep ?_; repeat (first | exact trivial | refine ⟨rfl, ?_⟩))
          skip
          (refine wpl_alloc S rfl rfl rfl rfl ?_; clear S a; intro b4 a w S)
          refine wpList_nil ?_
          refine wpm_eff rfl rfl (kwg S fun b o h => by first | exact h | solve_by_elim | exact hle9 _ _ (hle8 _ _ (hle7 _ _ (hle6 _ _ (hle5 _ _ h))))) ?_
          (replace S := St.pullB b1 S; replace S := St.pullB b2 S; replace S := St.pullB b14 S; replace S := St.pullB b17 S; replace S := St.pullB b19 S; have S9 := aw_mk hP hC S; clear S; obtain ⟨F2, hle2, hMd, S⟩ := S9; refine wpl_callF S rfl rfl rfl rfl rfl rfl (newCt F2 (hE.mono (fun b o h => hle2 _ _ (hF13 _ _ h))) awM _ hMd awSz) rfl ?_; clear S a; intro u9 F3 a w hv hF3 S; obtain ⟨hv0, -⟩ := hv; obtain ⟨tb, m1, m2, m3, rfl, hT⟩ := hv0 aw_take)
          refine wpList_nil ?_
          iterate 4 (refine wpm_v S rfl rfl rfl (want_none _ rfl) rfl rfl (fun w' S => sv_pure S rfl) ?_; clear S a; intro a S)
          refine wpm_eff rfl rfl (kwg S fun b o h => by first | exact h | solve_by_elim | exact hle9 _ _ (hle8 _ _ (hle7 _ _ (hle6 _ _ (hle5 _ _ h))))) ?_
          (refine wpl_v S rfl rfl rfl (sv_pure S rfl) ?_; clear S a; intro a S)
          refine wpList_nil ?_
          refine wpm_eff rfl rfl (kwg S fun b o h => by first | exact h | solve_by_elim | exact hle9 _ _ (hle8 _ _ (hle7 _ _ (hle6 _ _ (hle5 _ _ h))))) ?_
          (refine wpl_storeO S rfl rfl rfl rfl rfl (by rfl) (by simp [Value.cells, Value.oneCell', splice]) (by rfl) ?_; clear S; intro w S)
          refine wpList_nil ?_
          refine wpm_eff rfl rfl (kwg S fun b o h => by first | exact h | solve_by_elim | exact hle9 _ _ (hle8 _ _ (hle7 _ _ (hle6 _ _ (hle5 _ _ h))))) ?_
          (refine wpl_v S rfl rfl rfl (sv_pure S rfl) ?_; clear S a; intro a S)
          refine wpList_nil ?_
          refine wpm_nil (kwg S fun b o h => by first | exact h | solve_by_elim | exact hle9 _ _ (hle8 _ _ (hle7 _ _ (hle6 _ _ (hle5 _ _ h))))) ?_
          (refine hKq3 _ _ ?_)
          (replace S := St.pullB b4 S; replace S := S.drop1; refine ⟨F3, tb, m1, m2, m3, fun b o h => hF3 _ _ (hle2 _ _ (hF13 _ _ h)), hT, ?_⟩; refine S.keep ?_; repeat (first | exact trivial | refine ⟨rfl, ?_⟩))
        skip
        (refine wpl_alloc S rfl rfl rfl rfl ?_; clear S a; intro b4 a w S)
        refine wpList_nil ?_
        refine wpm_eff rfl rfl (kwg S fun b o h => by first | exact h | solve_by_elim | exact hle9 _ _ (hle8 _ _ (hle7 _ _ (hle6 _ _ (hle5 _ _ h))))) ?_
        (refine wpl_buildSlice S rfl rfl rfl rfl rfl rfl (by rfl) (by simp [Value.cells, splice, splice]) rfl (by rfl) (by rfl) ?_; clear S a; intro b14 a w hown S)
        refine wpList_nil ?_
        (refine wpm_v S rfl rfl rfl (want_none _ rfl) rfl rfl (fun w' S => sv_build S rfl rfl rfl) ?_; clear S a; intro a S)
        refine wpm_eff rfl rfl (kwg S fun b o h => by first | exact h | solve_by_elim | exact hle9 _ _ (hle8 _ _ (hle7 _ _ (hle6 _ _ (hle5 _ _ h))))) ?_
        (replace S := St.pullB b1 S; replace S := St.pullB b2 S; replace S := St.pullB b14 S; replace S := St.pullB b17 S; replace S := St.pullB b19 S; have S9 := aw_mk hP hC S; clear S; obtain ⟨F2, hle2, hMd, S⟩ := S9; refine wpl_callF S rfl rfl rfl rfl rfl rfl (newCt F2 (hE.mono (fun b o h => hle2 _ _ (hF13 _ _ h))) awM _ hMd awSz) rfl ?_; clear S a; intro u9 F3 a w hv hF3 S; obtain ⟨hv0, -⟩ := hv; obtain ⟨tb, m1, m2, m3, rfl, hT⟩ := hv0 aw_take)
        refine wpList_nil ?_
        iterate 4 (refine wpm_v S rfl rfl rfl (want_none _ rfl) rfl rfl (fun w' S => sv_pure S rfl) ?_; clear S a; intro a S)
        refine wpm_eff rfl rfl (kwg S fun b o h => by first | exact h | solve_by_elim | exact hle9 _ _ (hle8 _ _ (hle7 _ _ (hle6 _ _ (hle5 _ _ h))))) ?_
        (refine wpl_v S rfl rfl rfl (sv_pure S rfl) ?_; clear S a; intro a S)
        refine wpList_nil ?_
        refine wpm_eff rfl rfl (kwg S fun b o h => by first | exact h | solve_by_elim | exact hle9 _ _ (hle8 _ _ (hle7 _ _ (hle6 _ _ (hle5 _ _ h))))) ?_
        (refine wpl_storeO S rfl rfl rfl rfl rfl (by rfl) (by simp [Value.cells, Value.oneCell', splice]) (by rfl) ?_; clear S; intro w S)
        refine wpList_nil ?_
        refine wpm_eff rfl rfl (kwg S fun b o h => by first | exact h | solve_by_elim | exact hle9 _ _ (hle8 _ _ (hle7 _ _ (hle6 _ _ (hle5 _ _ h))))) ?_
        (refine wpl_v S rfl rfl rfl (sv_pure S rfl) ?_; clear S a; intro a S)
        refine wpList_nil ?_
        refine wpm_nil (kwg S fun b o h => by first | exact h | solve_by_elim | exact hle9 _ _ (hle8 _ _ (hle7 _ _ (hle6 _ _ (hle5 _ _ h))))) ?_
        (refine hKq3 _ _ ?_)
        (replace S := St.pullB b4 S; replace S := S.drop1; refine ⟨F3, tb, m1, m2, m3, fun b o h => hF3 _ _ (hle2 _ _ (hF13 _ _ h)), hT, ?_⟩; refine S.keep ?_; repeat (first | exact trivial | refine ⟨rfl, ?_⟩))
      skip
      (refine wpl_alloc S rfl rfl rfl rfl ?_; clear S a; intro b4 a w S)
      refine wpList_nil ?_
      refine wpm_two rfl rfl (kwg S fun b o h => by first | exact h | solve_by_elim | exact hle9 _ _ (hle8 _ _ (hle7 _ _ (hle6 _ _ (hle5 _ _ h))))) ?_ ?_
      · skip
        (refine wpl_buildSlice S rfl rfl rfl rfl rfl rfl (by rfl) (by simp [Value.cells, splice, splice]) rfl (by rfl) (by rfl) ?_; clear S a; intro b14 a w hown S)
        refine wpList_nil ?_
        refine wpm_eff rfl rfl (kwg S fun b o h => by first | exact h | solve_by_elim | exact hle9 _ _ (hle8 _ _ (hle7 _ _ (hle6 _ _ (hle5 _ _ h))))) ?_
        (refine wpl_buildSlice S rfl rfl rfl rfl rfl rfl (by rfl) (by simp [Value.cells, splice, splice]) rfl (by rfl) (by rfl) ?_; clear S a; intro b19 a w hown S)
        refine wpList_nil ?_
        (refine wpm_v S rfl rfl rfl (want_none _ rfl) rfl rfl (fun w' S => sv_build S rfl rfl rfl) ?_; clear S a; intro a S)
        refine wpm_eff rfl rfl (kwg S fun b o h => by first | exact h | solve_by_elim | exact hle9 _ _ (hle8 _ _ (hle7 _ _ (hle6 _ _ (hle5 _ _ h))))) ?_
        (replace S := St.pullB b1 S; replace S := St.pullB b2 S; replace S := St.pullB b14 S; replace S := St.pullB b17 S; replace S := St.pullB b19 S; have S9 := aw_mk hP hC S; clear S; obtain ⟨F2, hle2, hMd, S⟩ := S9; refine wpl_callF S rfl rfl rfl rfl rfl rfl (newCt F2 (hE.mono (fun b o h => hle2 _ _ (hF13 _ _ h))) awM _ hMd awSz) rfl ?_; clear S a; intro u9 F3 a w hv hF3 S; obtain ⟨hv0, -⟩ := hv; obtain ⟨tb, m1, m2, m3, rfl, hT⟩ := hv0 aw_take)
        refine wpList_nil ?_
        iterate 4 (refine wpm_v S rfl rfl rfl (want_none _ rfl) rfl rfl (fun w' S => sv_pure S rfl) ?_; clear S a; intro a S)
        refine wpm_eff rfl rfl (kwg S fun b o h => by first | exact h | solve_by_elim | exact hle9 _ _ (hle8 _ _ (hle7 _ _ (hle6 _ _ (hle5 _ _ h))))) ?_
        (refine wpl_v S rfl rfl rfl (sv_pure S rfl) ?_; clear S a; intro a S)
        refine wpList_nil ?_
        refine wpm_eff rfl rfl (kwg S fun b o h => by first | exact h | solve_by_elim | exact hle9 _ _ (hle8 _ _ (hle7 _ _ (hle6 _ _ (hle5 _ _ h))))) ?_
        (refine wpl_storeO S rfl rfl rfl rfl rfl (by rfl) (by simp [Value.cells, Value.oneCell', splice]) (by rfl) ?_; clear S; intro w S)
        refine wpList_nil ?_
        refine wpm_eff rfl rfl (kwg S fun b o h => by first | exact h | solve_by_elim | exact hle9 _ _ (hle8 _ _ (hle7 _ _ (hle6 _ _ (hle5 _ _ h))))) ?_
        (refine wpl_v S rfl rfl rfl (sv_pure S rfl) ?_; clear S a; intro a S)
        refine wpList_nil ?_
        refine wpm_nil (kwg S fun b o h => by first | exact h | solve_by_elim | exact hle9 _ _ (hle8 _ _ (hle7 _ _ (hle6 _ _ (hle5 _ _ h))))) ?_
        (refine hKq3 _ _ ?_)
        (replace S := St.pullB b4 S; replace S := S.drop1; refine ⟨F3, tb, m1, m2, m3, fun b o h => hF3 _ _ (hle2 _ _ (hF13 _ _ h)), hT, ?_⟩; refine S.keep ?_; repeat (first | exact trivial | refine ⟨rfl, ?_⟩))
      skip
      (refine wpl_buildSlice S rfl rfl rfl rfl rfl rfl (by rfl) (by simp [Value.cells, splice, splice]) rfl (by rfl) (by rfl) ?_; clear S a; intro b19 a w hown S)
      refine wpList_nil ?_
      refine wpm_eff rfl rfl (kwg S fun b o h => by first | exact h | solve_by_elim | exact hle9 _ _ (hle8 _ _ (hle7 _ _ (hle6 _ _ (hle5 _ _ h))))) ?_
      (refine wpl_buildSlice S rfl rfl rfl rfl rfl rfl (by rfl) (by simp [Value.cells, splice, splice]) rfl (by rfl) (by rfl) ?_; clear S a; intro b14 a w hown S)
      refine wpList_nil ?_
      (refine wpm_v S rfl rfl rfl (want_none _ rfl) rfl rfl (fun w' S => sv_build S rfl rfl rfl) ?_; clear S a; intro a S)
      refine wpm_eff rfl rfl (kwg S fun b o h => by first | exact h | solve_by_elim | exact hle9 _ _ (hle8 _ _ (hle7 _ _ (hle6 _ _ (hle5 _ _ h))))) ?_
      (replace S := St.pullB b1 S; replace S := St.pullB b2 S; replace S := St.pullB b14 S; replace S := St.pullB b17 S; replace S := St.pullB b19 S; have S9 := aw_mk hP hC S; clear S; obtain ⟨F2, hle2, hMd, S⟩ := S9; refine wpl_callF S rfl rfl rfl rfl rfl rfl (newCt F2 (hE.mono (fun b o h => hle2 _ _ (hF13 _ _ h))) awM _ hMd awSz) rfl ?_; clear S a; intro u9 F3 a w hv hF3 S; obtain ⟨hv0, -⟩ := hv; obtain ⟨tb, m1, m2, m3, rfl, hT⟩ := hv0 aw_take)
      refine wpList_nil ?_
      iterate 4 (refine wpm_v S rfl rfl rfl (want_none _ rfl) rfl rfl (fun w' S => sv_pure S rfl) ?_; clear S a; intro a S)
      refine wpm_eff rfl rfl (kwg S fun b o h => by first | exact h | solve_by_elim | exact hle9 _ _ (hle8 _ _ (hle7 _ _ (hle6 _ _ (hle5 _ _ h))))) ?_
      (refine wpl_v S rfl rfl rfl (sv_pure S rfl) ?_; clear S a; intro a S)
      refine wpList_nil ?_
      refine wpm_eff rfl rfl (kwg S fun b o h => by first | exact h | solve_by_elim | exact hle9 _ _ (hle8 _ _ (hle7 _ _ (hle6 _ _ (hle5 _ _ h))))) ?_
      (refine wpl_storeO S rfl rfl rfl rfl rfl (by rfl) (by simp [Value.cells, Value.oneCell', splice]) (by rfl) ?_; clear S; intro w S)
      refine wpList_nil ?_
      refine wpm_eff rfl rfl (kwg S fun b o h => by first | exact h | solve_by_elim | exact hle9 _ _ (hle8 _ _ (hle7 _ _ (hle6 _ _ (hle5 _ _ h))))) ?_
      (refine wpl_v S rfl rfl rfl (sv_pure S rfl) ?_; clear S a; intro a S)
      refine wpList_nil ?_
      refine wpm_nil (kwg S fun b o h => by first | exact h | solve_by_elim | exact hle9 _ _ (hle8 _ _ (hle7 _ _ (hle6 _ _ (hle5 _ _ h))))) ?_
      (refine hKq3 _ _ ?_)
      (replace S := St.pullB b4 S; replace S := S.drop1; refine ⟨F3, tb, m1, m2, m3, fun b o h => hF3 _ _ (hle2 _ _ (hF13 _ _ h)), hT, ?_⟩; refine S.keep ?_; repeat (first | exact trivial | refine ⟨rfl, ?_⟩))
    · skip
      (refine wpl_buildSlice S rfl rfl rfl rfl rfl rfl (by rfl) (by simp [Value.cells, splice, splice]) rfl (by rfl) (by rfl) ?_; clear S a; intro b19 a w hown S)
      refine wpList_nil ?_
      refine wpm_two rfl rfl (kwg S fun b o h => by first | exact h | solve_by_elim | exact hle9 _ _ (hle8 _ _ (hle7 _ _ (hle6 _ _ (hle5 _ _ h))))) ?_ ?_
      · skip
        (refine wpl_callF S rfl rfl rfl rfl rfl rfl (listCt F) rfl ?_; clear S a; intro vl F13 a w hvl hF13 S; obtain ⟨csl, rfl, vP0, vC0, rfl, hP, hC⟩ := hvl; have hPc := hP; obtain ⟨aP, cP, rfl, -, -⟩ := hPc; have hCc := hC; obtain ⟨aC, cC, rfl, -, -⟩ := hCc)
        refine wpList_nil ?_
        refine wpm_two rfl rfl (kwg S fun b o h => by first | exact h | solve_by_elim | exact hle9 _ _ (hle8 _ _ (hle7 _ _ (hle6 _ _ (hle5 _ _ h))))) ?_ ?_
        · skip
          (refine wpl_buildSlice S rfl rfl rfl rfl rfl rfl (by rfl) (by simp [Value.cells, splice, splice]) rfl (by rfl) (by rfl) ?_; clear S a; intro b14 a w hown S)
          refine wpList_nil ?_
          (refine wpm_v S rfl rfl rfl (want_none _ rfl) rfl rfl (fun w' S => sv_build S rfl rfl rfl) ?_; clear S a; intro a S)
          refine wpm_two rfl rfl (kwg S fun b o h => by first | exact h | solve_by_elim | exact hle9 _ _ (hle8 _ _ (hle7 _ _ (hle6 _ _ (hle5 _ _ h))))) ?_ ?_
          · skip
            (replace S := St.pullB b1 S; replace S := St.pullB b2 S; replace S := St.pullB b14 S; replace S := St.pullB b17 S; replace S := St.pullB b19 S; have S9 := aw_mk hP hC S; clear S; obtain ⟨F2, hle2, hMd, S⟩ := S9; refine wpl_callF S rfl rfl rfl rfl rfl rfl (newCt F2 (hE.mono (fun b o h => hle2 _ _ (hF13 _ _ h))) awM _ hMd awSz) rfl ?_; clear S a; intro u9 F3 a w hv hF3 S; obtain ⟨hv0, -⟩ := hv; obtain ⟨tb, m1, m2, m3, rfl, hT⟩ := hv0 aw_take)
            refine wpList_nil ?_
            iterate 4 (refine wpm_v S rfl rfl rfl (want_none _ rfl) rfl rfl (fun w' S => sv_pure S rfl) ?_; clear S a; intro a S)
            refine wpm_eff rfl rfl (kwg S fun b o h => by first | exact h | solve_by_elim | exact hle9 _ _ (hle8 _ _ (hle7 _ _ (hle6 _ _ (hle5 _ _ h))))) ?_
            (refine wpl_alloc S rfl rfl rfl rfl ?_; clear S a; intro b4 a w S)
            refine wpList_nil ?_
            refine wpm_eff rfl rfl (kwg S fun b o h => by first | exact h | solve_by_elim | exact hle9 _ _ (hle8 _ _ (hle7 _ _ (hle6 _ _ (hle5 _ _ h))))) ?_
            (refine wpl_v S rfl rfl rfl (sv_pure S rfl) ?_; clear S a; intro a S)
            refine wpList_nil ?_
            refine wpm_eff rfl rfl (kwg S fun b o h => by first | exact h | solve_by_elim | exact hle9 _ _ (hle8 _ _ (hle7 _ _ (hle6 _ _ (hle5 _ _ h))))) ?_
            (refine wpl_storeO S rfl rfl rfl rfl rfl (by rfl) (by simp [Value.cells, Value.oneCell', splice]) (by rfl) ?_; clear S; intro w S)
            refine wpList_nil ?_
            refine wpm_eff rfl rfl (kwg S fun b o h => by first | exact h | solve_by_elim | exact hle9 _ _ (hle8 _ _ (hle7 _ _ (hle6 _ _ (hle5 _ _ h))))) ?_
            (refine wpl_v S rfl rfl rfl (sv_pure S rfl) ?_; clear S a; intro a S)
            refine wpList_nil ?_
            refine wpm_nil (kwg S fun b o h => by first | exact h | solve_by_elim | exact hle9 _ _ (hle8 _ _ (hle7 _ _ (hle6 _ _ (hle5 _ _ h))))) ?_
            (refine hKq3 _ _ ?_)
            (replace S := St.pullB b4 S; replace S := S.drop1; refine ⟨F3, tb, m1, m2, m3, fun b o h => hF3 _ _ (hle2 _ _ (hF13 _ _ h)), hT, ?_⟩; refine S.keep ?_; repeat (first | exact trivial | refine ⟨rfl, ?_⟩))
          skip
          (refine wpl_alloc S rfl rfl rfl rfl ?_; clear S a; intro b4 a w S)
          refine wpList_nil ?_
          refine wpm_eff rfl rfl (kwg S fun b o h => by first | exact h | solve_by_elim | exact hle9 _ _ (hle8 _ _ (hle7 _ _ (hle6 _ _ (hle5 _ _ h))))) ?_
          (replace S := St.pullB b1 S; replace S := St.pullB b2 S; replace S := St.pullB b14 S; replace S := St.pullB b17 S; replace S := St.pullB b19 S; have S9 := aw_mk hP hC S; clear S; obtain ⟨F2, hle2, hMd, S⟩ := S9; refine wpl_callF S rfl rfl rfl rfl rfl rfl (newCt F2 (hE.mono (fun b o h => hle2 _ _ (hF13 _ _ h))) awM _ hMd awSz) rfl ?_; clear S a; intro u9 F3 a w hv hF3 S; obtain ⟨hv0, -⟩ := hv; obtain ⟨tb, m1, m2, m3, rfl, hT⟩ := hv0 aw_take)
          refine wpList_nil ?_
          iterate 4 (refine wpm_v S rfl rfl rfl (want_none _ rfl) rfl rfl (fun w' S => sv_pure S rfl) ?_; clear S a; intro a S)
          refine wpm_eff rfl rfl (kwg S fun b o h => by first | exact h | solve_by_elim | exact hle9 _ _ (hle8 _ _ (hle7 _ _ (hle6 _ _ (hle5 _ _ h))))) ?_
          (refine wpl_v S rfl rfl rfl (sv_pure S rfl) ?_; clear S a; intro a S)
          refine wpList_nil ?_
          refine wpm_eff rfl rfl (kwg S fun b o h => by first | exact h | solve_by_elim | exact hle9 _ _ (hle8 _ _ (hle7 _ _ (hle6 _ _ (hle5 _ _ h))))) ?_
          (refine wpl_storeO S rfl rfl rfl rfl rfl (by rfl) (by simp [Value.cells, Value.oneCell', splice]) (by rfl) ?_; clear S; intro w S)
          refine wpList_nil ?_
          refine wpm_eff rfl rfl (kwg S fun b o h => by first | exact h | solve_by_elim | exact hle9 _ _ (hle8 _ _ (hle7 _ _ (hle6 _ _ (hle5 _ _ h))))) ?_
          (refine wpl_v S rfl rfl rfl (sv_pure S rfl) ?_; clear S a; intro a S)
          refine wpList_nil ?_
          refine wpm_nil (kwg S fun b o h => by first | exact h | solve_by_elim | exact hle9 _ _ (hle8 _ _ (hle7 _ _ (hle6 _ _ (hle5 _ _ h))))) ?_
          (refine hKq3 _ _ ?_)
          (replace S := St.pullB b4 S; replace S := S.drop1; refine ⟨F3, tb, m1, m2, m3, fun b o h => hF3 _ _ (hle2 _ _ (hF13 _ _ h)), hT, ?_⟩; refine S.keep ?_; repeat (first | exact trivial | refine ⟨rfl, ?_⟩))
        skip
        (refine wpl_alloc S rfl rfl rfl rfl ?_; clear S a; intro b4 a w S)
        refine wpList_nil ?_
        refine wpm_eff rfl rfl (kwg S fun b o h => by first | exact h | solve_by_elim | exact hle9 _ _ (hle8 _ _ (hle7 _ _ (hle6 _ _ (hle5 _ _ h))))) ?_
        (refine wpl_buildSlice S rfl rfl rfl rfl rfl rfl (by rfl) (by simp [Value.cells, splice, splice]) rfl (by rfl) (by rfl) ?_; clear S a; intro b14 a w hown S)
        refine wpList_nil ?_
        (refine wpm_v S rfl rfl rfl (want_none _ rfl) rfl rfl (fun w' S => sv_build S rfl rfl rfl) ?_; clear S a; intro a S)
        refine wpm_eff rfl rfl (kwg S fun b o h => by first | exact h | solve_by_elim | exact hle9 _ _ (hle8 _ _ (hle7 _ _ (hle6 _ _ (hle5 _ _ h))))) ?_
        (replace S := St.pullB b1 S; replace S := St.pullB b2 S; replace S := St.pullB b14 S; replace S := St.pullB b17 S; replace S := St.pullB b19 S; have S9 := aw_mk hP hC S; clear S; obtain ⟨F2, hle2, hMd, S⟩ := S9; refine wpl_callF S rfl rfl rfl rfl rfl rfl (newCt F2 (hE.mono (fun b o h => hle2 _ _ (hF13 _ _ h))) awM _ hMd awSz) rfl ?_; clear S a; intro u9 F3 a w hv hF3 S; obtain ⟨hv0, -⟩ := hv; obtain ⟨tb, m1, m2, m3, rfl, hT⟩ := hv0 aw_take)
        refine wpList_nil ?_
        iterate 4 (refine wpm_v S rfl rfl rfl (want_none _ rfl) rfl rfl (fun w' S => sv_pure S rfl) ?_; clear S a; intro a S)
        refine wpm_eff rfl rfl (kwg S fun b o h => by first | exact h | solve_by_elim | exact hle9 _ _ (hle8 _ _ (hle7 _ _ (hle6 _ _ (hle5 _ _ h))))) ?_
        (refine wpl_v S rfl rfl rfl (sv_pure S rfl) ?_; clear S a; intro a S)
        refine wpList_nil ?_
        refine wpm_eff rfl rfl (kwg S fun b o h => by first | exact h | solve_by_elim | exact hle9 _ _ (hle8 _ _ (hle7 _ _ (hle6 _ _ (hle5 _ _ h))))) ?_
        (refine wpl_storeO S rfl rfl rfl rfl rfl (by rfl) (by simp [Value.cells, Value.oneCell', splice]) (by rfl) ?_; clear S; intro w S)
        refine wpList_nil ?_
        refine wpm_eff rfl rfl (kwg S fun b o h => by first | exact h | solve_by_elim | exact hle9 _ _ (hle8 _ _ (hle7 _ _ (hle6 _ _ (hle5 _ _ h))))) ?_
        (refine wpl_v S rfl rfl rfl (sv_pure S rfl) ?_; clear S a; intro a S)
        refine wpList_nil ?_
        refine wpm_nil (kwg S fun b o h => by first | exact h | solve_by_elim | exact hle9 _ _ (hle8 _ _ (hle7 _ _ (hle6 _ _ (hle5 _ _ h))))) ?_
        (refine hKq3 _ _ ?_)
        (replace S := St.pullB b4 S; replace S := S.drop1; refine ⟨F3, tb, m1, m2, m3, fun b o h => hF3 _ _ (hle2 _ _ (hF13 _ _ h)), hT, ?_⟩; refine S.keep ?_; repeat (first | exact trivial | refine ⟨rfl, ?_⟩))
      skip
      (refine wpl_alloc S rfl rfl rfl rfl ?_; clear S a; intro b4 a w S)
      refine wpList_nil ?_
      refine wpm_eff rfl rfl (kwg S fun b o h => by first | exact h | solve_by_elim | exact hle9 _ _ (hle8 _ _ (hle7 _ _ (hle6 _ _ (hle5 _ _ h))))) ?_
      (refine wpl_callF S rfl rfl rfl rfl rfl rfl (listCt F) rfl ?_; clear S a; intro vl F13 a w hvl hF13 S; obtain ⟨csl, rfl, vP0, vC0, rfl, hP, hC⟩ := hvl; have hPc := hP; obtain ⟨aP, cP, rfl, -, -⟩ := hPc; have hCc := hC; obtain ⟨aC, cC, rfl, -, -⟩ := hCc)
      refine wpList_nil ?_
      refine wpm_eff rfl rfl (kwg S fun b o h => by first | exact h | solve_by_elim | exact hle9 _ _ (hle8 _ _ (hle7 _ _ (hle6 _ _ (hle5 _ _ h))))) ?_
      (refine wpl_buildSlice S rfl rfl rfl rfl rfl rfl (by rfl) (by simp [Value.cells, splice, splice]) rfl (by rfl) (by rfl) ?_; clear S a; intro b14 a w hown S)
      refine wpList_nil ?_
      (refine wpm_v S rfl rfl rfl (want_none _ rfl) rfl rfl (fun w' S => sv_build S rfl rfl rfl) ?_; clear S a; intro a S)
      refine wpm_eff rfl rfl (kwg S fun b o h => by first | exact h | solve_by_elim | exact hle9 _ _ (hle8 _ _ (hle7 _ _ (hle6 _ _ (hle5 _ _ h))))) ?_
      (replace S := St.pullB b1 S; replace S := St.pullB b2 S; replace S := St.pullB b14 S; replace S := St.pullB b17 S; replace S := St.pullB b19 S; have S9 := aw_mk hP hC S; clear S; obtain ⟨F2, hle2, hMd, S⟩ := S9; refine wpl_callF S rfl rfl rfl rfl rfl rfl (newCt F2 (hE.mono (fun b o h => hle2 _ _ (hF13 _ _ h))) awM _ hMd awSz) rfl ?_; clear S a; intro u9 F3 a w hv hF3 S; obtain ⟨hv0, -⟩ := hv; obtain ⟨tb, m1, m2, m3, rfl, hT⟩ := hv0 aw_take)
      refine wpList_nil ?_
      iterate 4 (refine wpm_v S rfl rfl rfl (want_none _ rfl) rfl rfl (fun w' S => sv_pure S rfl) ?_; clear S a; intro a S)
      refine wpm_eff rfl rfl (kwg S fun b o h => by first | exact h | solve_by_elim | exact hle9 _ _ (hle8 _ _ (hle7 _ _ (hle6 _ _ (hle5 _ _ h))))) ?_
      (refine wpl_v S rfl rfl rfl (sv_pure S rfl) ?_; clear S a; intro a S)
      refine wpList_nil ?_
      refine wpm_eff rfl rfl (kwg S fun b o h => by first | exact h | solve_by_elim | exact hle9 _ _ (hle8 _ _ (hle7 _ _ (hle6 _ _ (hle5 _ _ h))))) ?_
      (refine wpl_storeO S rfl rfl rfl rfl rfl (by rfl) (by simp [Value.cells, Value.oneCell', splice]) (by rfl) ?_; clear S; intro w S)
      refine wpList_nil ?_
      refine wpm_eff rfl rfl (kwg S fun b o h => by first | exact h | solve_by_elim | exact hle9 _ _ (hle8 _ _ (hle7 _ _ (hle6 _ _ (hle5 _ _ h))))) ?_
      (refine wpl_v S rfl rfl rfl (sv_pure S rfl) ?_; clear S a; intro a S)
      refine wpList_nil ?_
      refine wpm_nil (kwg S fun b o h => by first | exact h | solve_by_elim | exact hle9 _ _ (hle8 _ _ (hle7 _ _ (hle6 _ _ (hle5 _ _ h))))) ?_
      (refine hKq3 _ _ ?_)
      (replace S := St.pullB b4 S; replace S := S.drop1; refine ⟨F3, tb, m1, m2, m3, fun b o h => hF3 _ _ (hle2 _ _ (hF13 _ _ h)), hT, ?_⟩; refine S.keep ?_; repeat (first | exact trivial | refine ⟨rfl, ?_⟩))
    skip
    (refine wpl_alloc S rfl rfl rfl rfl ?_; clear S a; intro b4 a w S)
    refine wpList_nil ?_
    refine wpm_two rfl rfl (kwg S fun b o h => by first | exact h | solve_by_elim | exact hle9 _ _ (hle8 _ _ (hle7 _ _ (hle6 _ _ (hle5 _ _ h))))) ?_ ?_
    · skip
      (refine wpl_callF S rfl rfl rfl rfl rfl rfl (listCt F) rfl ?_; clear S a; intro vl F13 a w hvl hF13 S; obtain ⟨csl, rfl, vP0, vC0, rfl, hP, hC⟩ := hvl; have hPc := hP; obtain ⟨aP, cP, rfl, -, -⟩ := hPc; have hCc := hC; obtain ⟨aC, cC, rfl, -, -⟩ := hCc)
      refine wpList_nil ?_
      refine wpm_two rfl rfl (kwg S fun b o h => by first | exact h | solve_by_elim | exact hle9 _ _ (hle8 _ _ (hle7 _ _ (hle6 _ _ (hle5 _ _ h))))) ?_ ?_
      · skip
        (refine wpl_buildSlice S rfl rfl rfl rfl rfl rfl (by rfl) (by simp [Value.cells, splice, splice]) rfl (by rfl) (by rfl) ?_; clear S a; intro b14 a w hown S)
        refine wpList_nil ?_
        refine wpm_eff rfl rfl (kwg S fun b o h => by first | exact h | solve_by_elim | exact hle9 _ _ (hle8 _ _ (hle7 _ _ (hle6 _ _ (hle5 _ _ h))))) ?_
        (refine wpl_buildSlice S rfl rfl rfl rfl rfl rfl (by rfl) (by simp [Value.cells, splice, splice]) rfl (by rfl) (by rfl) ?_; clear S a; intro b19 a w hown S)
        refine wpList_nil ?_
        (refine wpm_v S rfl rfl rfl (want_none _ rfl) rfl rfl (fun w' S => sv_build S rfl rfl rfl) ?_; clear S a; intro a S)
        refine wpm_eff rfl rfl (kwg S fun b o h => by first | exact h | solve_by_elim | exact hle9 _ _ (hle8 _ _ (hle7 _ _ (hle6 _ _ (hle5 _ _ h))))) ?_
        (replace S := St.pullB b1 S; replace S := St.pullB b2 S; replace S := St.pullB b14 S; replace S := St.pullB b17 S; replace S := St.pullB b19 S; have S9 := aw_mk hP hC S; clear S; obtain ⟨F2, hle2, hMd, S⟩ := S9; refine wpl_callF S rfl rfl rfl rfl rfl rfl (newCt F2 (hE.mono (fun b o h => hle2 _ _ (hF13 _ _ h))) awM _ hMd awSz) rfl ?_; clear S a; intro u9 F3 a w hv hF3 S; obtain ⟨hv0, -⟩ := hv; obtain ⟨tb, m1, m2, m3, rfl, hT⟩ := hv0 aw_take)
        refine wpList_nil ?_
        iterate 4 (refine wpm_v S rfl rfl rfl (want_none _ rfl) rfl rfl (fun w' S => sv_pure S rfl) ?_; clear S a; intro a S)
        refine wpm_eff rfl rfl (kwg S fun b o h => by first | exact h | solve_by_elim | exact hle9 _ _ (hle8 _ _ (hle7 _ _ (hle6 _ _ (hle5 _ _ h))))) ?_
        (refine wpl_v S rfl rfl rfl (sv_pure S rfl) ?_; clear S a; intro a S)
        refine wpList_nil ?_
        refine wpm_eff rfl rfl (kwg S fun b o h => by first | exact h | solve_by_elim | exact hle9 _ _ (hle8 _ _ (hle7 _ _ (hle6 _ _ (hle5 _ _ h))))) ?_
        (refine wpl_storeO S rfl rfl rfl rfl rfl (by rfl) (by simp [Value.cells, Value.oneCell', splice]) (by rfl) ?_; clear S; intro w S)
        refine wpList_nil ?_
        refine wpm_eff rfl rfl (kwg S fun b o h => by first | exact h | solve_by_elim | exact hle9 _ _ (hle8 _ _ (hle7 _ _ (hle6 _ _ (hle5 _ _ h))))) ?_
        (refine wpl_v S rfl rfl rfl (sv_pure S rfl) ?_; clear S a; intro a S)
        refine wpList_nil ?_
        refine wpm_nil (kwg S fun b o h => by first | exact h | solve_by_elim | exact hle9 _ _ (hle8 _ _ (hle7 _ _ (hle6 _ _ (hle5 _ _ h))))) ?_
        (refine hKq3 _ _ ?_)
        (replace S := St.pullB b4 S; replace S := S.drop1; refine ⟨F3, tb, m1, m2, m3, fun b o h => hF3 _ _ (hle2 _ _ (hF13 _ _ h)), hT, ?_⟩; refine S.keep ?_; repeat (first | exact trivial | refine ⟨rfl, ?_⟩))
      skip
      (refine wpl_buildSlice S rfl rfl rfl rfl rfl rfl (by rfl) (by simp [Value.cells, splice, splice]) rfl (by rfl) (by rfl) ?_; clear S a; intro b19 a w hown S)
      refine wpList_nil ?_
      refine wpm_eff rfl rfl (kwg S fun b o h => by first | exact h | solve_by_elim | exact hle9 _ _ (hle8 _ _ (hle7 _ _ (hle6 _ _ (hle5 _ _ h))))) ?_
      (refine wpl_buildSlice S rfl rfl rfl rfl rfl rfl (by rfl) (by simp [Value.cells, splice, splice]) rfl (by rfl) (by rfl) ?_; clear S a; intro b14 a w hown S)
      refine wpList_nil ?_
      (refine wpm_v S rfl rfl rfl (want_none _ rfl) rfl rfl (fun w' S => sv_build S rfl rfl rfl) ?_; clear S a; intro a S)
      refine wpm_eff rfl rfl (kwg S fun b o h => by first | exact h | solve_by_elim | exact hle9 _ _ (hle8 _ _ (hle7 _ _ (hle6 _ _ (hle5 _ _ h))))) ?_
      (replace S := St.pullB b1 S; replace S := St.pullB b2 S; replace S := St.pullB b14 S; replace S := St.pullB b17 S; replace S := St.pullB b19 S; have S9 := aw_mk hP hC S; clear S; obtain ⟨F2, hle2, hMd, S⟩ := S9; refine wpl_callF S rfl rfl rfl rfl rfl rfl (newCt F2 (hE.mono (fun b o h => hle2 _ _ (hF13 _ _ h))) awM _ hMd awSz) rfl ?_; clear S a; intro u9 F3 a w hv hF3 S; obtain ⟨hv0, -⟩ := hv; obtain ⟨tb, m1, m2, m3, rfl, hT⟩ := hv0 aw_take)
      refine wpList_nil ?_
      iterate 4 (refine wpm_v S rfl rfl rfl (want_none _ rfl) rfl rfl (fun w' S => sv_pure S rfl) ?_; clear S a; intro a S)
      refine wpm_eff rfl rfl (kwg S fun b o h => by first | exact h | solve_by_elim | exact hle9 _ _ (hle8 _ _ (hle7 _ _ (hle6 _ _ (hle5 _ _ h))))) ?_
      (refine wpl_v S rfl rfl rfl (sv_pure S rfl) ?_; clear S a; intro a S)
      refine wpList_nil ?_
      refine wpm_eff rfl rfl (kwg S fun b o h => by first | exact h | solve_by_elim | exact hle9 _ _ (hle8 _ _ (hle7 _ _ (hle6 _ _ (hle5 _ _ h))))) ?_
      (refine wpl_storeO S rfl rfl rfl rfl rfl (by rfl) (by simp [Value.cells, Value.oneCell', splice]) (by rfl) ?_; clear S; intro w S)
      refine wpList_nil ?_
      refine wpm_eff rfl rfl (kwg S fun b o h => by first | exact h | solve_by_elim | exact hle9 _ _ (hle8 _ _ (hle7 _ _ (hle6 _ _ (hle5 _ _ h))))) ?_
      (refine wpl_v S rfl rfl rfl (sv_pure S rfl) ?_; clear S a; intro a S)
      refine wpList_nil ?_
      refine wpm_nil (kwg S fun b o h => by first | exact h | solve_by_elim | exact hle9 _ _ (hle8 _ _ (hle7 _ _ (hle6 _ _ (hle5 _ _ h))))) ?_
      (refine hKq3 _ _ ?_)
      (replace S := St.pullB b4 S; replace S := S.drop1; refine ⟨F3, tb, m1, m2, m3, fun b o h => hF3 _ _ (hle2 _ _ (hF13 _ _ h)), hT, ?_⟩; refine S.keep ?_; repeat (first | exact trivial | refine ⟨rfl, ?_⟩))
    skip
    (refine wpl_buildSlice S rfl rfl rfl rfl rfl rfl (by rfl) (by simp [Value.cells, splice, splice]) rfl (by rfl) (by rfl) ?_; clear S a; intro b19 a w hown S)
    refine wpList_nil ?_
    refine wpm_eff rfl rfl (kwg S fun b o h => by first | exact h | solve_by_elim | exact hle9 _ _ (hle8 _ _ (hle7 _ _ (hle6 _ _ (hle5 _ _ h))))) ?_
    (refine wpl_callF S rfl rfl rfl rfl rfl rfl (listCt F) rfl ?_; clear S a; intro vl F13 a w hvl hF13 S; obtain ⟨csl, rfl, vP0, vC0, rfl, hP, hC⟩ := hvl; have hPc := hP; obtain ⟨aP, cP, rfl, -, -⟩ := hPc; have hCc := hC; obtain ⟨aC, cC, rfl, -, -⟩ := hCc)
    refine wpList_nil ?_
    refine wpm_eff rfl rfl (kwg S fun b o h => by first | exact h | solve_by_elim | exact hle9 _ _ (hle8 _ _ (hle7 _ _ (hle6 _ _ (hle5 _ _ h))))) ?_
    (refine wpl_buildSlice S rfl rfl rfl rfl rfl rfl (by rfl) (by simp [Value.cells, splice, splice]) rfl (by rfl) (by rfl) ?_; clear S a; intro b14 a w hown S)
    refine wpList_nil ?_
    (refine wpm_v S rfl rfl rfl (want_none _ rfl) rfl rfl (fun w' S => sv_build S rfl rfl rfl) ?_; clear S a; intro a S)
    refine wpm_eff rfl rfl (kwg S fun b o h => by first | exact h | solve_by_elim | exact hle9 _ _ (hle8 _ _ (hle7 _ _ (hle6 _ _ (hle5 _ _ h))))) ?_
    (replace S := St.pullB b1 S; replace S := St.pullB b2 S; replace S := St.pullB b14 S; replace S := St.pullB b17 S; replace S := St.pullB b19 S; have S9 := aw_mk hP hC S; clear S; obtain ⟨F2, hle2, hMd, S⟩ := S9; refine wpl_callF S rfl rfl rfl rfl rfl rfl (newCt F2 (hE.mono (fun b o h => hle2 _ _ (hF13 _ _ h))) awM _ hMd awSz) rfl ?_; clear S a; intro u9 F3 a w hv hF3 S; obtain ⟨hv0, -⟩ := hv; obtain ⟨tb, m1, m2, m3, rfl, hT⟩ := hv0 aw_take)
    refine wpList_nil ?_
    iterate 4 (refine wpm_v S rfl rfl rfl (want_none _ rfl) rfl rfl (fun w' S => sv_pure S rfl) ?_; clear S a; intro a S)
    refine wpm_eff rfl rfl (kwg S fun b o h => by first | exact h | solve_by_elim | exact hle9 _ _ (hle8 _ _ (hle7 _ _ (hle6 _ _ (hle5 _ _ h))))) ?_
    (refine wpl_v S rfl rfl rfl (sv_pure S rfl) ?_; clear S a; intro a S)
    refine wpList_nil ?_
    refine wpm_eff rfl rfl (kwg S fun b o h => by first | exact h | solve_by_elim | exact hle9 _ _ (hle8 _ _ (hle7 _ _ (hle6 _ _ (hle5 _ _ h))))) ?_
    (refine wpl_storeO S rfl rfl rfl rfl rfl (by rfl) (by simp [Value.cells, Value.oneCell', splice]) (by rfl) ?_; clear S; intro w S)
    refine wpList_nil ?_
    refine wpm_eff rfl rfl (kwg S fun b o h => by first | exact h | solve_by_elim | exact hle9 _ _ (hle8 _ _ (hle7 _ _ (hle6 _ _ (hle5 _ _ h))))) ?_
    (refine wpl_v S rfl rfl rfl (sv_pure S rfl) ?_; clear S a; intro a S)
    refine wpList_nil ?_
    refine wpm_nil (kwg S fun b o h => by first | exact h | solve_by_elim | exact hle9 _ _ (hle8 _ _ (hle7 _ _ (hle6 _ _ (hle5 _ _ h))))) ?_
    (refine hKq3 _ _ ?_)
    (replace S := St.pullB b4 S; replace S := S.drop1; refine ⟨F3, tb, m1, m2, m3, fun b o h => hF3 _ _ (hle2 _ _ (hF13 _ _ h)), hT, ?_⟩; refine S.keep ?_; repeat (first | exact trivial | refine ⟨rfl, ?_⟩))
  skip
  (refine wpl_alloc S rfl rfl rfl rfl ?_; clear S a; intro b4 a w S)
  refine wpList_nil ?_
  refine wpm_two rfl rfl (kwg S fun b o h => by first | exact h | solve_by_elim | exact hle9 _ _ (hle8 _ _ (hle7 _ _ (hle6 _ _ (hle5 _ _ h))))) ?_ ?_
  · skip
    (refine wpl_callF S rfl rfl rfl rfl rfl rfl (listCt F) rfl ?_; clear S a; intro vl F13 a w hvl hF13 S; obtain ⟨csl, rfl, vP0, vC0, rfl, hP, hC⟩ := hvl; have hPc := hP; obtain ⟨aP, cP, rfl, -, -⟩ := hPc; have hCc := hC; obtain ⟨aC, cC, rfl, -, -⟩ := hCc)
    refine wpList_nil ?_
    refine wpm_two rfl rfl (kwg S fun b o h => by first | exact h | solve_by_elim | exact hle9 _ _ (hle8 _ _ (hle7 _ _ (hle6 _ _ (hle5 _ _ h))))) ?_ ?_
    · skip
      (refine wpl_buildSlice S rfl rfl rfl rfl rfl rfl (by rfl) (by simp [Value.cells, splice, splice]) rfl (by rfl) (by rfl) ?_; clear S a; intro b14 a w hown S)
      refine wpList_nil ?_
      refine wpm_eff rfl rfl (kwg S fun b o h => by first | exact h | solve_by_elim | exact hle9 _ _ (hle8 _ _ (hle7 _ _ (hle6 _ _ (hle5 _ _ h))))) ?_
      (refine wpl_buildSlice S rfl rfl rfl rfl rfl rfl (by rfl) (by simp [Value.cells, splice, splice]) rfl (by rfl) (by rfl) ?_; clear S a; intro b17 a w hown S)
      refine wpList_nil ?_
      (refine wpm_v S rfl rfl rfl (want_none _ rfl) rfl rfl (fun w' S => sv_build S rfl rfl rfl) ?_; clear S a; intro a S)
      refine wpm_eff rfl rfl (kwg S fun b o h => by first | exact h | solve_by_elim | exact hle9 _ _ (hle8 _ _ (hle7 _ _ (hle6 _ _ (hle5 _ _ h))))) ?_
      (refine wpl_buildSlice S rfl rfl rfl rfl rfl rfl (by rfl) (by simp [Value.cells, splice, splice]) rfl (by rfl) (by rfl) ?_; clear S a; intro b19 a w hown S)
      refine wpList_nil ?_
      (refine wpm_v S rfl rfl rfl (want_none _ rfl) rfl rfl (fun w' S => sv_build S rfl rfl rfl) ?_; clear S a; intro a S)
      refine wpm_eff rfl rfl (kwg S fun b o h => by first | exact h | solve_by_elim | exact hle9 _ _ (hle8 _ _ (hle7 _ _ (hle6 _ _ (hle5 _ _ h))))) ?_
      (replace S := St.pullB b1 S; replace S := St.pullB b2 S; replace S := St.pullB b14 S; replace S := St.pullB b17 S; replace S := St.pullB b19 S; have S9 := aw_mk hP hC S; clear S; obtain ⟨F2, hle2, hMd, S⟩ := S9; refine wpl_callF S rfl rfl rfl rfl rfl rfl (newCt F2 (hE.mono (fun b o h => hle2 _ _ (hF13 _ _ h))) awM _ hMd awSz) rfl ?_; clear S a; intro u9 F3 a w hv hF3 S; obtain ⟨hv0, -⟩ := hv; obtain ⟨tb, m1, m2, m3, rfl, hT⟩ := hv0 aw_take)
      refine wpList_nil ?_
      iterate 4 (refine wpm_v S rfl rfl rfl (want_none _ rfl) rfl rfl (fun w' S => sv_pure S rfl) ?_; clear S a; intro a S)
      refine wpm_eff rfl rfl (kwg S fun b o h => by first | exact h | solve_by_elim | exact hle9 _ _ (hle8 _ _ (hle7 _ _ (hle6 _ _ (hle5 _ _ h))))) ?_
      (refine wpl_v S rfl rfl rfl (sv_pure S rfl) ?_; clear S a; intro a S)
      refine wpList_nil ?_
      refine wpm_eff rfl rfl (kwg S fun b o h => by first | exact h | solve_by_elim | exact hle9 _ _ (hle8 _ _ (hle7 _ _ (hle6 _ _ (hle5 _ _ h))))) ?_
      (refine wpl_storeO S rfl rfl rfl rfl rfl (by rfl) (by simp [Value.cells, Value.oneCell', splice]) (by rfl) ?_; clear S; intro w S)
      refine wpList_nil ?_
      refine wpm_eff rfl rfl (kwg S fun b o h => by first | exact h | solve_by_elim | exact hle9 _ _ (hle8 _ _ (hle7 _ _ (hle6 _ _ (hle5 _ _ h))))) ?_
      (refine wpl_v S rfl rfl rfl (sv_pure S rfl) ?_; clear S a; intro a S)
      refine wpList_nil ?_
      refine wpm_nil (kwg S fun b o h => by first | exact h | solve_by_elim | exact hle9 _ _ (hle8 _ _ (hle7 _ _ (hle6 _ _ (hle5 _ _ h))))) ?_
      (refine hKq3 _ _ ?_)
      (replace S := St.pullB b4 S; replace S := S.drop1; refine ⟨F3, tb, m1, m2, m3, fun b o h => hF3 _ _ (hle2 _ _ (hF13 _ _ h)), hT, ?_⟩; refine S.keep ?_; repeat (first | exact trivial | refine ⟨rfl, ?_⟩))
    skip
    (refine wpl_buildSlice S rfl rfl rfl rfl rfl rfl (by rfl) (by simp [Value.cells, splice, splice]) rfl (by rfl) (by rfl) ?_; clear S a; intro b17 a w hown S)
    refine wpList_nil ?_
    (refine wpm_v S rfl rfl rfl (want_none _ rfl) rfl rfl (fun w' S => sv_build S rfl rfl rfl) ?_; clear S a; intro a S)
    refine wpm_two rfl rfl (kwg S fun b o h => by first | exact h | solve_by_elim | exact hle9 _ _ (hle8 _ _ (hle7 _ _ (hle6 _ _ (hle5 _ _ h))))) ?_ ?_
    · skip
      (refine wpl_buildSlice S rfl rfl rfl rfl rfl rfl (by rfl) (by simp [Value.cells, splice, splice]) rfl (by rfl) (by rfl) ?_; clear S a; intro b14 a w hown S)
      refine wpList_nil ?_
      refine wpm_eff rfl rfl (kwg S fun b o h => by first | exact h | solve_by_elim | exact hle9 _ _ (hle8 _ _ (hle7 _ _ (hle6 _ _ (hle5 _ _ h))))) ?_
      (refine wpl_buildSlice S rfl rfl rfl rfl rfl rfl (by rfl) (by simp [Value.cells, splice, splice]) rfl (by rfl) (by rfl) ?_; clear S a; intro b19 a w hown S)
      refine wpList_nil ?_
      (refine wpm_v S rfl rfl rfl (want_none _ rfl) rfl rfl (fun w' S => sv_build S rfl rfl rfl) ?_; clear S a; intro a S)
      refine wpm_eff rfl rfl (kwg S fun b o h => by first | exact h | solve_by_elim | exact hle9 _ _ (hle8 _ _ (hle7 _ _ (hle6 _ _ (hle5 _ _ h))))) ?_
      (replace S := St.pullB b1 S; replace S := St.pullB b2 S; replace S := St.pullB b14 S; replace S := St.pullB b17 S; replace S := St.pullB b19 S; have S9 := aw_mk hP hC S; clear S; obtain ⟨F2, hle2, hMd, S⟩ := S9; refine wpl_callF S rfl rfl rfl rfl rfl rfl (newCt F2 (hE.mono (fun b o h => hle2 _ _ (hF13 _ _ h))) awM _ hMd awSz) rfl ?_; clear S a; intro u9 F3 a w hv hF3 S; obtain ⟨hv0, -⟩ := hv; obtain ⟨tb, m1, m2, m3, rfl, hT⟩ := hv0 aw_take)
      refine wpList_nil ?_
      iterate 4 (refine wpm_v S rfl rfl rfl (want_none _ rfl) rfl rfl (fun w' S => sv_pure S rfl) ?_; clear S a; intro a S)
      refine wpm_eff rfl rfl (kwg S fun b o h => by first | exact h | solve_by_elim | exact hle9 _ _ (hle8 _ _ (hle7 _ _ (hle6 _ _ (hle5 _ _ h))))) ?_
      (refine wpl_v S rfl rfl rfl (sv_pure S rfl) ?_; clear S a; intro a S)
      refine wpList_nil ?_
      refine wpm_eff rfl rfl (kwg S fun b o h => by first | exact h | solve_by_elim | exact hle9 _ _ (hle8 _ _ (hle7 _ _ (hle6 _ _ (hle5 _ _ h))))) ?_
      (refine wpl_storeO S rfl rfl rfl rfl rfl (by rfl) (by simp [Value.cells, Value.oneCell', splice]) (by rfl) ?_; clear S; intro w S)
      refine wpList_nil ?_
      refine wpm_eff rfl rfl (kwg S fun b o h => by first | exact h | solve_by_elim | exact hle9 _ _ (hle8 _ _ (hle7 _ _ (hle6 _ _ (hle5 _ _ h))))) ?_
      (refine wpl_v S rfl rfl rfl (sv_pure S rfl) ?_; clear S a; intro a S)
      refine wpList_nil ?_
      refine wpm_nil (kwg S fun b o h => by first | exact h | solve_by_elim | exact hle9 _ _ (hle8 _ _ (hle7 _ _ (hle6 _ _ (hle5 _ _ h))))) ?_
      (refine hKq3 _ _ ?_)
      (replace S := St.pullB b4 S; replace S := S.drop1; refine ⟨F3, tb, m1, m2, m3, fun b o h => hF3 _ _ (hle2 _ _ (hF13 _ _ h)), hT, ?_⟩; refine S.keep ?_; repeat (first | exact trivial | refine ⟨rfl, ?_⟩))
    skip
    (refine wpl_buildSlice S rfl rfl rfl rfl rfl rfl (by rfl) (by simp [Value.cells, splice, splice]) rfl (by rfl) (by rfl) ?_; clear S a; intro b19 a w hown S)
    refine wpList_nil ?_
    refine wpm_eff rfl rfl (kwg S fun b o h => by first | exact h | solve_by_elim | exact hle9 _ _ (hle8 _ _ (hle7 _ _ (hle6 _ _ (hle5 _ _ h))))) ?_
    (refine wpl_buildSlice S rfl rfl rfl rfl rfl rfl (by rfl) (by simp [Value.cells, splice, splice]) rfl (by rfl) (by rfl) ?_; clear S a; intro b14 a w hown S)
    refine wpList_nil ?_
    (refine wpm_v S rfl rfl rfl (want_none _ rfl) rfl rfl (fun w' S => sv_build S rfl rfl rfl) ?_; clear S a; intro a S)
    refine wpm_eff rfl rfl (kwg S fun b o h => by first | exact h | solve_by_elim | exact hle9 _ _ (hle8 _ _ (hle7 _ _ (hle6 _ _ (hle5 _ _ h))))) ?_
    (replace S := St.pullB b1 S; replace S := St.pullB b2 S; replace S := St.pullB b14 S; replace S := St.pullB b17 S; replace S := St.pullB b19 S; have S9 := aw_mk hP hC S; clear S; obtain ⟨F2, hle2, hMd, S⟩ := S9; refine wpl_callF S rfl rfl rfl rfl rfl rfl (newCt F2 (hE.mono (fun b o h => hle2 _ _ (hF13 _ _ h))) awM _ hMd awSz) rfl ?_; clear S a; intro u9 F3 a w hv hF3 S; obtain ⟨hv0, -⟩ := hv; obtain ⟨tb, m1, m2, m3, rfl, hT⟩ := hv0 aw_take)
    refine wpList_nil ?_
    iterate 4 (refine wpm_v S rfl rfl rfl (want_none _ rfl) rfl rfl (fun w' S => sv_pure S rfl) ?_; clear S a; intro a S)
    refine wpm_eff rfl rfl (kwg S fun b o h => by first | exact h | solve_by_elim | exact hle9 _ _ (hle8 _ _ (hle7 _ _ (hle6 _ _ (hle5 _ _ h))))) ?_
    (refine wpl_v S rfl rfl rfl (sv_pure S rfl) ?_; clear S a; intro a S)
    refine wpList_nil ?_
    refine wpm_eff rfl rfl (kwg S fun b o h => by first | exact h | solve_by_elim | exact hle9 _ _ (hle8 _ _ (hle7 _ _ (hle6 _ _ (hle5 _ _ h))))) ?_
    (refine wpl_storeO S rfl rfl rfl rfl rfl (by rfl) (by simp [Value.cells, Value.oneCell', splice]) (by rfl) ?_; clear S; intro w S)
    refine wpList_nil ?_
    refine wpm_eff rfl rfl (kwg S fun b o h => by first | exact h | solve_by_elim | exact hle9 _ _ (hle8 _ _ (hle7 _ _ (hle6 _ _ (hle5 _ _ h))))) ?_
    (refine wpl_v S rfl rfl rfl (sv_pure S rfl) ?_; clear S a; intro a S)
    refine wpList_nil ?_
    refine wpm_nil (kwg S fun b o h => by first | exact h | solve_by_elim | exact hle9 _ _ (hle8 _ _ (hle7 _ _ (hle6 _ _ (hle5 _ _ h))))) ?_
    (refine hKq3 _ _ ?_)
    (replace S := St.pullB b4 S; replace S := S.drop1; refine ⟨F3, tb, m1, m2, m3, fun b o h => hF3 _ _ (hle2 _ _ (hF13 _ _ h)), hT, ?_⟩; refine S.keep ?_; repeat (first | exact trivial | refine ⟨rfl, ?_⟩))
  skip
  (refine wpl_buildSlice S rfl rfl rfl rfl rfl rfl (by rfl) (by simp [Value.cells, splice, splice]) rfl (by rfl) (by rfl) ?_; clear S a; intro b17 a w hown S)
  refine wpList_nil ?_
  (refine wpm_v S rfl rfl rfl (want_none _ rfl) rfl rfl (fun w' S => sv_build S rfl rfl rfl) ?_; clear S a; intro a S)
  refine wpm_two rfl rfl (kwg S fun b o h => by first | exact h | solve_by_elim | exact hle9 _ _ (hle8 _ _ (hle7 _ _ (hle6 _ _ (hle5 _ _ h))))) ?_ ?_
  · skip
    (refine wpl_callF S rfl rfl rfl rfl rfl rfl (listCt F) rfl ?_; clear S a; intro vl F13 a w hvl hF13 S; obtain ⟨csl, rfl, vP0, vC0, rfl, hP, hC⟩ := hvl; have hPc := hP; obtain ⟨aP, cP, rfl, -, -⟩ := hPc; have hCc := hC; obtain ⟨aC, cC, rfl, -, -⟩ := hCc)
    refine wpList_nil ?_
    refine wpm_two rfl rfl (kwg S fun b o h => by first | exact h | solve_by_elim | exact hle9 _ _ (hle8 _ _ (hle7 _ _ (hle6 _ _ (hle5 _ _ h))))) ?_ ?_
    · skip
      (refine wpl_buildSlice S rfl rfl rfl rfl rfl rfl (by rfl) (by simp [Value.cells, splice, splice]) rfl (by rfl) (by rfl) ?_; clear S a; intro b14 a w hown S)
      refine wpList_nil ?_
      refine wpm_eff rfl rfl (kwg S fun b o h => by first | exact h | solve_by_elim | exact hle9 _ _ (hle8 _ _ (hle7 _ _ (hle6 _ _ (hle5 _ _ h))))) ?_
      (refine wpl_buildSlice S rfl rfl rfl rfl rfl rfl (by rfl) (by simp [Value.cells, splice, splice]) rfl (by rfl) (by rfl) ?_; clear S a; intro b19 a w hown S)
      refine wpList_nil ?_
      (refine wpm_v S rfl rfl rfl (want_none _ rfl) rfl rfl (fun w' S => sv_build S rfl rfl rfl) ?_; clear S a; intro a S)
      refine wpm_eff rfl rfl (kwg S fun b o h => by first | exact h | solve_by_elim | exact hle9 _ _ (hle8 _ _ (hle7 _ _ (hle6 _ _ (hle5 _ _ h))))) ?_
      (replace S := St.pullB b1 S; replace S := St.pullB b2 S; replace S := St.pullB b14 S; replace S := St.pullB b17 S; replace S := St.pullB b19 S; have S9 := aw_mk hP hC S; clear S; obtain ⟨F2, hle2, hMd, S⟩ := S9; refine wpl_callF S rfl rfl rfl rfl rfl rfl (newCt F2 (hE.mono (fun b o h => hle2 _ _ (hF13 _ _ h))) awM _ hMd awSz) rfl ?_; clear S a; intro u9 F3 a w hv hF3 S; obtain ⟨hv0, -⟩ := hv; obtain ⟨tb, m1, m2, m3, rfl, hT⟩ := hv0 aw_take)
      refine wpList_nil ?_
      iterate 4 (refine wpm_v S rfl rfl rfl (want_none _ rfl) rfl rfl (fun w' S => sv_pure S rfl) ?_; clear S a; intro a S)
      refine wpm_eff rfl rfl (kwg S fun b o h => by first | exact h | solve_by_elim | exact hle9 _ _ (hle8 _ _ (hle7 _ _ (hle6 _ _ (hle5 _ _ h))))) ?_
      (refine wpl_v S rfl rfl rfl (sv_pure S rfl) ?_; clear S a; intro a S)
      refine wpList_nil ?_
      refine wpm_eff rfl rfl (kwg S fun b o h => by first | exact h | solve_by_elim | exact hle9 _ _ (hle8 _ _ (hle7 _ _ (hle6 _ _ (hle5 _ _ h))))) ?_
      (refine wpl_storeO S rfl rfl rfl rfl rfl (by rfl) (by simp [Value.cells, Value.oneCell', splice]) (by rfl) ?_; clear S; intro w S)
      refine wpList_nil ?_
      refine wpm_eff rfl rfl (kwg S fun b o h => by first | exact h | solve_by_elim | exact hle9 _ _ (hle8 _ _ (hle7 _ _ (hle6 _ _ (hle5 _ _ h))))) ?_
      (refine wpl_v S rfl rfl rfl (sv_pure S rfl) ?_; clear S a; intro a S)
      refine wpList_nil ?_
      refine wpm_nil (kwg S fun b o h => by first | exact h | solve_by_elim | exact hle9 _ _ (hle8 _ _ (hle7 _ _ (hle6 _ _ (hle5 _ _ h))))) ?_
      (refine hKq3 _ _ ?_)
      (replace S := St.pullB b4 S; replace S := S.drop1; refine ⟨F3, tb, m1, m2, m3, fun b o h => hF3 _ _ (hle2 _ _ (hF13 _ _ h)), hT, ?_⟩; refine S.keep ?_; repeat (first | exact trivial | refine ⟨rfl, ?_⟩))
    skip
    (refine wpl_buildSlice S rfl rfl rfl rfl rfl rfl (by rfl) (by simp [Value.cells, splice, splice]) rfl (by rfl) (by rfl) ?_; clear S a; intro b19 a w hown S)
    refine wpList_nil ?_
    refine wpm_eff rfl rfl (kwg S fun b o h => by first | exact h | solve_by_elim | exact hle9 _ _ (hle8 _ _ (hle7 _ _ (hle6 _ _ (hle5 _ _ h))))) ?_
    (refine wpl_buildSlice S rfl rfl rfl rfl rfl rfl (by rfl) (by simp [Value.cells, splice, splice]) rfl (by rfl) (by rfl) ?_; clear S a; intro b14 a w hown S)
    refine wpList_nil ?_
    (refine wpm_v S rfl rfl rfl (want_none _ rfl) rfl rfl (fun w' S => sv_build S rfl rfl rfl) ?_; clear S a; intro a S)
    refine wpm_eff rfl rfl (kwg S fun b o h => by first | exact h | solve_by_elim | exact hle9 _ _ (hle8 _ _ (hle7 _ _ (hle6 _ _ (hle5 _ _ h))))) ?_
    (replace S := St.pullB b1 S; replace S := St.pullB b2 S; replace S := St.pullB b14 S; replace S := St.pullB b17 S; replace S := St.pullB b19 S; have S9 := aw_mk hP hC S; clear S; obtain ⟨F2, hle2, hMd, S⟩ := S9; refine wpl_callF S rfl rfl rfl rfl rfl rfl (newCt F2 (hE.mono (fun b o h => hle2 _ _ (hF13 _ _ h))) awM _ hMd awSz) rfl ?_; clear S a; intro u9 F3 a w hv hF3 S; obtain ⟨hv0, -⟩ := hv; obtain ⟨tb, m1, m2, m3, rfl, hT⟩ := hv0 aw_take)
    refine wpList_nil ?_
    iterate 4 (refine wpm_v S rfl rfl rfl (want_none _ rfl) rfl rfl (fun w' S => sv_pure S rfl) ?_; clear S a; intro a S)
    refine wpm_eff rfl rfl (kwg S fun b o h => by first | exact h | solve_by_elim | exact hle9 _ _ (hle8 _ _ (hle7 _ _ (hle6 _ _ (hle5 _ _ h))))) ?_
    (refine wpl_v S rfl rfl rfl (sv_pure S rfl) ?_; clear S a; intro a S)
    refine wpList_nil ?_
    refine wpm_eff rfl rfl (kwg S fun b o h => by first | exact h | solve_by_elim | exact hle9 _ _ (hle8 _ _ (hle7 _ _ (hle6 _ _ (hle5 _ _ h))))) ?_
    (refine wpl_storeO S rfl rfl rfl rfl rfl (by rfl) (by simp [Value.cells, Value.oneCell', splice]) (by rfl) ?_; clear S; intro w S)
    refine wpList_nil ?_
    refine wpm_eff rfl rfl (kwg S fun b o h => by first | exact h | solve_by_elim | exact hle9 _ _ (hle8 _ _ (hle7 _ _ (hle6 _ _ (hle5 _ _ h))))) ?_
    (refine wpl_v S rfl rfl rfl (sv_pure S rfl) ?_; clear S a; intro a S)
    refine wpList_nil ?_
    refine wpm_nil (kwg S fun b o h => by first | exact h | solve_by_elim | exact hle9 _ _ (hle8 _ _ (hle7 _ _ (hle6 _ _ (hle5 _ _ h))))) ?_
    (refine hKq3 _ _ ?_)
    (replace S := St.pullB b4 S; replace S := S.drop1; refine ⟨F3, tb, m1, m2, m3, fun b o h => hF3 _ _ (hle2 _ _ (hF13 _ _ h)), hT, ?_⟩; refine S.keep ?_; repeat (first | exact trivial | refine ⟨rfl, ?_⟩))
  skip
  (refine wpl_buildSlice S rfl rfl rfl rfl rfl rfl (by rfl) (by simp [Value.cells, splice, splice]) rfl (by rfl) (by rfl) ?_; clear S a; intro b19 a w hown S)
  refine wpList_nil ?_
  refine wpm_eff rfl rfl (kwg S fun b o h => by first | exact h | solve_by_elim | exact hle9 _ _ (hle8 _ _ (hle7 _ _ (hle6 _ _ (hle5 _ _ h))))) ?_
  (refine wpl_callF S rfl rfl rfl rfl rfl rfl (listCt F) rfl ?_; clear S a; intro vl F13 a w hvl hF13 S; obtain ⟨csl, rfl, vP0, vC0, rfl, hP, hC⟩ := hvl; have hPc := hP; obtain ⟨aP, cP, rfl, -, -⟩ := hPc; have hCc := hC; obtain ⟨aC, cC, rfl, -, -⟩ := hCc)
  refine wpList_nil ?_
  refine wpm_eff rfl rfl (kwg S fun b o h => by first | exact h | solve_by_elim | exact hle9 _ _ (hle8 _ _ (hle7 _ _ (hle6 _ _ (hle5 _ _ h))))) ?_
  (refine wpl_buildSlice S rfl rfl rfl rfl rfl rfl (by rfl) (by simp [Value.cells, splice, splice]) rfl (by rfl) (by rfl) ?_; clear S a; intro b14 a w hown S)
  refine wpList_nil ?_
  (refine wpm_v S rfl rfl rfl (want_none _ rfl) rfl rfl (fun w' S => sv_build S rfl rfl rfl) ?_; clear S a; intro a S)
  refine wpm_eff rfl rfl (kwg S fun b o h => by first | exact h | solve_by_elim | exact hle9 _ _ (hle8 _ _ (hle7 _ _ (hle6 _ _ (hle5 _ _ h))))) ?_
  (replace S := St.pullB b1 S; replace S := St.pullB b2 S; replace S := St.pullB b14 S; replace S := St.pullB b17 S; replace S := St.pullB b19 S; have S9 := aw_mk hP hC S; clear S; obtain ⟨F2, hle2, hMd, S⟩ := S9; refine wpl_callF S rfl rfl rfl rfl rfl rfl (newCt F2 (hE.mono (fun b o h => hle2 _ _ (hF13 _ _ h))) awM _ hMd awSz) rfl ?_; clear S a; intro u9 F3 a w hv hF3 S; obtain ⟨hv0, -⟩ := hv; obtain ⟨tb, m1, m2, m3, rfl, hT⟩ := hv0 aw_take)
  refine wpList_nil ?_
  iterate 4 (refine wpm_v S rfl rfl rfl (want_none _ rfl) rfl rfl (fun w' S => sv_pure S rfl) ?_; clear S a; intro a S)
  refine wpm_eff rfl rfl (kwg S fun b o h => by first | exact h | solve_by_elim | exact hle9 _ _ (hle8 _ _ (hle7 _ _ (hle6 _ _ (hle5 _ _ h))))) ?_
  (refine wpl_v S rfl rfl rfl (sv_pure S rfl) ?_; clear S a; intro a S)
  refine wpList_nil ?_
  refine wpm_eff rfl rfl (kwg S fun b o h => by first | exact h | solve_by_elim | exact hle9 _ _ (hle8 _ _ (hle7 _ _ (hle6 _ _ (hle5 _ _ h))))) ?_
  (refine wpl_storeO S rfl rfl rfl rfl rfl (by rfl) (by simp [Value.cells, Value.oneCell', splice]) (by rfl) ?_; clear S; intro w S)
  refine wpList_nil ?_
  refine wpm_eff rfl rfl (kwg S fun b o h => by first | exact h | solve_by_elim | exact hle9 _ _ (hle8 _ _ (hle7 _ _ (hle6 _ _ (hle5 _ _ h))))) ?_
  (refine wpl_v S rfl rfl rfl (sv_pure S rfl) ?_; clear S a; intro a S)
  refine wpList_nil ?_
  refine wpm_nil (kwg S fun b o h => by first | exact h | solve_by_elim | exact hle9 _ _ (hle8 _ _ (hle7 _ _ (hle6 _ _ (hle5 _ _ h))))) ?_
  (refine hKq3 _ _ ?_)
  (replace S := St.pullB b4 S; replace S := S.drop1; refine ⟨F3, tb, m1, m2, m3, fun b o h => hF3 _ _ (hle2 _ _ (hF13 _ _ h)), hT, ?_⟩; refine S.keep ?_; repeat (first | exact trivial | refine ⟨rfl, ?_⟩))
end Go.Proofs.YtoaodbclgeeaeaaGreatDoor
