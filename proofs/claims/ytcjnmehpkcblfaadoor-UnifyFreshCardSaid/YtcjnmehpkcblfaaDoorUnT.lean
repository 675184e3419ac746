/- The table of the unifier, as it lies in memory; the walk of add. -/
import Derived.Test.YtcjnmehpkcblfaaDoorUnC
namespace Go.Proofs.YtcjnmehpkcblfaaDoor
open Go Go.Wk Go.Un
set_option linter.unusedSimpArgs false
set_option linter.unusedVariables false
attribute [local irreducible] Go.wpList Go.Code.wp Go.wpStill Go.Wk.wpPre Go.bodyPost Go.Calls Go.Wk.Ct Go.Wk.OwnS
attribute [local irreducible] Go.Wk.wpG Go.Wk.wpM

/-- A table: nodes (a name, the parts), what node a variable is, each node's parent, which node stands for it, the least variable. -/
structure Tb where
  nd : List (List UInt8 × List Nat)
  vs : List (List UInt8 × Nat)
  pa : List Nat
  st : List Int
  le : List (List UInt8)
def intsN (l : List Nat) : List Value := l.map fun (k : Nat) => Value.int .i64 (k : Int)
def intsI (l : List Int) : List Value := l.map fun k => Value.int .i64 k
def strs (l : List (List UInt8)) : List Value := l.map fun s => Value.string (bs s)
def mapV (l : List (List UInt8 × Nat)) : List (List UInt8 × Value) := l.map fun x => (x.1, Value.int .i64 (x.2 : Int))
/-- Cells that are nodes. -/
def NdC (F : Heap) : List Value → List (List UInt8 × List Nat) → Prop
  | [], [] => True
  | x :: v :: r, (nm, ks) :: l => x = .string (bs nm) ∧ SlC F v ks.length (intsN ks) ∧ NdC F r l
  | _, _ => False
theorem NdC.mono {F F' : Heap} (hF : ∀ b o, F b = some o → F' b = some o) : ∀ {xs : List Value} {l : List (List UInt8 × List Nat)}, NdC F xs l → NdC F' xs l
  | [], [], _ => trivial
  | [], _ :: _, h => h.elim
  | [_], [], h => h.elim
  | [_], _ :: _, h => h.elim
  | _ :: _ :: _, [], h => h.elim
  | x :: v :: r, (nm, ks) :: l, ⟨h1, h2, h3⟩ => ⟨h1, h2.mono hF, NdC.mono hF h3⟩
theorem NdC.app {F : Heap} : ∀ {xs ys : List Value} {l m : List (List UInt8 × List Nat)}, NdC F xs l → NdC F ys m → NdC F (xs ++ ys) (l ++ m)
  | [], ys, [], m, _, h => h
  | [], _, _ :: _, _, h, _ => h.elim
  | [_], _, [], _, h, _ => h.elim
  | [_], _, _ :: _, _, h, _ => h.elim
  | _ :: _ :: _, _, [], _, h, _ => h.elim
  | x :: v :: r, ys, (nm, ks) :: l, m, ⟨h1, h2, h3⟩, h => ⟨h1, h2, NdC.app h3 h⟩
theorem NdC.at {F : Heap} : ∀ {xs : List Value} {l : List (List UInt8 × List Nat)} {k : Nat} {x}, NdC F xs l → l[k]? = some x → ∃ v, (∀ j u, [Value.string (bs x.1), v][j]? = some u → xs[k * 2 + j]? = some u) ∧ SlC F v x.2.length (intsN x.2)
  | [], [], k, x, _, hk => by simp at hk
  | [], _ :: _, _, _, h, _ => h.elim
  | [_], [], _, _, h, _ => h.elim
  | [_], _ :: _, _, _, h, _ => h.elim
  | _ :: _ :: _, [], _, _, h, _ => h.elim
  | y :: v :: r, (nm, ks) :: l, 0, x, ⟨h1, h2, h3⟩, hk => by
    cases hk
    subst h1
    refine ⟨v, fun j u hu => ?_, h2⟩
    rw [Nat.zero_mul, Nat.zero_add]
    rcases j with - | j
    · exact hu
    rcases j with - | j
    · exact hu
    · simp at hu
  | y :: v :: r, (nm, ks) :: l, k + 1, x, ⟨h1, h2, h3⟩, hk => by
    obtain ⟨v', h4, h5⟩ := NdC.at (l := l) h3 hk
    refine ⟨v', fun j u hu => ?_, h5⟩
    rw [show (k + 1) * 2 + j = (k * 2 + j) + 2 by omega]
    exact h4 j u hu
def GT (tb mb : Nat) (vn vp vt vl : Value) (told : Int) (vs : List (List UInt8 × Nat)) (gn gp gs gl : Grp) : List Grp :=
  [[(tb, .cells ⟨[vn, .map (some mb), vp, vt, vl, .int .i64 told]⟩ 47 (0, 0))], [(mb, mObj kS (mapV vs))], gn, gp, gs, gl]
structure TM (F : Heap) (T : Tb) (n : Nat) (vn vp vt vl : Value) (gn gp gs gl : Grp) : Prop where
  hn : ∃ xs, OwnS 66 2 vn n xs gn ∧ NdC F xs T.nd
  hp : OwnS 3 1 vp n (intsN T.pa) gp
  hs : OwnS 3 1 vt n (intsI T.st) gs
  hl : OwnS 9 1 vl n (strs T.le) gl
/-- The table lies at tb. -/
def TabM (F : Heap) (tb mb : Nat) (T : Tb) (n : Nat) (G : List Grp) : Prop := ∃ vn vp vt vl told gn gp gs gl, G = GT tb mb vn vp vt vl told T.vs gn gp gs gl ∧ TM F T n vn vp vt vl gn gp gs gl
theorem TM.mono {F F' : Heap} (hF : ∀ b o, F b = some o → F' b = some o) {T n vn vp vt vl gn gp gs gl} (h : TM F T n vn vp vt vl gn gp gs gl) : TM F' T n vn vp vt vl gn gp gs gl := by
  obtain ⟨⟨xs, h1, h2⟩, h3, h4, h5⟩ := h
  exact ⟨⟨xs, h1, h2.mono hF⟩, h3, h4, h5⟩
theorem intsN_len (l : List Nat) : (intsN l).length = l.length := List.length_map _
theorem intsI_len (l : List Int) : (intsI l).length = l.length := List.length_map _
theorem strs_len (l : List (List UInt8)) : (strs l).length = l.length := List.length_map _
def Tb.add (T : Tb) (nm : List UInt8) (ks : List Nat) (s : Int) (l : List UInt8) : Tb := ⟨T.nd ++ [(nm, ks)], T.vs, T.pa ++ [T.nd.length], T.st ++ [s], T.le ++ [l]⟩
theorem NdC.len {F : Heap} : ∀ {xs : List Value} {l : List (List UInt8 × List Nat)}, NdC F xs l → xs.length = l.length * 2
  | [], [], _ => rfl
  | [], _ :: _, h => h.elim
  | [_], [], h => h.elim
  | [_], _ :: _, h => h.elim
  | _ :: _ :: _, [], h => h.elim
  | x :: v :: r, (nm, ks) :: l, ⟨h1, h2, h3⟩ => by have := NdC.len (l := l) h3; simp [this]; omega
set_option maxHeartbeats 4000000 in
theorem addCt (F : Heap) (tb mb : Nat) (T : Tb) (n : Nat) (G : List Grp) (nm : List UInt8) (ks : List Nat) (v : Value) (s : Int) (l : List UInt8) (hn : n ≤ 100000000) (h : TabM F tb mb T n G) (hv : SlC F v ks.length (intsN ks)) :
    Ct Tryd.prog 33 [.pointer (some ⟨tb, 0, none⟩), .agg ⟨[.string (bs nm), v]⟩, .int .i64 s, .string (bs l)] F G (fun _ G' u => u = .int .i64 n ∧ TabM F tb mb (T.add nm ks s l) (n + 1) G') := by
  obtain ⟨vn, vp, vt, vl, told, gn, gp, gs, gl, rfl, ⟨xs, hN, hNd⟩, hP, hS, hL⟩ := h
  have hln := hNd.len
  rw [ownS_len hN] at hln
  obtain ⟨aN, cN, rfl, -⟩ := hN.at
  have hv0 := hv
  obtain ⟨aV, cV, rfl, -, -⟩ := hv
  unfold GT
  refine Ct.enter Tryd.func33 rfl Tryd.ntmps33 rfl fun w0 a S => ?_
  (refine wp_seq_k ?_; intro Kq1 hKq1)
  refine wp_region_lit ?_
  (refine wpl_box S rfl rfl rfl rfl rfl ?_; clear S a; intro b5 a w S)
  (refine wpl_v S rfl rfl rfl (sv_pure S rfl) ?_; clear S a; intro a S)
  refine wpList_nil ?_
  (refine hKq1 _ _ ?_; try (clear hKq1 Kq1))
  (refine wp_seq_k ?_; intro Kq2 hKq2)
  refine wp_region_lit ?_
  (refine wpl_v S rfl rfl rfl (sv_pure S rfl) ?_; clear S a; intro a S)
  (refine wpl_v S rfl rfl rfl (sv_nilCheck S rfl rfl) ?_; clear S a; intro a S)
  (refine wpl_v S rfl rfl rfl (sv_fieldAddr S rfl rfl rfl inferInstance rfl) ?_; clear S a; intro a S)
  first | (refine wpl_v S rfl rfl rfl (sv_loadO S rfl rfl (by rfl)) ?_; clear S a; intro a S) | (refine wpl_v S rfl rfl rfl (sv_loadF S rfl rfl (by assumption)) ?_; clear S a; intro a S)
  (refine wpl_v S rfl rfl rfl (sv_lenSl S rfl rfl) ?_; clear S a; intro a S)
  (refine wpl_v S rfl rfl rfl (sv_pure S rfl) ?_; clear S a; intro a S)
  refine wpList_nil ?_
  (refine hKq2 _ _ ?_; try (clear hKq2 Kq2))
  (refine wp_seq_k ?_; intro Kq3 hKq3)
  (refine wpc_mixM [0, 1, 2, 3, 4, 5, 8, 9] [4, 5] [10] (.one 0 (.one 1 (.one 2 (.one 3 (.one 4 (.one 5 (.one 6 (.one 7 (.one 8 (.one 9 (.one 10 .nil))))))))))) [tb, b5] S mixed (by kernel_rfl) ?_; clear S; intro w S)
  (refine wpm_v S rfl rfl rfl (want_none _ rfl) rfl rfl (fun w' S => sv_pure S rfl) ?_; clear S a; intro a S)
  (refine wpm_v S rfl rfl rfl (want_none _ rfl) rfl rfl (fun w' S => sv_pure S rfl) ?_; clear S a; intro a S)
  (refine wpm_v S rfl rfl rfl (want_none _ rfl) rfl rfl (fun w' S => sv_nilCheck S rfl rfl) ?_; clear S a; intro a S)
  (refine wpm_v S rfl rfl rfl (want_none _ rfl) rfl rfl (fun w' S => sv_fieldAddr S rfl rfl rfl inferInstance rfl) ?_; clear S a; intro a S)
  first | (refine wpm_lateO tb S rfl rfl rfl (want_none _ rfl) rfl rfl (fun w' S => sv_loadO S rfl rfl (by rfl)) ?_; clear S a; intro a S) | (refine wpm_lateO tb S rfl rfl rfl (want_none _ rfl) rfl rfl (fun w' S => sv_loadAO S rfl rfl (by rfl)) ?_; clear S a; intro a S)
  first | (refine wpm_lateO b5 S rfl rfl rfl (want_none _ rfl) rfl rfl (fun w' S => sv_loadO S rfl rfl (by rfl)) ?_; clear S a; intro a S) | (refine wpm_lateO b5 S rfl rfl rfl (want_none _ rfl) rfl rfl (fun w' S => sv_loadAO S rfl rfl (by rfl)) ?_; clear S a; intro a S)
  refine wpm_eff rfl rfl (fun _ => ⟨fun b o h => S.tr.frz b o (by first | exact h | solve_by_elim), S.has inferInstance, S.has inferInstance, trivial⟩) ?_
  (refine wpl_buildSlice S rfl rfl rfl rfl rfl rfl (by rfl) (by simp [Value.cells, splice, splice]) rfl (by rfl) (by rfl) ?_; clear S a; intro b21 a w h21 S)
  refine wpList_nil ?_
  refine wpm_eff rfl rfl (fun _ => ⟨fun b o h => S.tr.frz b o (by first | exact h | solve_by_elim), S.has inferInstance, S.has inferInstance, trivial⟩) ?_
  (refine wpl_appendOwn S rfl rfl rfl rfl rfl rfl hN h21 (by rfl) (by simp [Value.cells, Value.oneCell', splice, splice]) (by omega) (by omega) ?_; clear hN S a; intro v g a w hN S)
  refine wpList_nil ?_
  (refine wpm_v S rfl rfl rfl (want_none _ rfl) rfl rfl (fun w' S => sv_nilCheck S rfl rfl) ?_; clear S a; intro a S)
  (refine wpm_v S rfl rfl rfl (want_none _ rfl) rfl rfl (fun w' S => sv_fieldAddr S rfl rfl rfl inferInstance rfl) ?_; clear S a; intro a S)
  refine wpm_eff rfl rfl (fun _ => ⟨fun b o h => S.tr.frz b o (by first | exact h | solve_by_elim), S.has inferInstance, S.has inferInstance, trivial⟩) ?_
  (refine wpl_store1 S rfl rfl rfl rfl rfl (OwnS.oneCell hN) (by simp) ?_; clear S; intro w S)
  refine wpList_nil ?_
  refine wpm_nil (fun h => absurd h (by decide)) ?_
  (refine hKq3 _ _ ?_; try (clear hKq3 Kq3))
  (refine wp_seq_k ?_; intro Kq4 hKq4)
  refine wp_region_lit ?_
  (refine wpl_v S rfl rfl rfl (sv_pure S rfl) ?_; clear S a; intro a S)
  (refine wpl_v S rfl rfl rfl (sv_pure S rfl) ?_; clear S a; intro a S)
  (refine wpl_v S rfl rfl rfl (sv_nilCheck S rfl rfl) ?_; clear S a; intro a S)
  (refine wpl_v S rfl rfl rfl (sv_fieldAddr S rfl rfl rfl inferInstance rfl) ?_; clear S a; intro a S)
  first | (refine wpl_v S rfl rfl rfl (sv_loadO S rfl rfl (by rfl)) ?_; clear S a; intro a S) | (refine wpl_v S rfl rfl rfl (sv_loadF S rfl rfl (by assumption)) ?_; clear S a; intro a S)
  (refine wpl_v S rfl rfl rfl (sv_pure S rfl) ?_; clear S a; intro a S)
  (refine wpl_append S rfl rfl rfl rfl rfl rfl rfl rfl rfl rfl rfl (fun _ => rfl) hP (by rfl) (by simp [Value.cells, splice, splice]) (by simp [Value.cells, Value.oneCell', splice, splice]) rfl (by rfl) (by rfl) rfl (by omega) (by omega) ?_; clear hP S a; intro v u g a w hP S)
  (refine wpl_v S rfl rfl rfl (sv_nilCheck S rfl rfl) ?_; clear S a; intro a S)
  (refine wpl_v S rfl rfl rfl (sv_fieldAddr S rfl rfl rfl inferInstance rfl) ?_; clear S a; intro a S)
  (refine wpl_store1 S rfl rfl rfl rfl rfl (OwnS.oneCell hP) (by simp) ?_; clear S; intro w S)
  refine wpList_nil ?_
  (refine hKq4 _ _ ?_; try (clear hKq4 Kq4))
  (refine wp_seq_k ?_; intro Kq5 hKq5)
  refine wp_region_lit ?_
  (refine wpl_v S rfl rfl rfl (sv_pure S rfl) ?_; clear S a; intro a S)
  (refine wpl_v S rfl rfl rfl (sv_pure S rfl) ?_; clear S a; intro a S)
  (refine wpl_v S rfl rfl rfl (sv_nilCheck S rfl rfl) ?_; clear S a; intro a S)
  (refine wpl_v S rfl rfl rfl (sv_fieldAddr S rfl rfl rfl inferInstance rfl) ?_; clear S a; intro a S)
  first | (refine wpl_v S rfl rfl rfl (sv_loadO S rfl rfl (by rfl)) ?_; clear S a; intro a S) | (refine wpl_v S rfl rfl rfl (sv_loadF S rfl rfl (by assumption)) ?_; clear S a; intro a S)
  (refine wpl_v S rfl rfl rfl (sv_pure S rfl) ?_; clear S a; intro a S)
  (refine wpl_append S rfl rfl rfl rfl rfl rfl rfl rfl rfl rfl rfl (fun _ => rfl) hS (by rfl) (by simp [Value.cells, splice, splice]) (by simp [Value.cells, Value.oneCell', splice, splice]) rfl (by rfl) (by rfl) rfl (by omega) (by omega) ?_; clear hS S a; intro v u g a w hS S)
  (refine wpl_v S rfl rfl rfl (sv_nilCheck S rfl rfl) ?_; clear S a; intro a S)
  (refine wpl_v S rfl rfl rfl (sv_fieldAddr S rfl rfl rfl inferInstance rfl) ?_; clear S a; intro a S)
  (refine wpl_store1 S rfl rfl rfl rfl rfl (OwnS.oneCell hS) (by simp) ?_; clear S; intro w S)
  refine wpList_nil ?_
  (refine hKq5 _ _ ?_; try (clear hKq5 Kq5))
  (refine wp_seq_k ?_; intro Kq6 hKq6)
  refine wp_region_lit ?_
  (refine wpl_v S rfl rfl rfl (sv_pure S rfl) ?_; clear S a; intro a S)
  (refine wpl_v S rfl rfl rfl (sv_pure S rfl) ?_; clear S a; intro a S)
  (refine wpl_v S rfl rfl rfl (sv_nilCheck S rfl rfl) ?_; clear S a; intro a S)
  (refine wpl_v S rfl rfl rfl (sv_fieldAddr S rfl rfl rfl inferInstance rfl) ?_; clear S a; intro a S)
  first | (refine wpl_v S rfl rfl rfl (sv_loadO S rfl rfl (by rfl)) ?_; clear S a; intro a S) | (refine wpl_v S rfl rfl rfl (sv_loadF S rfl rfl (by assumption)) ?_; clear S a; intro a S)
  (refine wpl_v S rfl rfl rfl (sv_pure S rfl) ?_; clear S a; intro a S)
  (refine wpl_append S rfl rfl rfl rfl rfl rfl rfl rfl rfl rfl rfl (fun _ => rfl) hL (by rfl) (by simp [Value.cells, splice, splice]) (by simp [Value.cells, Value.oneCell', splice, splice]) rfl (by rfl) (by rfl) rfl (by omega) (by omega) ?_; clear hL S a; intro v u g a w hL S)
  (refine wpl_v S rfl rfl rfl (sv_nilCheck S rfl rfl) ?_; clear S a; intro a S)
  (refine wpl_v S rfl rfl rfl (sv_fieldAddr S rfl rfl rfl inferInstance rfl) ?_; clear S a; intro a S)
  (refine wpl_store1 S rfl rfl rfl rfl rfl (OwnS.oneCell hL) (by simp) ?_; clear S; intro w S)
  refine wpList_nil ?_
  (refine hKq6 _ _ ?_; try (clear hKq6 Kq6))
  (refine wp_seq_k ?_; intro Kq7 hKq7)
  refine wp_region_lit ?_
  (refine wpl_v S rfl rfl rfl (sv_pure S rfl) ?_; clear S a; intro a S)
  (refine wpl_v S rfl rfl rfl (sv_pure S rfl) ?_; clear S a; intro a S)
  refine wpList_nil ?_
  (refine hKq7 _ _ ?_; try (clear hKq7 Kq7))
  refine wp_ret ?_
  (replace S := S.drop1)
  
  refine fin_ret S (results1 Tryd.results33 (RV.tmp S rfl)) ?_
  (refine ⟨rfl, _, _, _, _, told, _, _, _, _, rfl, ⟨⟨_, hN, hNd.app ⟨rfl, hv0, trivial⟩⟩, ?_, ?_, ?_⟩⟩; (show OwnS _ _ _ _ (intsN (T.pa ++ [T.nd.length])) _; rw [show T.nd.length = n by omega, intsN, List.map_append]; exact hP); (show OwnS _ _ _ _ (intsI (T.st ++ [s])) _; rw [intsI, List.map_append]; exact hS); (show OwnS _ _ _ _ (strs (T.le ++ [l])) _; rw [strs, List.map_append]; exact hL))
end Go.Proofs.YtcjnmehpkcblfaaDoor
