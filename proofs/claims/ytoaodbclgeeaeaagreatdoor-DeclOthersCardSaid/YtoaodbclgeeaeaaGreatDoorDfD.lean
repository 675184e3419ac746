/- Walks: list, awake, mentions, holds. -/
import Derived.Test.YtoaodbclgeeaeaaGreatDoorDfC
namespace Go.Proofs.YtoaodbclgeeaeaaGreatDoor
open Go Go.Wk Go.Un Go.De
set_option linter.unusedSimpArgs false
set_option linter.unusedVariables false
attribute [local irreducible] Go.wpList Go.Code.wp Go.wpStill Go.Wk.wpPre Go.bodyPost Go.Calls Go.Wk.Ct Go.Wk.OwnS
attribute [local irreducible] Go.Wk.wpG Go.Wk.wpM

/-- The own block of a number, put in front. -/
class PullB (G : List Grp) (b : Nat) (o : outParam Obj) (R : outParam (List Grp)) : Prop where h : ∃ G1 G2, G = G1 ++ [(b, o)] :: G2 ∧ R = G1 ++ G2
instance {b : Nat} {o : Obj} {G : List Grp} : PullB ([(b, o)] :: G) b o G := ⟨[], G, rfl, rfl⟩
instance {b : Nat} {o : Obj} {g : Grp} {G R : List Grp} [h : PullB G b o R] : PullB (g :: G) b o (g :: R) := by
  obtain ⟨G1, G2, e, hR⟩ := h.h
  exact ⟨g :: G1, G2, by rw [e]; rfl, by rw [hR]; rfl⟩
section
variable {n : Sz} {L : List (Nat × Value)} {w0 : World} {F0 : Heap} {K0 : List Nat} {a : Act} {w : World}
theorem St.pullB (b : Nat) {G R : List Grp} {F : Heap} {o : Obj} [h : PullB G b o R] (S : St n L w0 F0 K0 F G a w) : St n L w0 F0 K0 F ([(b, o)] :: R) a w := by
  obtain ⟨G1, G2, rfl, rfl⟩ := h.h
  exact ⟨S.fr, S.tr.perm (by first | exact List.Perm.flatten List.perm_middle | exact (List.Perm.flatten List.perm_middle).symm)⟩
/-- All own blocks of a list, not written any more. -/
theorem frzAll {G2 : List Grp} : ∀ (l : List (Nat × Obj)) {F : Heap}, St n L w0 F0 K0 F ((l.map fun p => [p]) ++ G2) a w → ∃ F', (∀ b o, F b = some o → F' b = some o) ∧ (∀ p ∈ l, F' p.1 = some p.2) ∧ St n L w0 F0 K0 F' G2 a w
  | [], F, S => ⟨F, fun _ _ h => h, fun p hp => (by cases hp), S⟩
  | p :: l, F, S => by
    have hle := add_le (G1 := []) S
    have S2 := St.freeze (G1 := []) S
    obtain ⟨F', h1, h2, S3⟩ := frzAll l S2
    refine ⟨F', fun b o h => h1 _ _ (hle _ _ h), fun q hq => ?_, S3⟩
    rcases List.mem_cons.1 hq with rfl | hq
    · exact h1 _ _ (Heap.add_new (p := q) (List.mem_singleton.2 rfl) (by simp))
    · exact h2 q hq
theorem frz1 {G2 : List Grp} {p : Nat × Obj} {F : Heap} (S : St n L w0 F0 K0 F ([p] :: G2) a w) : ∃ F', (∀ b o, F b = some o → F' b = some o) ∧ F' p.1 = some p.2 ∧ St n L w0 F0 K0 F' G2 a w :=
  ⟨_, add_le (G1 := []) S, Heap.add_new (p := p) (List.mem_singleton.2 rfl) (by simp), St.freeze (G1 := []) S⟩
end
theorem cels_of {F : Heap} {b : Nat} {cs : List Value} {e : TypeId} (h : F b = some (.cells ⟨cs⟩ e (0, 0))) : Cels F b 0 cs := fun j u hj => ⟨_, _, _, h, by simpa using hj⟩
theorem lim_of {α : Type} {F : Heap} {b sz : Nat} {cs : List Value} {e : TypeId} {R : Heap → α → List Value → Prop} {l : List α} (h : F b = some (.cells ⟨cs⟩ e (0, 0))) (hl : LiC F sz R cs l) (hn : l.length ≤ 140737488355328) : LiM F sz R (.slice (some ⟨b, 0, none⟩) l.length l.length) l :=
  ⟨some ⟨b, 0, none⟩, l.length, rfl, ⟨Nat.le_refl _, hn⟩, fun hp => ⟨b, 0, rfl, fun k x hx => by
    obtain ⟨cs2, h5, h6, h7⟩ := hl.get hx
    exact ⟨cs2, fun j u hj => ⟨_, _, _, h, by have := h5 j u hj; simpa [Nat.zero_add] using this⟩, h6, h7⟩⟩⟩
theorem slf_of {F : Heap} {b : Nat} {cs : List Value} {e : TypeId} {l : Fo} (h : F b = some (.cells ⟨cs⟩ e (0, 0))) (hl : FoC F cs l) (hn : l.len ≤ 9223372036854775807) : SlF F (.slice (some ⟨b, 0, none⟩) l.len l.len) l :=
  ⟨some ⟨b, 0, none⟩, l.len, rfl, ⟨Nat.le_refl _, hn⟩, fun hp => ⟨b, 0, rfl, hl.fom (cels_of h)⟩⟩
theorem slf_nil (F : Heap) : SlF F (.slice none 0 0) .nil := ⟨none, 0, rfl, ⟨Nat.le_refl _, Nat.zero_le _⟩, fun h => absurd h (Nat.lt_irrefl _)⟩
def sA : List UInt8 := [39, 97]
def sNil : List UInt8 := [110, 105, 108]
def sCons : List UInt8 := [99, 111, 110, 115]
def sHead : List UInt8 := [104, 101, 97, 100]
def sList : List UInt8 := [108, 105, 115, 116]
def listTD : TD := ⟨0, 0, false, sList, [sA], [⟨sNil, []⟩, ⟨sCons, [⟨sHead, sA, .nil⟩, ⟨[], sList, .cons sA .nil .nil⟩]⟩]⟩
theorem listCt (F : Heap) : Ct Tryz.prog 25 [] F [] (fun F' _ u => ∃ cs, u = .agg ⟨cs⟩ ∧ TdR F' listTD cs) := by
  refine Ct.enter Tryz.func25 rfl Tryz.ntmps25 rfl fun w0 a S => ?_
  refine wp_sr fun Kq1 hKq1 => ?_
  (refine wpl_al S ?_; clear S a; intro b0 a w S)
  (refine wpList_nil (hKq1 _ _ (wp_sr fun Kq2 hKq2 => ?_)); try clear hKq1 Kq1)
  (refine wpl_b S ?_; clear S a; intro a S)
  (refine wpl_al S ?_; clear S a; intro b1 a w S)
  (refine wpl_storeO S rfl rfl rfl rfl rfl (by rfl) (by simp [Value.cells, Value.oneCell', splice]) (by rfl) ?_; clear S; intro w S)
  (refine wpList_nil (hKq2 _ _ (wp_sr fun Kq3 hKq3 => ?_)); try clear hKq2 Kq2)
  (refine wpl_buildSlice S rfl rfl rfl rfl rfl rfl (by rfl) (by simp [Value.cells, splice, splice]) rfl (by rfl) (by rfl) ?_; clear S a; intro b3 a w hown S)
  (refine wpl_b S ?_; clear S a; intro a S)
  (refine wpl_l S ?_; clear S a; intro a S)
  (refine wpl_b S ?_; clear S a; intro a S)
  (refine wpl_l S ?_; clear S a; intro a S)
  (refine wpl_buildSlice S rfl rfl rfl rfl rfl rfl (by rfl) (by simp [Value.cells, splice, splice]) rfl (by rfl) (by rfl) ?_; clear S a; intro b8 a w hown S)
  iterate 2 (refine wpl_b S ?_; clear S a; intro a S)
  (refine wpl_buildSlice S rfl rfl rfl rfl rfl rfl (by rfl) (by simp [Value.cells, splice, splice]) rfl (by rfl) (by rfl) ?_; clear S a; intro b11 a w hown S)
  (refine wpl_b S ?_; clear S a; intro a S)
  (refine wpl_buildSlice S rfl rfl rfl rfl rfl rfl (by rfl) (by simp [Value.cells, splice, splice]) rfl (by rfl) (by rfl) ?_; clear S a; intro b13 a w hown S)
  (refine wpl_b S ?_; clear S a; intro a S)
  (refine wpl_storeO S rfl rfl rfl rfl rfl (by rfl) (by simp [Value.cells, Value.oneCell', splice]) (by rfl) ?_; clear S; intro w S)
  (refine wpList_nil (hKq3 _ _ ?_); try clear hKq3 Kq3)
  refine wp_ret ?_
  (have S0 := S; replace S : St _ _ _ _ _ F ((([(b13, .cells ⟨[.string (bs sNil), .slice none 0 0, .string (bs sCons), .slice (some ⟨b11, 0, none⟩) 2 2]⟩ 65 (0, 0)), (b11, .cells ⟨[.string (bs sHead), .string (bs sA), .slice none 0 0, .string (bs []), .string (bs sList), .slice (some ⟨b8, 0, none⟩) 1 1]⟩ 53 (0, 0)), (b8, .cells ⟨[.string (bs sA), .slice none 0 0]⟩ 24 (0, 0)), (b3, .cells ⟨[.string (bs sA)]⟩ 9 (0, 0))] : List (Nat × Obj)).map fun p => [p]) ++ [_, _]) _ _ := S; obtain ⟨F1, hle, hall, S⟩ := frzAll _ S; replace S := S.drop1.drop1; have h13 := hall _ (List.mem_cons_self ..); have h11 := hall _ (List.mem_cons_of_mem _ (List.mem_cons_self ..)); have h8 := hall _ (List.mem_cons_of_mem _ (List.mem_cons_of_mem _ (List.mem_cons_self ..))); have h3 := hall _ (List.mem_cons_of_mem _ (List.mem_cons_of_mem _ (List.mem_cons_of_mem _ (List.mem_cons_self ..)))))
  refine fin_ret S (results1 Tryz.results25 (RV.cellO S0 rfl (by rfl))) ?_
  (have k8 : SlF F1 (.slice (some ⟨b8, 0, none⟩) 1 1) (.cons sA .nil .nil) := slf_of (l := .cons sA .nil .nil) h8 (FoC.one (slf_nil _)) (by decide); have k11 : LiM F1 3 FdR (.slice (some ⟨b11, 0, none⟩) 2 2) [⟨sHead, sA, .nil⟩, ⟨[], sList, .cons sA .nil .nil⟩] := lim_of (l := ([⟨sHead, sA, .nil⟩, ⟨[], sList, .cons sA .nil .nil⟩] : List FD)) h11 ⟨[_, _, _], [_, _, _], rfl, rfl, ⟨_, rfl, slf_nil _⟩, LiC.one rfl ⟨_, rfl, k8⟩⟩ (by decide); have k13 : LiM F1 2 CdR (.slice (some ⟨b13, 0, none⟩) 2 2) listTD.cs := lim_of (l := listTD.cs) h13 ⟨[_, _], [_, _], rfl, rfl, ⟨_, rfl, LiM.nil _ _ _⟩, LiC.one rfl ⟨_, rfl, k11⟩⟩ (by decide); have k3 : LiM F1 1 StR (.slice (some ⟨b3, 0, none⟩) 1 1) [sA] := lim_of (l := [sA]) h3 (LiC.one rfl rfl) (by decide); exact ⟨_, rfl, _, _, rfl, k3, k13⟩)
set_option maxHeartbeats 4000000 in
theorem mentionsCt (F : Heap) (s : List UInt8) : ∀ (n : Nat) (nm : List UInt8) (ar : Fo) (cs : List Value), ar.size ≤ n → TyC F cs nm ar → Ct Tryz.prog 23 [.agg ⟨cs⟩, .string (bs s)] F [] (fun _ _ u => u = .bool (menT s (nm, ar))) := by
  intro n
  induction n using Nat.strongRecOn with
  | _ n ih =>
  intro nm ar cs hn h
  obtain ⟨v, rfl, ao, cap, rfl, hcap, hpos⟩ := h
  refine Ct.enter Tryz.func23 rfl Tryz.ntmps23 rfl fun w0 a S => ?_
  refine wp_sr fun Kq1 hKq1 => ?_
  (refine wpl_bx S ?_; clear S a; intro b2 a w S)
  (refine wpl_p S ?_; clear S a; intro a S)
  (refine wpList_nil (hKq1 _ _ (wp_seq_k fun Kq2 hKq2 => ?_)); try clear hKq1 Kq1)
  refine wp_sr fun Kq3 hKq3 => ?_
  (refine wpl_f S ?_; clear S a; intro a S)
  (refine wpl_l S ?_; clear S a; intro a S)
  iterate 2 (refine wpl_p S ?_; clear S a; intro a S)
  (refine wpList_nil (hKq3 _ _ ?_); try clear hKq3 Kq3)
  refine wpc_split S rfl (fun h => ?_) (fun h => ?_)
  · (skip; (try simp only [tq] at h))
    refine wp_sr fun Kq4 hKq4 => ?_
    (refine wpl_p S ?_; clear S a; intro a S)
    (refine wpList_nil (hKq4 _ _ ?_); try clear hKq4 Kq4)
    refine wp_ret (fin_ret S (results1 Tryz.results23 (RV.tmp S rfl)) ?_)
    (congr 1; unfold menT; first | (rw [decide_eq_true (show (nm, ar).1 = s by assumption), Bool.true_or]; done) | (rw [decide_eq_false (show ¬ (nm, ar).1 = s by assumption), Bool.false_or, ← hs, Fo.drop_len (by omega)]; rfl) | (rw [decide_eq_false (show ¬ (nm, ar).1 = s by assumption), Bool.false_or, ← hs, Fo.drop_get hx, menL_cons, (by assumption : menT s (x.1, x.2) = true), Bool.true_or]; done) | trace_state)
  (skip; (try simp only [tq] at h))
  refine wp_skip ?_
  (refine hKq2 _ _ ?_; try (clear hKq2 Kq2))
  (refine wp_seq_k ?_; intro Kq4 hKq4)
  refine wp_sr fun Kq5 hKq5 => ?_
  (refine wpl_p S ?_; clear S a; intro a S)
  (refine wpList_nil (hKq5 _ _ ?_); try clear hKq5 Kq5)
  refine wp_block ?_
  refine wpc_loop (fun m a w' => ∃ (k : Nat), m = ar.len - k ∧ k ≤ ar.len ∧ menL s (ar.drop k) = menL s ar ∧ St 24 [(1, .string (bs s)), (2, ptr b2), (5, .int .i64 k)] w0 F [] F [[(b2, .cells ⟨[.string (bs nm), .slice ao ar.len cap]⟩ 24 (0, 0))]] a w') ?_ ?_
  · (have hnm : ¬ nm = s := (by assumption); refine ⟨ar.len, 0, by omega, Nat.zero_le _, rfl, ?_⟩; refine S.keep ?_; repeat (first | exact trivial | refine ⟨rfl, ?_⟩))
  (clear S; rintro m a w ⟨k, rfl, hkl, hs, S⟩)
  (refine wp_seq_k ?_; intro Kq6 hKq6)
  refine wp_sr fun Kq7 hKq7 => ?_
  (refine wpl_p S ?_; clear S a; intro a S)
  (refine wpl_f S ?_; clear S a; intro a S)
  (refine wpl_l S ?_; clear S a; intro a S)
  (refine wpl_n S ?_; clear S a; intro a S)
  (refine wpl_p S ?_; clear S a; intro a S)
  (refine wpList_nil (hKq7 _ _ ?_); try clear hKq7 Kq7)
  refine wpc_split S rfl (fun h => ?_) (fun h => ?_)
  · (skip; (try simp only [tq] at h))
    refine wp_skip ?_
    (refine hKq6 _ _ ?_; try (clear hKq6 Kq6))
    (refine wp_seq_k ?_; intro Kq8 hKq8)
    refine wp_block ?_
    (refine wp_seq_k ?_; intro Kq9 hKq9)
    (obtain ⟨b8, o8, hao, x, v1, hx, hc1, hT1⟩ := FoM.pos hpos (k := k) (by omega); rw [hao] at S; have hxs := Fo.size_get hx; have hT1c := hT1; obtain ⟨a91, c91, rfl, -⟩ := hT1c)
    refine wp_region_lit ?_
    (refine wpl_f S ?_; clear S a; intro a S)
    (refine wpl_l S ?_; clear S a; intro a S)
    (refine wpl_p S ?_; clear S a; intro a S)
    (refine wpl_i S ?_; clear S a; intro a S)
    (refine wpl_l S ?_; clear S a; intro a S)
    (refine wpl_p S ?_; clear S a; intro a S)
    (refine wpl_c0 S (ih x.2.size (by omega) x.1 x.2 _ (Nat.le_refl _) ⟨_, rfl, hT1⟩) ?_; clear S a; intro v a w hv S; subst hv)
    (refine wpList_nil (hKq9 _ _ ?_); try clear hKq9 Kq9)
    refine wpc_split S rfl (fun h => ?_) (fun h => ?_)
    · (skip; (try simp only [tq] at h))
      refine wp_sr fun Kq10 hKq10 => ?_
      (refine wpl_p S ?_; clear S a; intro a S)
      (refine wpList_nil (hKq10 _ _ ?_); try clear hKq10 Kq10)
      refine wp_ret (fin_ret S (results1 Tryz.results23 (RV.tmp S rfl)) ?_)
      (congr 1; unfold menT; first | (rw [decide_eq_true (show (nm, ar).1 = s by assumption), Bool.true_or]; done) | (rw [decide_eq_false (show ¬ (nm, ar).1 = s by assumption), Bool.false_or, ← hs, Fo.drop_len (by omega)]; rfl) | (rw [decide_eq_false (show ¬ (nm, ar).1 = s by assumption), Bool.false_or, ← hs, Fo.drop_get hx, menL_cons, (by assumption : menT s (x.1, x.2) = true), Bool.true_or]; done) | trace_state)
    (skip; (try simp only [tq] at h))
    refine wp_skip ?_
    (refine hKq8 _ _ ?_; try (clear hKq8 Kq8))
    refine wp_region_lit ?_
    (refine wpl_p S ?_; clear S a; intro a S)
    (refine wpl_a S ?_; clear S a; intro a S)
    (refine wpl_p S ?_; clear S a; intro a S)
    refine wpList_nil ?_
    change ∃ m', _ ∧ _
    (rw [← hao] at S; refine ⟨ar.len - (k + 1), by omega, k + 1, rfl, by omega, ?_, ?_⟩; rotate_left 1; (refine S.keep ?_; repeat (first | exact trivial | refine ⟨rfl, ?_⟩)); rw [← hs, Fo.drop_get hx, menL_cons, (by assumption : menT s (x.1, x.2) = false), Bool.false_or])
  (skip; (try simp only [tq] at h))
  refine wp_exit ?_
  (refine hKq4 _ _ ?_; try (clear hKq4 Kq4))
  refine wp_sr fun Kq8 hKq8 => ?_
  (refine wpl_p S ?_; clear S a; intro a S)
  (refine wpList_nil (hKq8 _ _ ?_); try clear hKq8 Kq8)
  refine wp_ret (fin_ret S (results1 Tryz.results23 (RV.tmp S rfl)) ?_)
  (congr 1; unfold menT; first | (rw [decide_eq_true (show (nm, ar).1 = s by assumption), Bool.true_or]; done) | (rw [decide_eq_false (show ¬ (nm, ar).1 = s by assumption), Bool.false_or, ← hs, Fo.drop_len (by omega)]; rfl) | (rw [decide_eq_false (show ¬ (nm, ar).1 = s by assumption), Bool.false_or, ← hs, Fo.drop_get hx, menL_cons, (by assumption : menT s (x.1, x.2) = true), Bool.true_or]; done) | trace_state)
set_option maxHeartbeats 4000000 in
theorem holdsCt (F : Heap) (s : List UInt8) : ∀ (n : Nat) (vh : VH) (L : Vf) (cs : List Value), L.size ≤ n → VaC F cs vh L → Ct Tryz.prog 24 [.agg ⟨cs⟩, .string (bs s)] F [] (fun _ _ u => u = .bool (hldV s vh L)) := by
  intro n
  induction n using Nat.strongRecOn with
  | _ n ih =>
  intro vh L cs hn h
  obtain ⟨v, rfl, ⟨ao, cap, rfl, hcap, hpos⟩, hsb⟩ := h
  refine Ct.enter Tryz.func24 rfl Tryz.ntmps24 rfl fun w0 a S => ?_
  refine wp_sr fun Kq1 hKq1 => ?_
  (refine wpl_bx S ?_; clear S a; intro b2 a w S)
  (refine wpl_p S ?_; clear S a; intro a S)
  (refine wpList_nil (hKq1 _ _ (wp_seq_k fun Kq2 hKq2 => ?_)); try clear hKq1 Kq1)
  replace hKq2 : ∀ (a' : Act) (w' : World), (hldH s vh = false ∧ St 29 [(1, .string (bs s)), (2, ptr b2)] w0 F [] F [[(b2, .cells ⟨[.int .u8 (vh.k : Int), .int .i64 vh.n, .string (bs vh.s), .slice ao L.len cap]⟩ 40 (0, 0))]] a' w') → Kq2 a' w' := (by
   (intro a w hM; refine hKq2 _ _ ?_; clear hKq2 Kq2; clear S; obtain ⟨hnm, S⟩ := hM)
   (refine wp_seq_k ?_; intro Kq3 hKq3)
   refine wp_sr fun Kq4 hKq4 => ?_
   (refine wpl_p S ?_; clear S a; intro a S)
   (refine wpList_nil (hKq4 _ _ ?_); try clear hKq4 Kq4)
   refine wp_block ?_
   refine wpc_loop (fun m a w' => ∃ (k : Nat), m = L.len - k ∧ k ≤ L.len ∧ hldL s (L.drop k) = hldL s L ∧ St 29 [(1, .string (bs s)), (2, ptr b2), (5, .int .i64 k)] w0 F [] F [[(b2, .cells ⟨[.int .u8 (vh.k : Int), .int .i64 vh.n, .string (bs vh.s), .slice ao L.len cap]⟩ 40 (0, 0))]] a w') ?_ ?_
   · (refine ⟨L.len, 0, by omega, Nat.zero_le _, rfl, ?_⟩; refine S.keep ?_; repeat (first | exact trivial | refine ⟨rfl, ?_⟩))
   (clear S; rintro m a w ⟨k, rfl, hkl, hs, S⟩)
   (refine wp_seq_k ?_; intro Kq5 hKq5)
   refine wp_sr fun Kq6 hKq6 => ?_
   (refine wpl_p S ?_; clear S a; intro a S)
   (refine wpl_f S ?_; clear S a; intro a S)
   (refine wpl_l S ?_; clear S a; intro a S)
   (refine wpl_n S ?_; clear S a; intro a S)
   (refine wpl_p S ?_; clear S a; intro a S)
   (refine wpList_nil (hKq6 _ _ ?_); try clear hKq6 Kq6)
   refine wpc_split S rfl (fun h => ?_) (fun h => ?_)
   · (skip; (try simp only [tq] at h))
     refine wp_skip ?_
     (refine hKq5 _ _ ?_; try (clear hKq5 Kq5))
     (refine wp_seq_k ?_; intro Kq7 hKq7)
     refine wp_block ?_
     (refine wp_seq_k ?_; intro Kq8 hKq8)
     (obtain ⟨b8, o8, hao, x, cs1, v1, hx, hc1, hw9, hT1⟩ := TrM.pos hpos (k := k) (by omega); rw [hao] at S; have hxs := Rose.size_get hx; have hT1c := hT1; obtain ⟨a91, c91, rfl, -⟩ := hT1c; have hw9c := hw9.1; subst hw9c; (simp only [List.cons_append, List.nil_append] at hc1))
     refine wp_region_lit ?_
     (refine wpl_f S ?_; clear S a; intro a S)
     (refine wpl_l S ?_; clear S a; intro a S)
     (refine wpl_p S ?_; clear S a; intro a S)
     (refine wpl_i S ?_; clear S a; intro a S)
     (refine wpl_l S ?_; clear S a; intro a S)
     (refine wpl_p S ?_; clear S a; intro a S)
     (refine wpl_c0 S (ih x.2.size (by omega) x.1 x.2 _ (Nat.le_refl _) ⟨_, rfl, hT1, hw9.2⟩) ?_; clear S a; intro v a w hv S; subst hv)
     (refine wpList_nil (hKq8 _ _ ?_); try clear hKq8 Kq8)
     refine wpc_split S rfl (fun h => ?_) (fun h => ?_)
     · (skip; (try simp only [tq] at h))
       refine wp_sr fun Kq9 hKq9 => ?_
       (refine wpl_p S ?_; clear S a; intro a S)
       (refine wpList_nil (hKq9 _ _ ?_); try clear hKq9 Kq9)
       refine wp_ret (fin_ret S (results1 Tryz.results24 (RV.tmp S rfl)) ?_)
       (congr 1; unfold hldV; first | (rw [hnm, Bool.false_or, ← hs, Rose.drop_len (by omega)]; rfl) | (rw [hnm, Bool.false_or, ← hs, Rose.drop_get hx, hldL_cons, (by assumption : hldV s x.1 x.2 = true), Bool.true_or]; done) | (unfold hldH; rw [decide_eq_true (show vh.k = 6 by omega), decide_eq_true (show vh.s = s by assumption), Bool.true_and, Bool.true_or]; done) | trace_state)
     (skip; (try simp only [tq] at h))
     refine wp_skip ?_
     (refine hKq7 _ _ ?_; try (clear hKq7 Kq7))
     refine wp_region_lit ?_
     (refine wpl_p S ?_; clear S a; intro a S)
     (refine wpl_a S ?_; clear S a; intro a S)
     (refine wpl_p S ?_; clear S a; intro a S)
     refine wpList_nil ?_
     change ∃ m', _ ∧ _
     (rw [← hao] at S; refine ⟨L.len - (k + 1), by omega, k + 1, rfl, by omega, ?_, ?_⟩; rotate_left 1; (refine S.keep ?_; repeat (first | exact trivial | refine ⟨rfl, ?_⟩)); rw [← hs, Rose.drop_get hx, hldL_cons, (by assumption : hldV s x.1 x.2 = false), Bool.false_or])
   (skip; (try simp only [tq] at h))
   refine wp_exit ?_
   (refine hKq3 _ _ ?_; try (clear hKq3 Kq3))
   refine wp_sr fun Kq7 hKq7 => ?_
   (refine wpl_p S ?_; clear S a; intro a S)
   (refine wpList_nil (hKq7 _ _ ?_); try clear hKq7 Kq7)
   refine wp_ret (fin_ret S (results1 Tryz.results24 (RV.tmp S rfl)) ?_)
   (congr 1; unfold hldV; first | (rw [hnm, Bool.false_or, ← hs, Rose.drop_len (by omega)]; rfl) | (rw [hnm, Bool.false_or, ← hs, Rose.drop_get hx, hldL_cons, (by assumption : hldV s x.1 x.2 = true), Bool.true_or]; done) | (unfold hldH; rw [decide_eq_true (show vh.k = 6 by omega), decide_eq_true (show vh.s = s by assumption), Bool.true_and, Bool.true_or]; done) | trace_state))
  refine wp_sr fun Kq8 hKq8 => ?_
  (refine wpl_f S ?_; clear S a; intro a S)
  (refine wpl_l S ?_; clear S a; intro a S)
  iterate 2 (refine wpl_p S ?_; clear S a; intro a S)
  refine wpl_guard S rfl rfl rfl rfl rfl ?_ ?_
  · (intro h S'; clear S; have S := S'; clear S'; (try simp only [tq] at h))
    (refine wpl_f S ?_; clear S a; intro a S)
    refine wpl_take S rfl rfl rfl ?_
    (refine wpl_l S ?_; clear S a; intro a S)
    refine wpl_take S rfl rfl rfl ?_
    (refine wpl_p S ?_; clear S a; intro a S)
    refine wpl_take S rfl rfl rfl ?_
    iterate 2 (refine wpl_p S ?_; clear S a; intro a S)
    (refine wpList_nil (hKq8 _ _ ?_); try clear hKq8 Kq8)
    refine wpc_split S rfl (fun h => ?_) (fun h => ?_)
    · (skip; (try simp only [tq] at h))
      refine wp_sr fun Kq9 hKq9 => ?_
      (refine wpl_p S ?_; clear S a; intro a S)
      (refine wpList_nil (hKq9 _ _ ?_); try clear hKq9 Kq9)
      refine wp_ret (fin_ret S (results1 Tryz.results24 (RV.tmp S rfl)) ?_)
      (congr 1; unfold hldV; first | (rw [hnm, Bool.false_or, ← hs, Rose.drop_len (by omega)]; rfl) | (rw [hnm, Bool.false_or, ← hs, Rose.drop_get hx, hldL_cons, (by assumption : hldV s x.1 x.2 = true), Bool.true_or]; done) | (unfold hldH; rw [decide_eq_true (show vh.k = 6 by omega), decide_eq_true (show vh.s = s by assumption), Bool.true_and, Bool.true_or]; done) | trace_state)
    (skip; (try simp only [tq] at h))
    refine wp_skip ?_
    (refine hKq2 _ _ ?_)
    (refine ⟨?_, ?_⟩; rotate_left 1; (refine S.keep ?_; repeat (first | exact trivial | refine ⟨rfl, ?_⟩)); unfold hldH; first | (rw [decide_eq_false (show ¬ vh.k = 6 by omega), Bool.false_and]) | (rw [decide_eq_false (show ¬ vh.s = s by assumption), Bool.and_false]))
  (intro h; clear S a; intro a S; (try simp only [tq] at h))
  iterate 3 (refine wpl_k S ?_; clear S a; intro a S)
  (refine wpl_p S ?_; clear S a; intro a S)
  (refine wpList_nil (hKq8 _ _ ?_); try clear hKq8 Kq8)
  refine wpc_false S rfl ?_
  refine wp_skip ?_
  (refine hKq2 _ _ ?_)
  (refine ⟨?_, ?_⟩; rotate_left 1; (refine S.keep ?_; repeat (first | exact trivial | refine ⟨rfl, ?_⟩)); unfold hldH; first | (rw [decide_eq_false (show ¬ vh.k = 6 by omega), Bool.false_and]) | (rw [decide_eq_false (show ¬ vh.s = s by assumption), Bool.and_false]))
end Go.Proofs.YtoaodbclgeeaeaaGreatDoor
