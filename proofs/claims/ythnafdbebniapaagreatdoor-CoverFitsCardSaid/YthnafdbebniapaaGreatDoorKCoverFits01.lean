/- Walks. -/
import Derived.Test.YthnafdbebniapaaGreatDoorQ20
import Derived.Test.YthnafdbebniapaaGreatDoorQ17
import Derived.Test.YthnafdbebniapaaGreatDoorQ11
import Derived.Test.YthnafdbebniapaaGreatDoorQ10
import Derived.Test.YthnafdbebniapaaGreatDoorQ09
import Derived.Test.YthnafdbebniapaaGreatDoorQ08
import Derived.Test.YthnafdbebniapaaGreatDoorQ06
import Derived.Test.YthnafdbebniapaaGreatDoorQ05
import Derived.Test.YthnafdbebniapaaGreatDoorQ04
import Derived.Test.YthnafdbebniapaaGreatDoorQ03
import Derived.Test.YthnafdbebniapaaGreatDoorQ02
import Derived.Test.YthnafdbebniapaaGreatDoorQ01
import Derived.Lib.IndexMore
import Derived.Test.YthnafdbebniapaaGreatDoorQ25
import Derived.Test.YthnafdbebniapaaGreatDoorQ24
import Derived.Test.YthnafdbebniapaaGreatDoorQ23
import Derived.Test.YthnafdbebniapaaGreatDoorQ19
import Derived.Test.YthnafdbebniapaaGreatDoorQ18
import Derived.Test.YthnafdbebniapaaGreatDoorKCoverFitsTy
import Derived.Test.YthnafdbebniapaaGreatDoorQShelf
import Derived.Test.YthnafdbebniapaaGreatDoorQ12
import Derived.Test.YthnafdbebniapaaGreatDoorQ16
import Derived.Test.YthnafdbebniapaaGreatDoorQ15
import Derived.Test.YthnafdbebniapaaGreatDoorQ14
import Derived.Test.YthnafdbebniapaaGreatDoorQ13
import Derived.Test.YthnafdbebniapaaGreatDoorQ21
import Derived.Test.YthnafdbebniapaaGreatDoorQ22
import Derived.Test.YthnafdbebniapaaGreatDoorQ31
set_option maxHeartbeats 8000000
set_option maxRecDepth 20000
namespace Go.Cv
open Go Go.Wk Go.Un Go.De
set_option linter.unusedSimpArgs false
set_option linter.unusedVariables false
def patE (h : EH) (L : Ef) : Bool := decide (depE L + 1 ≤ 64) && (goodH h L.len && goodL L)
theorem goodL_get : ∀ {l : Ef} {k : Nat} {x : EH × Ef}, goodL l = true → l.get? k = some x → goodH x.1 x.2.len = true ∧ goodL x.2 = true
 | .cons h L r, 0, x, f, e => by cases e; rw [goodL_cons, Bool.and_eq_true, Bool.and_eq_true] at f; exact f.1
 | .cons h L r, k + 1, x, f, e => by rw [goodL_cons, Bool.and_eq_true] at f; exact goodL_get (l := r) f.2 e
end Go.Cv
namespace Go.Proofs.YthnafdbebniapaaGreatDoor
open Go Go.Wk Go.Un Go.De Go.Cv
set_option linter.unusedSimpArgs false
set_option linter.unusedVariables false
attribute [local irreducible] Go.wpList Go.Code.wp Go.wpStill Go.Wk.wpPre Go.bodyPost Go.Calls Go.Wk.Ct Go.Wk.OwnS Go.Wk.wpG Go.Wk.wpM
theorem Fits0Ct (F : Heap) (eh : EH) (L : Ef) (cs : List Value) (t : Ty) (cs2 : List Value) (hX : PxC F cs eh L) (hty : TyC F cs2 t.1 t.2) :
  Ct Tryz.prog 20 [.pointer none, .agg ⟨cs⟩, .agg ⟨cs2⟩] F [] (fun _ _ u => u = .bool false) := by
 obtain ⟨a1, n1, c1, ao, cap, rfl, -, -⟩ := hX
 obtain ⟨va, rfl, hva⟩ := hty
 obtain ⟨aa, ca, rfl, -, -⟩ := hva
 refine Ct.enter Tryz.func20 rfl Tryz.ntmps20 rfl fun w0 a S => ?_
 refine wp_sr fun Z hZ => ?_
 (refine wbx S ?_; clear S a; intro b4 a w S)
 (refine wbx S ?_; clear S a; intro b5 a w S)
 (revert S a; revert hZ Z; refine go 5 ?_; intro Z hZ a S)
 (refine wv S (sv_lit (c := false) (sv_nePtr S rfl rfl rfl) (by rfl)) ?_; clear S a; intro a S)
 (revert S a; revert hZ Z; refine go 18 ?_; intro a S)
 refine wp_ret (fr1 S Tryz.results20 ?_)
 rfl
def Cnt (p S most : Nat) : Prop := p ≤ most ∧ p ≤ S ∧ (p = S ∨ p = most)
theorem zzCe0 {p : Prop} (h : p := by (rw [← hao] at S; refine ⟨l.len - (k + 1), by omega, k + 1, p + 1 + p9, s + 1 + x.2.size, rfl, by omega, by omega, by unfold Cnt; omega, ?_⟩; refine S.keep ?_; exact zk)) : p := h
theorem zzCe1 {p : Prop} (h : p := by (first | (have hz : (l.drop k).size = 0 := (by rw [Fo.drop_len (by omega)]; rfl); exact ⟨p, rfl, by unfold Cnt; omega⟩) | (exact ⟨p, rfl, by unfold Cnt; omega⟩))) : p := h
theorem typesCt (F : Heap) : ∀ (n : Nat) (l : Fo) (v : Value) (most : Nat), l.size ≤ n → most ≤ 1000000 → SlF F v l → Ct Tryz.prog 18 [v, .int .i64 (most : Int)] F [] (fun _ _ u => ∃ p : Nat, u = .int .i64 (p : Int) ∧ Cnt p l.size most) := by
 intro n
 induction n using Nat.strongRecOn with
 | _ n ih =>
 intro l v most hn hmost h
 obtain ⟨ao, cap, rfl, hcap, hpos⟩ := h
 refine Ct.enter Tryz.func18 rfl Tryz.ntmps18 rfl fun w0 a S => ?_
 (revert S a; refine go 14 ?_; intro Z hZ a S)
 refine wpc_loop (fun m a w' => ∃ (k p s : Nat), m = l.len - k ∧ k ≤ l.len ∧ s + (l.drop k).size = l.size ∧ Cnt p s most ∧ St 32 [(0, .slice ao l.len cap), (1, .int .i64 (most : Int)), (5, .int .i64 (p : Int)), (6, .int .i64 k)] w0 F [] F [] a w') ?_ ?_
 ·(refine ⟨l.len, 0, 0, 0, by omega, Nat.zero_le _, by rw [Nat.zero_add]; rfl, ⟨Nat.zero_le _, Nat.le_refl _, .inl rfl⟩, ?_⟩; refine S.keep ?_; exact zk)
 (clear S; rintro m a w ⟨k, p, s, rfl, hkl, hs, hp, S⟩; unfold Cnt at hp)
 (revert S a; refine go 7 ?_; intro Z hZ Z hZ a S)
 refine wgd S ?_ ?_
 ·(clear S; intro h S)
  (revert S a; revert hZ Z; refine go 8 ?_; intro a S)
  refine wpc_sp S rfl ?_ ?_ <;> intro h
  ·(revert S a; revert hZ Z; refine go 10 ?_; intro Z hZ a S)
   (obtain ⟨b8, o8, hao, x, v1, hx, hc1, hT1⟩ := FoM.pos hpos (k := k) (by omega); rw [hao] at S; have hxs := Fo.size_get hx; have hdz : (l.drop k).size = x.2.size + (l.drop (k + 1)).size + 1 := (by rw [Fo.drop_get hx]; simp only [Fo.size]); have hc2 : Cel F b8 (o8 + k * 2 + 1) v1 := hc1 1 _ rfl)
   (revert S a; refine go 6 ?_; intro a S)
   (refine wv S (sv_loadF S rfl rfl hc2) ?_; clear S a; intro a S)
   (revert S a; refine go 3 ?_; intro a S)
   (rw [show ((most : Int) - ((p : Int) + 1)) = ((most - (p + 1) : Nat) : Int) by omega] at S)
   (refine wc0 S (ih x.2.size (by omega) x.2 _ (most - (p + 1)) (Nat.le_refl _) (by omega) hT1) ?_; clear S a; intro v a w hv S; obtain ⟨p9, rfl, hp9⟩ := hv; unfold Cnt at hp9)
   (revert S a; revert hZ Z; refine go 9 ?_; intro a S)
   change ∃ m', _ ∧ _
   exact zzCe0
  (refine wp_exit ?_; conv => whnf)
  clear hZ Z
  (revert S a; revert hZ Z; refine go 6 ?_; intro a S)
  refine wp_ret (fr1 S Tryz.results18 ?_)
  exact zzCe1
 (clear S a; intro h a S)
 (revert S a; revert hZ Z; refine go 5 ?_; intro a S)
 refine wpc_false S rfl ?_
 (refine wp_exit ?_; conv => whnf)
 clear hZ Z
 (revert S a; revert hZ Z; refine go 6 ?_; intro a S)
 refine wp_ret (fr1 S Tryz.results18 ?_)
 exact zzCe1
theorem zzCe2 {p : Prop} (h : p := by (first | (have hz : (l.drop k).size = 0 := (by rw [Rose.drop_len (by omega)]; rfl); exact ⟨p, rfl, by unfold Cnt; omega⟩) | (exact ⟨p, rfl, by unfold Cnt; omega⟩))) : p := h
theorem exprsNCt (F : Heap) : ∀ (n : Nat) (l : Ef) (v : Value) (most : Nat), l.size ≤ n → most ≤ 1000000 → TrS F 9 EhR v l → Ct Tryz.prog 9 [v, .int .i64 (most : Int)] F [] (fun _ _ u => ∃ p : Nat, u = .int .i64 (p : Int) ∧ Cnt p l.size most) := by
 intro n
 induction n using Nat.strongRecOn with
 | _ n ih =>
 intro l v most hn hmost h
 obtain ⟨ao, cap, rfl, hcap, hpos⟩ := h
 refine Ct.enter Tryz.func9 rfl Tryz.ntmps9 rfl fun w0 a S => ?_
 (revert S a; refine go 14 ?_; intro Z hZ a S)
 refine wpc_loop (fun m a w' => ∃ (k p s : Nat), m = l.len - k ∧ k ≤ l.len ∧ s + (l.drop k).size = l.size ∧ Cnt p s most ∧ St 32 [(0, .slice ao l.len cap), (1, .int .i64 (most : Int)), (5, .int .i64 (p : Int)), (6, .int .i64 k)] w0 F [] F [] a w') ?_ ?_
 ·(refine ⟨l.len, 0, 0, 0, by omega, Nat.zero_le _, by rw [Nat.zero_add]; rfl, ⟨Nat.zero_le _, Nat.le_refl _, .inl rfl⟩, ?_⟩; refine S.keep ?_; exact zk)
 (clear S; rintro m a w ⟨k, p, s, rfl, hkl, hs, hp, S⟩; unfold Cnt at hp)
 (revert S a; refine go 7 ?_; intro Z hZ Z hZ a S)
 refine wgd S ?_ ?_
 ·(clear S; intro h S)
  (revert S a; revert hZ Z; refine go 8 ?_; intro a S)
  refine wpc_sp S rfl ?_ ?_ <;> intro h
  ·(revert S a; revert hZ Z; refine go 10 ?_; intro Z hZ a S)
   (obtain ⟨b8, o8, hao, x, cs1, v1, hx, hc1, ⟨w9, rfl, -⟩, hT1⟩ := TrM.pos hpos (k := k) (by omega); rw [hao] at S; have hxs := Rose.size_get hx; have hdz : (l.drop k).size = x.2.size + (l.drop (k + 1)).size + 1 := (by rw [Rose.drop_get hx]; simp only [Rose.size]); have hc2 : Cel F b8 (o8 + k * 9 + 8) v1 := hc1 8 _ rfl)
   (revert S a; refine go 6 ?_; intro a S)
   (refine wv S (sv_loadF S rfl rfl hc2) ?_; clear S a; intro a S)
   (revert S a; refine go 3 ?_; intro a S)
   (rw [show ((most : Int) - ((p : Int) + 1)) = ((most - (p + 1) : Nat) : Int) by omega] at S)
   (refine wc0 S (ih x.2.size (by omega) x.2 _ (most - (p + 1)) (Nat.le_refl _) (by omega) hT1) ?_; clear S a; intro v a w hv S; obtain ⟨p9, rfl, hp9⟩ := hv; unfold Cnt at hp9)
   (revert S a; revert hZ Z; refine go 9 ?_; intro a S)
   change ∃ m', _ ∧ _
   exact zzCe0
  (refine wp_exit ?_; conv => whnf)
  clear hZ Z
  (revert S a; revert hZ Z; refine go 6 ?_; intro a S)
  refine wp_ret (fr1 S Tryz.results9 ?_)
  exact zzCe2
 (clear S a; intro h a S)
 (revert S a; revert hZ Z; refine go 5 ?_; intro a S)
 refine wpc_false S rfl ?_
 (refine wp_exit ?_; conv => whnf)
 clear hZ Z
 (revert S a; revert hZ Z; refine go 6 ?_; intro a S)
 refine wp_ret (fr1 S Tryz.results9 ?_)
 exact zzCe2
theorem sameH_iff {h h2 : VH} : sameH h h2 = true ↔ h = h2 := by
 unfold sameH
 simp only [Bool.and_eq_true, decide_eq_true_eq]
 obtain ⟨a, b, c⟩ := h
 obtain ⟨a2, b2, c2⟩ := h2
 simp
theorem sameL_iff : ∀ {l m : Vf}, sameL l m = true ↔ l = m
 | .nil, .nil => by simp [sameL]
 | .nil, .cons _ _ _ => by simp [sameL]
 | .cons _ _ _, .nil => by simp [sameL]
 | .cons h L r, .cons h2 L2 r2 => by
  unfold sameL
  rw [Bool.and_eq_true, Bool.and_eq_true, sameH_iff, sameL_iff (l := L), sameL_iff (l := r)]
  constructor
  ·rintro ⟨⟨rfl, rfl⟩, rfl⟩; rfl
  ·intro e; cases e; exact ⟨⟨rfl, rfl⟩, rfl⟩
theorem sameV_iff {x y : Vv} : sameV x y = true ↔ x = y := by
 unfold sameV
 rw [Bool.and_eq_true, sameH_iff, sameL_iff]
 exact ⟨fun h => Prod.ext h.1 h.2, fun h => by rw [h]; exact ⟨rfl, rfl⟩⟩
theorem idx_none {vs : List (List UInt8)} {L : Fo} {nm : List UInt8} {k : Nat} (hall : ∀ (j : Nat) (x : List UInt8), j < k → vs[j]? = some x → x ≠ nm) (h : vs.length ≤ k ∨ L.len ≤ k) : putA vs L nm = none := by
 refine putA_no ?_
 rintro ⟨h1, h2, h3⟩
 unfold idxOf at h2 h3
 by_cases hm : nm ∈ vs
 ·rw [if_pos hm] at h2 h3
  have h4 := List.idxOf_lt_length_iff.2 hm
  have h5 := hall (vs.idxOf nm) nm (by omega) (by rw [List.getElem?_eq_getElem h4, List.getElem_idxOf h4])
  exact h5 rfl
 ·rw [if_neg hm] at h2
  exact absurd h2 (by decide)
theorem idx_at {vs : List (List UInt8)} {nm : List UInt8} {k : Nat} (hall : ∀ (j : Nat) (x : List UInt8), j < k → vs[j]? = some x → x ≠ nm) (h : vs[k]? = some nm) : idxOf vs nm = (k : Int) := by
 have hm : nm ∈ vs := List.mem_of_getElem? h
 have h4 := List.idxOf_lt_length_iff.2 hm
 have h6 := (List.getElem?_eq_some_iff.1 h).1
 have hi : vs.idxOf nm = k := by
  rcases Nat.lt_trichotomy (vs.idxOf nm) k with h2 | h2 | h2
  ·exact absurd rfl (hall (vs.idxOf nm) nm h2 (by rw [List.getElem?_eq_getElem h4, List.getElem_idxOf h4]))
  ·exact h2
  ·exfalso
   have h3 := List.not_of_lt_findIdx (p := (· == nm)) (xs := vs) h2
   rw [(List.getElem?_eq_some_iff.1 h).2] at h3
   simp at h3
 unfold idxOf
 rw [if_pos hm, hi]
def RefPutD (vs : List (List UInt8)) (vp : Value) (L : Fo) (va : Value) (F : Heap) (m : Nat) : Prop := ∀ (F' : Heap) (nm : List UInt8) (ar : Fo) (cs : List Value), ar.size < m → (∀ b o, F b = some o → F' b = some o) → TyC F' cs nm ar → ar.len * 40 ≤ 140737488355328 → Thin ar →
 Ct Tryz.prog 79 [.agg ⟨cs⟩, vp, va] F' [] (fun F'' _ u => ∃ (ao : Option Addr) (q c : Nat), u = .agg ⟨[.string (bs (putT vs L (nm, ar)).1), .slice ao q c]⟩ ∧ SlF F'' (.slice ao q c) (putT vs L (nm, ar)).2)
theorem zzDeP0 {p : Prop} (h : p := by (first | (have hyn : y = nm := (by first | assumption | simpa using h); have hnp : ¬ parS nm = true := (by simp_all); rw [← hap] at S; refine ⟨putA_no (fun h => hnp h.1), ?_⟩; refine S.keep ?_; exact zk) | (refine ⟨idx_none hall (by omega), ?_⟩; refine S.keep ?_; exact zk))) : p := h
theorem zzDeP1 {p : Prop} (h : p := by (rw [← hap] at S; refine ⟨vs.length - (k + 1), by omega, k + 1, rfl, by omega, by omega, ?_, ?_⟩; rotate_left 1; (refine S.keep ?_; exact zk); intro j z h7 h8; rcases Nat.lt_or_eq_of_le (Nat.le_of_lt_succ h7) with h6 | h6; exact hall j z h6 h8; subst h6; rw [hy] at h8; cases h8; have hne : ¬ y = nm := (by first | assumption | simpa using h); exact hne)) : p := h
theorem refPutCt (F : Heap) (vs : List (List UInt8)) (vp : Value) (L : Fo) (va : Value) (hvp : SlC F vp vs.length (strs vs)) (hvl : vs.length ≤ 9223372036854775807) (hva : SlF F va L) (hthL : Thin L) : ∀ m, RefPutD vs vp L va F m := by
  intro m
  induction m with
  | zero => intro F' nm ar cs hm; omega
  | succ m ih =>
  intro F' nm ar cs hm hF hT hln hthin
  obtain ⟨v, rfl, ao, cap, rfl, hcap, hpos⟩ := hT
  have hvp0 := hvp.mono hF
  obtain ⟨ap, cp, rfl, hcp, -⟩ := hvp
  have hvp1 := hvp0
  obtain ⟨ap2, cp2, evp, -, hposp⟩ := hvp0
  cases evp
  have hva0 := hva.mono hF
  obtain ⟨aa, ca, rfl, hca, hposa⟩ := hva
  refine Ct.enter Tryz.func79 rfl Tryz.ntmps79 rfl fun w0 a S => ?_
  refine wp_sr fun Z hZ => ?_
  (refine wbx S ?_; clear S a; intro b3 a w S)
  (refine wpl_alloc S rfl rfl rfl rfl ?_; clear S a; intro b6 a w S)
  (revert S a; revert hZ Z; refine go 2 ?_; intro a S)
  (refine wp_seq_k ?_; intro Z hZ)
  replace hZ : ∀ (a' : Act) (w' : World), (putA vs L nm = none ∧ St 70 [(1, .slice ap vs.length cp), (2, .slice aa L.len ca), (3, ptr b3), (6, ptr b6)] w0 F' [] F' ([(b6, .cells ⟨[.string (bs []), .slice none 0 0]⟩ 49 (0, 0))] :: [(b3, .cells ⟨[.string (bs nm), .slice ao ar.len cap]⟩ 49 (0, 0))] :: []) a' w') → Z a' w' := (by
   (intro a w hM; refine hZ _ _ ?_; clear hZ Z; clear S; obtain ⟨hpn, S⟩ := hM)
   (revert S a; refine go 4 ?_; intro Z hZ a S)
   (refine wpl_alloc S rfl rfl rfl rfl ?_; clear S a; intro b8 a w S)
   (refine wso S rfl rfl ?_; clear S; intro w S)
   (revert S a; revert hZ Z; refine go 8 ?_; intro Z hZ a S)
   refine wpc_loop (fun m a w' => ∃ (i : Nat) (v : Value) (g : Grp) (xs : List Value) (pre : Fo) (F3 : Heap), m = ar.len - i ∧ i ≤ ar.len ∧ (∀ b o, F' b = some o → F3 b = some o) ∧ OwnS 49 2 v i xs g ∧ FoC F3 xs pre ∧ pre.len = i ∧ pre.app (putL vs L (ar.drop i)) = putL vs L ar ∧ St 70 [(1, .slice ap vs.length cp), (2, .slice aa L.len ca), (3, ptr b3), (6, ptr b6), (8, ptr b8), (9, .int .i64 i)] w0 F' [] F3 ([(b8, .cells ⟨[.string (bs nm), v]⟩ 49 (0, 0))] :: g :: [(b6, .cells ⟨[.string (bs []), .slice none 0 0]⟩ 49 (0, 0))] :: [(b3, .cells ⟨[.string (bs nm), .slice ao ar.len cap]⟩ 49 (0, 0))] :: []) a w') ?_ ?_
   · (replace S := st_nil2 S; refine ⟨ar.len, 0, .slice none 0 0, [], [], .nil, F', by omega, Nat.zero_le _, fun _ _ h => h, OwnS.nil _ _, trivial, rfl, rfl, ?_⟩; refine S.keep ?_; exact zk)
   (clear S; rintro m a w ⟨i, v, g, xs, pre, F3, rfl, hil, hF3, hown, hfc, hpre, happ, S⟩)
   (revert S a; refine go 9 ?_; intro Z hZ a S)
   refine wpc_sp S rfl ?_ ?_ <;> intro h
   · (revert S a; revert hZ Z; refine go 4 ?_; intro Z hZ a S)
     (obtain ⟨b9, o9, hao, x, v1, hx, hc1, hT1⟩ := FoM.pos hpos (k := i) (by omega); rw [hao] at S; replace hc1 := Cels.mono hF3 hc1; replace hT1 := hT1.mono hF3; have hT1c := hT1; obtain ⟨a91, c91, rfl, -⟩ := hT1c; obtain ⟨hx40, hxth⟩ := hthin.get hx; have hxs := Fo.size_get hx; have hdr := Fo.drop_get hx)
     (refine wpc_mixM [0, 1, 2, 3, 4, 5, 6, 7, 8, 12] [1, 3, 6] [13] (.one 0 (.one 1 (.one 2 (.one 3 (.one 4 (.one 5 (.one 6 (.one 7 (.one 8 (.one 9 (.one 10 (.one 11 (.one 12 (.one 13 .nil)))))))))))))) [b8, b3] S mixed (by kernel_rfl) ?_; clear S; intro w S)
     (revert S a; refine go 10 ?_; intro a S)
     (refine wpl_call (Gs := []) (Gr := [[(b8, _)], g, [(b6, _)], [(b3, _)]]) S rfl rfl rfl rfl rfl rfl (ih F3 x.1 x.2 _ (by omega) (fun b o h => hF3 _ _ (hF _ _ h)) ⟨_, rfl, hT1⟩ hx40 hxth) rfl (by exact List.Perm.refl _) ?_; clear S a; intro u9 F4 G4 a w hv hF4 S; obtain ⟨a4, q4, c4, rfl, hs4⟩ := hv; replace S : St _ _ _ _ _ F4 ([(b8, _)] :: g :: [(b6, _)] :: [(b3, _)] :: []) _ _ := ⟨S.fr, S.tr.sub (by rw [List.flatten_append]; exact List.sublist_append_right _ _)⟩)
     (revert S a; refine go 2 ?_; intro a S)
     (refine wpl_buildSlice S rfl rfl rfl rfl rfl rfl (by rfl) (by simp [Value.cells, splice, splice]) rfl (by rfl) (by rfl) ?_; clear S a; intro b66 a w hown2 S)
     (revert S a; refine go 2 ?_; intro a S)
     (refine wpl_appendOwn S rfl rfl rfl rfl rfl rfl hown hown2 (by rfl) (by simp [Value.cells, Value.oneCell', splice, splice]) (by omega) (by omega) ?_; clear hown S a; intro v g a w hown S)
     (revert S a; refine go 3 ?_; intro a S)
     (refine wpl_store1 S rfl rfl rfl rfl rfl hown.oneCell (by first | (simp; done) | (simp [Value.cells]; done) | exact Nat.le_of_ble_eq_true rfl) ?_; clear S; intro w S)
     refine wpList_nil ?_
     refine wpm_nil (fun h => absurd h (by decide)) ?_
     (revert S a; revert hZ Z; refine go 6 ?_; intro a S)
     change ∃ m', _ ∧ _
     (rw [← hao] at S; refine ⟨ar.len - (i + 1), by omega, i + 1, _, _, _, pre.app (.cons (putT vs L x).1 (putT vs L x).2 .nil), F4, rfl, by omega, fun b o h => hF4 _ _ (hF3 _ _ h), hown, FoC.app (hfc.mono hF4) (FoC.one hs4), by rw [Fo.len_app, hpre]; rfl, ?_, ?_⟩; rotate_left 1; (refine S.keep ?_; exact zk); (rw [fo_app_assoc, ← happ, hdr, putL_cons]; rfl))
   (refine wp_exit ?_; conv => whnf)
   clear hZ Z
   (refine hZ _ _ ?_; clear hZ Z)
   (refine wp_seq_k ?_; intro Z hZ)
   (obtain ⟨aoK, capK, rfl, -⟩ := hown.at)
   (revert S a; refine go 2 ?_; intro a S)
   (refine wso S rfl rfl ?_; clear S; intro w S)
   (revert S a; revert hZ Z; refine go 2 ?_; intro a S)
   refine wp_ret ?_
   (have S0 := S; (first | (have hii : i = ar.len := (by omega); have h9 := hown; replace S := S.drop1; have hle := add_le (G1 := []) S; replace S := St.freeze (G1 := []) S; (simp only [List.nil_append] at S hle); replace S := S.drop1.drop1) | (have h9 := hs9; replace S := S.drop1.drop1)))
   refine fin_ret S (results1 Tryz.results79 (RV.cellO S0 rfl (by rfl))) ?_
   (first | (have h9 := hii; have e9 : putT vs L (nm, ar) = (nm, putL vs L ar) := (by unfold putT; rw [hpn]; rfl); rw [e9]; have hdl : ar.drop i = .nil := Fo.drop_len (by omega); rw [hdl] at happ; rw [show putL vs L Fo.nil = Fo.nil from rfl, fo_app_nil] at happ; rw [happ] at hfc hpre; exact ⟨_, _, _, rfl, FoC.slf hown hfc (by rw [putL_len]; omega) hle (by omega)⟩) | (have h9 := hs9; have e9 : putT vs L (nm, ar) = x := (by unfold putT; rw [putA_yes hpar hj hx]; rfl); rw [e9]; exact ⟨_, _, _, rfl, hs9⟩) | trace_state))
  (revert S a; refine go 5 ?_; intro a S)
  refine wpc_loop (fun m a w' => ∃ (k : Nat), m = vs.length - k ∧ k ≤ vs.length ∧ k ≤ L.len ∧ (∀ (j : Nat) (x : List UInt8), j < k → vs[j]? = some x → x ≠ nm) ∧ St 70 [(1, .slice ap vs.length cp), (2, .slice aa L.len ca), (3, ptr b3), (6, ptr b6), (7, .int .i64 k)] w0 F' [] F' ([(b6, .cells ⟨[.string (bs []), .slice none 0 0]⟩ 49 (0, 0))] :: [(b3, .cells ⟨[.string (bs nm), .slice ao ar.len cap]⟩ 49 (0, 0))] :: []) a w') ?_ ?_
  · (refine ⟨vs.length, 0, by omega, Nat.zero_le _, Nat.zero_le _, fun j x h => absurd h (Nat.not_lt_zero _), ?_⟩; refine S.keep ?_; exact zk)
  (clear S; rintro m a w ⟨k, rfl, hkl, hkL, hall, S⟩)
  (revert S a; refine go 7 ?_; intro Z hZ Z hZ a S)
  refine wgd S ?_ ?_
  · (clear S; intro h S)
    (revert S a; revert hZ Z; refine go 10 ?_; intro a S)
    refine wpc_sp S rfl ?_ ?_ <;> intro h
    · (revert S a; revert hZ Z; refine go 5 ?_; intro Z hZ Z hZ a S)
      (refine wp_seq_k ?_; intro Z hZ)
      (obtain ⟨y, hy⟩ : ∃ y, vs[k]? = some y := ⟨_, List.getElem?_eq_getElem (by omega)⟩; obtain ⟨bp, op, hap, hcsp⟩ := hposp (by omega); rw [hap] at S; have hcy : Cel F' bp (op + k * 1) (.string (bs y)) := (by rw [Nat.mul_one]; exact hcsp k _ (by rw [strs, List.getElem?_map, hy]; rfl)))
      (refine wpc_mixM [0, 1, 3, 4, 5, 6, 7, 8, 9, 10, 11] [1, 7, 9] [] (.one 0 (.one 1 (.one 2 (.one 3 (.one 4 (.one 5 (.one 6 (.one 7 (.one 8 (.one 9 (.one 10 (.one 11 .nil)))))))))))) [b3] S mixed (by kernel_rfl) ?_; clear S; intro w S)
      (revert S a; refine go 3 ?_; intro a S)
      (refine wc0 S (refParamCt F' nm) ?_; clear S a; intro v a w hv S; subst hv)
      (revert S a; refine go 2 ?_; intro a S)
      refine St.pt 25 true S rfl ?_ ?_ <;> clear S <;> intro h S
      · (revert S a; revert hZ Z; refine go 10 ?_; intro a S)
        refine wpc_sp S rfl ?_ ?_ <;> intro h
        · (refine wp_seq_k ?_; intro Z hZ)
          (have hpar : parS nm = true := (by assumption); have hyn : y = nm := (by first | assumption | simpa using h); have hj := idx_at hall (by rw [hyn] at hy; exact hy); obtain ⟨b9, o9, hao, x, v1, hx, hc1, hT1⟩ := FoM.pos hposa (k := k) (by omega); rw [hao] at S; replace hc1 := Cels.mono hF hc1; replace hT1 := hT1.mono hF; have hT1c := hT1; obtain ⟨a91, c91, rfl, -⟩ := hT1c; obtain ⟨hx40, hxth⟩ := hthL.get hx)
          (revert S a; refine go 5 ?_; intro a S)
          (refine wcF S (ownTypeCt (x.2.size + 1) F' x.1 x.2 _ (Nat.lt_succ_self _) ⟨_, rfl, hT1⟩ hx40 hxth) ?_; clear S a; intro u9 F9 a w hv hF9 S; obtain ⟨a9, q9, c9, rfl, hs9⟩ := hv)
          (refine wso S rfl rfl ?_; clear S; intro w S)
          (revert S a; revert hZ Z; refine go 2 ?_; intro a S)
          refine wp_ret ?_
          (have S0 := S; (first | (have hii : i = ar.len := (by omega); have h9 := hown; replace S := S.drop1; have hle := add_le (G1 := []) S; replace S := St.freeze (G1 := []) S; (simp only [List.nil_append] at S hle); replace S := S.drop1.drop1) | (have h9 := hs9; replace S := S.drop1.drop1)))
          refine fin_ret S (results1 Tryz.results79 (RV.cellO S0 rfl (by rfl))) ?_
          (first | (have h9 := hii; have e9 : putT vs L (nm, ar) = (nm, putL vs L ar) := (by unfold putT; rw [hpn]; rfl); rw [e9]; have hdl : ar.drop i = .nil := Fo.drop_len (by omega); rw [hdl] at happ; rw [show putL vs L Fo.nil = Fo.nil from rfl, fo_app_nil] at happ; rw [happ] at hfc hpre; exact ⟨_, _, _, rfl, FoC.slf hown hfc (by rw [putL_len]; omega) hle (by omega)⟩) | (have h9 := hs9; have e9 : putT vs L (nm, ar) = x := (by unfold putT; rw [putA_yes hpar hj hx]; rfl); rw [e9]; exact ⟨_, _, _, rfl, hs9⟩) | trace_state)
        (revert S a; revert hZ Z; refine go 2 ?_; intro a S)
        (refine wp_seq_k ?_; intro Z hZ)
        (refine wpc_mixM [0, 1, 2, 3, 4, 5, 6] [3, 5] [] (.one 0 (.one 1 (.one 2 (.one 3 (.one 4 (.one 5 (.one 6 .nil))))))) [b3] S mixed (by kernel_rfl) ?_; clear S; intro w S)
        (revert S a; revert hZ Z; refine go 9 ?_; intro a S)
        refine wpc_sp S rfl ?_ ?_ <;> intro h
        · (refine wp_exit ?_; conv => whnf)
          (clear hZ Z; (refine hZ _ _ ?_))
          exact zzDeP0
        (revert S a; revert hZ Z; refine go 7 ?_; intro a S)
        change ∃ m', _ ∧ _
        exact zzDeP1
      (revert S a; revert hZ Z; refine go 10 ?_; intro a S)
      refine wpc_false S rfl ?_
      (revert S a; revert hZ Z; refine go 2 ?_; intro a S)
      (refine wp_seq_k ?_; intro Z hZ)
      (refine wpc_mixM [0, 1, 2, 3, 4, 5, 6] [3, 5] [] (.one 0 (.one 1 (.one 2 (.one 3 (.one 4 (.one 5 (.one 6 .nil))))))) [b3] S mixed (by kernel_rfl) ?_; clear S; intro w S)
      (revert S a; revert hZ Z; refine go 9 ?_; intro a S)
      refine wpc_sp S rfl ?_ ?_ <;> intro h
      · (refine wp_exit ?_; conv => whnf)
        (clear hZ Z; (refine hZ _ _ ?_))
        exact zzDeP0
      (revert S a; revert hZ Z; refine go 7 ?_; intro a S)
      change ∃ m', _ ∧ _
      exact zzDeP1
    (refine wp_exit ?_; conv => whnf)
    (clear hZ Z; (refine hZ _ _ ?_))
    exact zzDeP0
  (clear S a; intro h a S)
  (revert S a; revert hZ Z; refine go 6 ?_; intro a S)
  refine wpc_false S rfl ?_
  (refine wp_exit ?_; conv => whnf)
  (clear hZ Z; (refine hZ _ _ ?_))
  exact zzDeP0
end Go.Proofs.YthnafdbebniapaaGreatDoor
namespace Go.De
open Go Go.Wk Go.Un
set_option linter.unusedSimpArgs false
set_option linter.unusedVariables false
def dpR : Vf → Int
 | .nil => 0
 | .cons _ L r => max (dpR L + 1) (dpR r)
theorem dpR_nn : ∀ l : Vf, 0 ≤ dpR l
 | .nil => Int.le_refl _
 | .cons _ L r => by have := dpR_nn L; have := dpR_nn r; simp only [dpR]; omega
theorem depV_le : ∀ (l : Vf) (n m : Int), depV l n m ≤ max n (dpR l)
 | .nil, n, m => by show n ≤ _; omega
 | .cons h L r, n, m => by
  rw [depV_cons]
  have h1 := depV_le L 0 (m - 1)
  have h2 := depV_le r (max n (depV L 0 (m - 1) + 1)) m
  have h3 := dpR_nn L
  simp only [dpR]
  split <;> omega
def digB (c : UInt8) : Bool := decide (48 ≤ c.toNat ∧ c.toNat ≤ 57)
def numB (d : List UInt8) : Bool := decide (d ≠ [] ∧ ¬ (1 < d.length ∧ (d.getD 0 0).toNat = 48)) && d.all digB
def rnum (s : List UInt8) : Bool := if 1 < s.length ∧ (s.getD 0 0).toNat = 45 then (if ((s.drop 1).getD 0 0).toNat = 48 then false else numB (s.drop 1)) else numB s
def rdig (s : List UInt8) : Int := if (s.getD 0 0).toNat = 45 then s.length - 1 else s.length
theorem dig_mem {c : UInt8} (h : digB c = true) : digS.contains c = true := by
 unfold digB at h
 rw [decide_eq_true_eq] at h
 have : ∀ n : Nat, 48 ≤ n → n ≤ 57 → ∀ c : UInt8, c.toNat = n → digS.contains c = true := by
  intro n h1 h2 c hc
  have e : c = UInt8.ofNat n := by rw [← hc]; simp
  subst e
  have : n = 48 ∨ n = 49 ∨ n = 50 ∨ n = 51 ∨ n = 52 ∨ n = 53 ∨ n = 54 ∨ n = 55 ∨ n = 56 ∨ n = 57 := by omega
  rcases this with rfl | rfl | rfl | rfl | rfl | rfl | rfl | rfl | rfl | rfl <;> decide
 exact this _ h.1 h.2 c rfl
theorem dropWhile_all {α : Type} {p : α → Bool} : ∀ {l : List α}, (∀ x ∈ l, p x = true) → l.dropWhile p = []
 | [], _ => rfl
 | x :: r, h => by
  rw [List.dropWhile_cons, h x (List.mem_cons_self ..), if_pos rfl]
  exact dropWhile_all fun y hy => h y (List.mem_cons_of_mem _ hy)
theorem trim_all {d : List UInt8} (h : d.all digB = true) : Lib.trimS d digS = [] := by
 have h1 : d.reverse.dropWhile (digS.contains ·) = [] := dropWhile_all fun x hx => dig_mem (List.all_eq_true.1 h x (List.mem_reverse.1 hx))
 unfold Lib.trimS Lib.trimRightS
 rw [h1]; rfl
theorem numD_of (s : List UInt8) : numD s = if s.take 1 = [45] then s.drop 1 else s := by
 unfold numD Lib.trimPrefix
 cases s with
 | nil => rfl
 | cons c r =>
  by_cases hc : c = 45
  ·subst hc; rfl
  ·have e1 : Lib.hasPrefix (c :: r) [45] = false := by
    unfold Lib.hasPrefix
    simp [List.isPrefixOf, hc, Ne.symm hc]
    try (intro h; exact hc h.symm)
   have e2 : ¬ (c :: r).take 1 = [45] := by simp [hc]
   rw [e1, if_neg e2]; rfl
theorem numB_ok {s d : List UInt8} (hd : numD s = d) (h : numB d = true) (hz : (d.getD 0 0).toNat = 48 → s = [48]) : numOK s = true := by
 unfold numB at h
 rw [Bool.and_eq_true, decide_eq_true_eq] at h
 unfold numOK
 rw [hd, decide_eq_false h.1.1, trim_all h.2]
 by_cases h0 : (d.getD 0 0).toNat = 48
 ·simp [hz h0]
 ·simp only [decide_eq_false h0, Bool.false_and, ne_eq, not_true_eq_false, decide_false, Bool.or_false, Bool.not_false]
theorem dash {s : List UInt8} : (s.getD 0 0).toNat = 45 ↔ s.take 1 = [45] := by
 cases s with
 | nil => simp
 | cons c r =>
  simp
  exact ⟨fun h => UInt8.toNat_inj.1 h, fun h => by subst h; rfl⟩
theorem rnum_ok {s : List UInt8} (h : rnum s = true) : numOK s = true ∧ rdig s = numN s := by
 have key : ∀ d, numD s = d → numB d = true → ((d.getD 0 0).toNat = 48 → s = [48]) → rdig s = d.length → numOK s = true ∧ rdig s = numN s := fun d e hb hz hr => by
  have h1 := numB_ok e hb hz
  refine ⟨h1, ?_⟩
  unfold numN
  rw [if_pos h1, e, hr]
 unfold rnum at h
 by_cases h1 : 1 < s.length ∧ (s.getD 0 0).toNat = 45
 ·rw [if_pos h1] at h
  by_cases h2 : ((s.drop 1).getD 0 0).toNat = 48
  ·rw [if_pos h2] at h; cases h
  rw [if_neg h2] at h
  refine key (s.drop 1) (by rw [numD_of, if_pos (dash.1 h1.2)]) h (fun h9 => absurd h9 h2) ?_
  unfold rdig
  rw [if_pos h1.2, List.length_drop]; omega
 ·rw [if_neg h1] at h
  have hnd : ¬ (s.getD 0 0).toNat = 45 := fun h9 => by
   have hlen : s.length = 1 ∨ s.length = 0 := by
    have : ¬ 1 < s.length := fun h8 => h1 ⟨h8, h9⟩
    omega
   unfold numB at h
   rw [Bool.and_eq_true] at h
   cases s with
   | nil => simp at h9
   | cons c r =>
    have h5 := List.all_eq_true.1 h.2 c (List.mem_cons_self ..)
    unfold digB at h5
    rw [decide_eq_true_eq] at h5
    simp at h9
    omega
  refine key s (by rw [numD_of, if_neg (fun h9 => hnd (dash.2 h9))]) h (fun h9 => ?_) ?_
  ·unfold numB at h
   rw [Bool.and_eq_true, decide_eq_true_eq] at h
   cases s with
   | nil => exact absurd rfl h.1.1
   | cons c r =>
    have hr : r = [] := by
     have : ¬ 1 < (c :: r).length := fun h8 => h.1.2 ⟨h8, h9⟩
     simp at this
     exact this
    subst hr
    simp at h9
    have : c = 48 := UInt8.toNat_inj.1 h9
    subst this; rfl
  ·unfold rdig; rw [if_neg hnd]
def rnamesS (s : List UInt8) : Bool := if s = sTrue ∨ s = sFalse then false else if 0 ≤ cutI s then nameS (cutA s) && nameS (cutB s) else nameS s
def rformH (h : VH) (n : Nat) : Bool :=
 if h.k = 1 then decide ((h.n = 0 ∨ h.n = 1) ∧ h.s = [] ∧ n = 0)
 else if h.k = 2 then decide (h.s = [] ∧ n = 0)
 else if h.k = 3 then decide (h.n = 0 ∧ n = 0) && rnum h.s
 else if h.k = 4 then decide (h.n = 0 ∧ n = 0)
 else if h.k = 5 then decide (h.n = 0 ∧ h.s = [] ∧ n ≠ 1)
 else if h.k = 6 then decide (h.n = 0) && rnamesS h.s
 else false
def rfitsH (h : VH) (n : Nat) : Bool :=
 if h.k = 3 then decide (rdig h.s ≤ 200) else if h.k = 4 then decide (h.s.length ≤ 4096) else if h.k = 5 then decide (n ≤ 16) else if h.k = 6 then decide (n ≤ 8) else true
def rformL : Vf → Bool
 | .nil => true
 | .cons h L r => (rformH h L.len && rformL L) && rformL r
def rfitsL : Vf → Bool
 | .nil => true
 | .cons h L r => (rfitsH h L.len && rfitsL L) && rfitsL r
def rcheckV (h : VH) (L : Vf) : Int := if 64 < dpR L + 1 then 65 else if (rformH h L.len && rformL L) = false then 4 else if (rfitsH h L.len && rfitsL L) = false then 40 else 0
theorem rnames_ok {s : List UInt8} (h : rnamesS s = true) : (nameS (cutA s) && ((cutC s && nameS (cutB s)) || (!cutC s && decide (s ≠ sTrue ∧ s ≠ sFalse)))) = true := by
 unfold rnamesS at h
 by_cases h1 : s = sTrue ∨ s = sFalse
 ·rw [if_pos h1] at h; cases h
 rw [if_neg h1] at h
 by_cases h2 : 0 ≤ cutI s
 ·rw [if_pos h2, Bool.and_eq_true] at h
  unfold cutC
  rw [decide_eq_true h2, h.1, h.2]; rfl
 ·rw [if_neg h2] at h
  unfold cutC cutA
  rw [decide_eq_false h2, if_neg h2, h, decide_eq_true (show s ≠ sTrue ∧ s ≠ sFalse from ⟨fun e => h1 (.inl e), fun e => h1 (.inr e)⟩)]
  rfl
theorem rformH_ok {h : VH} {n : Nat} (hf : rformH h n = true) : formH h n = true := by
 unfold rformH at hf
 unfold formH
 by_cases k1 : h.k = 1
 ·rw [if_pos k1] at hf ⊢; exact hf
 rw [if_neg k1] at hf ⊢
 by_cases k2 : h.k = 2
 ·rw [if_pos k2] at hf ⊢; exact hf
 rw [if_neg k2] at hf ⊢
 by_cases k3 : h.k = 3
 ·rw [if_pos k3] at hf ⊢
  rw [Bool.and_eq_true] at hf ⊢
  exact ⟨(rnum_ok hf.2).1, hf.1⟩
 rw [if_neg k3] at hf ⊢
 by_cases k4 : h.k = 4
 ·rw [if_pos k4] at hf ⊢; exact hf
 rw [if_neg k4] at hf ⊢
 by_cases k5 : h.k = 5
 ·rw [if_pos k5] at hf ⊢; exact hf
 rw [if_neg k5] at hf ⊢
 by_cases k6 : h.k = 6
 ·rw [if_pos k6] at hf ⊢
  rw [Bool.and_eq_true] at hf ⊢
  exact ⟨hf.1, rnames_ok hf.2⟩
 ·rw [if_neg k6] at hf; cases hf
theorem rfitsH_ok {h : VH} {n : Nat} (hf : rformH h n = true) (hg : rfitsH h n = true) : fitsH h n = true := by
 unfold rfitsH at hg
 unfold fitsH
 by_cases k3 : h.k = 3
 ·rw [if_pos k3] at hg ⊢
  unfold rformH at hf
  rw [if_neg (by omega), if_neg (by omega), if_pos k3, Bool.and_eq_true] at hf
  rw [← (rnum_ok hf.2).2]; exact hg
 ·rw [if_neg k3] at hg ⊢; exact hg
theorem rL_ok : ∀ {l : Vf}, rformL l = true → rfitsL l = true → formL l = true ∧ fitsL l = true
 | .nil, _, _ => ⟨rfl, rfl⟩
 | .cons h L r, hf, hg => by
  unfold rformL at hf
  unfold rfitsL at hg
  rw [Bool.and_eq_true, Bool.and_eq_true] at hf hg
  obtain ⟨a1, a2⟩ := rL_ok hf.1.2 hg.1.2
  obtain ⟨b1, b2⟩ := rL_ok hf.2 hg.2
  rw [formL_cons, fitsL_cons, rformH_ok hf.1.1, rfitsH_ok hf.1.1 hg.1.1, a1, a2, b1, b2]
  exact ⟨rfl, rfl⟩
theorem rcheck_ok {h : VH} {L : Vf} (hc : rcheckV h L = 0) : checkV h L = 0 := by
 unfold rcheckV at hc
 by_cases h1 : 64 < dpR L + 1
 ·rw [if_pos h1] at hc; cases hc
 rw [if_neg h1] at hc
 by_cases h2 : (rformH h L.len && rformL L) = false
 ·rw [if_pos h2] at hc; cases hc
 rw [if_neg h2] at hc
 by_cases h3 : (rfitsH h L.len && rfitsL L) = false
 ·rw [if_pos h3] at hc; cases hc
 rw [Bool.not_eq_false, Bool.and_eq_true] at h2 h3
 have hd := depV_le L 0 65
 have hn := dpR_nn L
 obtain ⟨a, b⟩ := rL_ok h2.2 h3.2
 unfold checkV
 rw [if_neg (by omega), rformH_ok h2.1, rfitsH_ok h2.1 h3.1, a, b, if_neg (by decide), if_neg (by decide)]
end Go.De
namespace Go.Proofs.YthnafdbebniapaaGreatDoor
open Go Go.Wk Go.Un Go.De
theorem vac_slc {F : Heap} {xs : List Value} {h : VH} {L : Vf} (hX : VaC F xs h L) : ∃ ao cap, xs = [.int .u8 (h.k : Int), .int .i64 h.n, .string (bs h.s), .slice ao L.len cap] ∧ TrS F 4 VhR (.slice ao L.len cap) L ∧ h.s.length ≤ 140737488355328 := by
 obtain ⟨v, rfl, h2, h3⟩ := hX
 have h2c := h2
 obtain ⟨a1, c1, rfl, -⟩ := h2c
 exact ⟨a1, c1, rfl, h2, h3⟩
end Go.Proofs.YthnafdbebniapaaGreatDoor
