/- Own blocks that are not written any more. Walks: IndexFunc and ContainsFunc over sequences. More rules: sums that go round, numbers without a sign, texts held against each other the other way about. Nothing here knows the program. Walks: how two values stand. -/
import Derived.Test.YtigblodhdfnleaaGreatDoorDeX
import Derived.Test.YtigblodhdfnleaaGreatDoorTy
import Derived.Test.YtigblodhdfnleaaGreatDoorWk18
import Derived.Test.YtigblodhdfnleaaGreatDoorEv
import Derived.Test.YtigblodhdfnleaaGreatDoorFmt
namespace Go.Proofs.YtigblodhdfnleaaGreatDoor
open Go Go.Wk Go.Un Go.De
set_option linter.unusedSimpArgs false
set_option linter.unusedVariables false

/-- The own block of a number, put in front. -/
class PullB (G : List Grp) (b : Nat) (o : outParam Obj) (R : outParam (List Grp)) : Prop where h : ∃ G1 G2, G = G1 ++ [(b, o)] :: G2 ∧ R = G1 ++ G2
instance {b : Nat} {o : Obj} {G : List Grp} : PullB ([(b, o)] :: G) b o G := ⟨[], G, rfl, rfl⟩
instance {b : Nat} {o : Obj} {g : Grp} {G R : List Grp} [h : PullB G b o R] : PullB (g :: G) b o (g :: R) := by
  obtain ⟨G1, G2, e, hR⟩ := h.h
  exact ⟨g :: G1, G2, by rw [e]; rfl, by rw [hR]; rfl⟩
section
variable {n : Sz} {L : List (Nat × Value)} {w0 : World} {F0 : Heap} {K0 : List Nat} {a : Act} {w : World}
theorem St.pullB (b : Nat) {G R : List Grp} {F : Heap} {o : Obj} [h : PullB G b o R] (S : St n L w0 F0 K0 F G a w) : St n L w0 F0 K0 F ([(b, o)] :: R) a w := by
  obtain ⟨G1, G2, rfl, rfl⟩ := h.h
  exact ⟨S.fr, S.tr.perm (by first | exact List.Perm.flatten List.perm_middle | exact (List.Perm.flatten List.perm_middle).symm)⟩
/-- All own blocks of a list, not written any more. -/
theorem frzAll {G2 : List Grp} : ∀ (l : List (Nat × Obj)) {F : Heap}, St n L w0 F0 K0 F ((l.map fun p => [p]) ++ G2) a w → ∃ F', (∀ b o, F b = some o → F' b = some o) ∧ (∀ p ∈ l, F' p.1 = some p.2) ∧ St n L w0 F0 K0 F' G2 a w
  | [], F, S => ⟨F, fun _ _ h => h, fun p hp => (by cases hp), S⟩
  | p :: l, F, S => by
    have hle := add_le (G1 := []) S
    have S2 := St.freeze (G1 := []) S
    obtain ⟨F', h1, h2, S3⟩ := frzAll l S2
    refine ⟨F', fun b o h => h1 _ _ (hle _ _ h), fun q hq => ?_, S3⟩
    rcases List.mem_cons.1 hq with rfl | hq
    · exact h1 _ _ (Heap.add_new (p := q) (List.mem_singleton.2 rfl) (by simp))
    · exact h2 q hq
theorem frz1 {G2 : List Grp} {p : Nat × Obj} {F : Heap} (S : St n L w0 F0 K0 F ([p] :: G2) a w) : ∃ F', (∀ b o, F b = some o → F' b = some o) ∧ F' p.1 = some p.2 ∧ St n L w0 F0 K0 F' G2 a w :=
  ⟨_, add_le (G1 := []) S, Heap.add_new (p := p) (List.mem_singleton.2 rfl) (by simp), St.freeze (G1 := []) S⟩
end
theorem cels_of {F : Heap} {b : Nat} {cs : List Value} {e : TypeId} (h : F b = some (.cells ⟨cs⟩ e (0, 0))) : Cels F b 0 cs := fun j u hj => ⟨_, _, _, h, by simpa using hj⟩
theorem lim_of {α : Type} {F : Heap} {b sz : Nat} {cs : List Value} {e : TypeId} {R : Heap → α → List Value → Prop} {l : List α} (h : F b = some (.cells ⟨cs⟩ e (0, 0))) (hl : LiC F sz R cs l) (hn : l.length ≤ 140737488355328) : LiM F sz R (.slice (some ⟨b, 0, none⟩) l.length l.length) l :=
  ⟨some ⟨b, 0, none⟩, l.length, rfl, ⟨Nat.le_refl _, hn⟩, fun hp => ⟨b, 0, rfl, fun k x hx => by
    obtain ⟨cs2, h5, h6, h7⟩ := hl.get hx
    exact ⟨cs2, fun j u hj => ⟨_, _, _, h, by have := h5 j u hj; simpa [Nat.zero_add] using this⟩, h6, h7⟩⟩⟩
theorem drop_at {α : Type} {l : List α} {k : Nat} {x : α} (h : l[k]? = some x) : l.drop k = x :: l.drop (k + 1) := by
  obtain ⟨h1, h2⟩ := List.getElem?_eq_some_iff.1 h
  rw [List.drop_eq_getElem_cons h1, h2]
end Go.Proofs.YtigblodhdfnleaaGreatDoor
namespace Go.Proofs.YtigblodhdfnleaaGreatDoor
open Go Go.Wk Go.Un Go.De
set_option linter.unusedSimpArgs false
set_option linter.unusedVariables false
attribute [local irreducible] Go.wpList Go.Code.wp Go.wpStill Go.Wk.wpPre Go.bodyPost Go.Calls Go.Wk.Ct Go.Wk.OwnS
attribute [local irreducible] Go.Wk.wpG Go.Wk.wpM

theorem zzIx0 {p : Prop} (h : p := by (rw [hfp]; first | (rw [idxF_at (by omega), if_pos (by assumption)]; done) | (rw [idxF_end (by omega)]; done) | trace_state)) : p := h
theorem zzIx1 {p : Prop} (h : p := by (refine ⟨n - (k + 1), by omega, k + 1, rfl, by omega, ?_, ?_⟩; rotate_left 1; (refine S.keep ?_; repeat (first | exact trivial | refine ⟨rfl, ?_⟩)); rw [hfp, idxF_at (by omega), if_neg (by rw [(by assumption : p k = false)]; decide)])) : p := h
theorem ixVCt (F : Heap) (v : Value) (n : Nat) (C : Nat → List Value → Prop) (h : Sq F 4 v n C) (fid : FuncId) (fi ca : List Value) [hfn : HasFn Tryz.prog fid] (p : Nat → Bool)
    (hcl : ∀ k cs, k < n → C k cs → Ct Tryz.prog fid (fi ++ [.agg ⟨cs⟩] ++ ca) F [] (fun _ _ u => u = .bool (p k))) :
    Ct Tryz.prog 170 [v, .func (.func fid) ⟨fi⟩ ⟨ca⟩] F [] (fun _ _ u => u = .int .i64 (idxN p n)) := by
  obtain ⟨ao, cap, rfl, hcap, hpos⟩ := h
  refine Ct.enter Tryz.func170 rfl Tryz.ntmps170 rfl fun w0 a S => ?_
  (revert S a; refine go01 12 ?_; intro Z hZ a S)
  refine wpc_loop (fun m a w' => ∃ (k : Nat), m = n - k ∧ k ≤ n ∧ idxN p n = idxF p k (n - k) ∧ St 19 [(0, .slice ao n cap), (1, .func (.func fid) ⟨fi⟩ ⟨ca⟩), (7, .int .i64 n), (8, .int .i64 k)] w0 F [] F [] a w') ?_ ?_
  · (refine ⟨n, 0, by omega, Nat.zero_le _, rfl, ?_⟩; refine S.keep ?_; repeat (first | exact trivial | refine ⟨rfl, ?_⟩))
  (clear S; rintro m a w ⟨k, rfl, hkl, hfp, S⟩)
  (revert S a; refine go01 5 ?_; intro Z hZ a S)
  refine wpc_split S rfl (fun h => ?_) (fun h => ?_)
  · (skip; (try simp only [tq] at h))
    (revert S a; revert hZ Z; refine go11 9 ?_; intro Z hZ a S)
    (refine wp_seq_k ?_; intro Z hZ)
    (obtain ⟨b8, o8, rfl, cs1, hc1, hl1, hC⟩ := Sq.pos hpos (k := k) (by omega))
    (revert S a; refine go00 5 ?_; intro a S)
    (refine wpl_v S rfl rfl rfl (sv_loadAF S rfl rfl hc1 hl1) ?_; clear S a; intro a S)
    (refine wpl_call0 S rfl rfl rfl rfl rfl rfl (hcl k _ (by omega) hC) rfl ?_; clear S a; intro v a w hv S; subst hv)
    (revert S a; revert hZ Z; refine go10 2 ?_; intro a S)
    refine wpc_split S rfl (fun h => ?_) (fun h => ?_)
    · (skip; (try simp only [tq] at h))
      (revert S a; refine go00 5 ?_; intro a S)
      refine wp_ret (fin_ret S (results1 Tryz.results170 (RV.tmp S rfl)) ?_)
      exact zzIx0
    (skip; (try simp only [tq] at h))
    (revert S a; revert hZ Z; refine go10 6 ?_; intro a S)
    change ∃ m', _ ∧ _
    exact zzIx1
  (skip; (try simp only [tq] at h))
  (refine wp_exit ?_; conv => whnf)
  clear hZ Z
  (revert S a; revert hZ Z; refine go10 5 ?_; intro a S)
  refine wp_ret (fin_ret S (results1 Tryz.results170 (RV.tmp S rfl)) ?_)
  exact zzIx0
theorem cfVCt (F : Heap) (v : Value) (n : Nat) (C : Nat → List Value → Prop) (h : Sq F 4 v n C) (fid : FuncId) (fi ca : List Value) [hfn : HasFn Tryz.prog fid] (p : Nat → Bool)
    (hcl : ∀ k cs, k < n → C k cs → Ct Tryz.prog fid (fi ++ [.agg ⟨cs⟩] ++ ca) F [] (fun _ _ u => u = .bool (p k))) :
    Ct Tryz.prog 149 [v, .func (.func fid) ⟨fi⟩ ⟨ca⟩] F [] (fun _ _ u => u = .bool (anyN p n)) := by
  have hc := ixVCt F v n C h fid fi ca p hcl
  obtain ⟨ao, cap, rfl, hcap, hpos⟩ := h
  refine Ct.enter Tryz.func149 rfl Tryz.ntmps149 rfl fun w0 a S => ?_
  (revert S a; refine go01 7 ?_; intro Z hZ a S)
  (refine wpl_call0 S rfl rfl rfl rfl rfl rfl (hc) rfl ?_; clear S a; intro v a w hv S; subst hv)
  (revert S a; revert hZ Z; refine go10 4 ?_; intro a S)
  refine wp_ret (fin_ret S (results1 Tryz.results149 (RV.tmp S rfl)) ?_)
  rfl
theorem ixECt (F : Heap) (v : Value) (n : Nat) (C : Nat → List Value → Prop) (h : Sq F 9 v n C) (fid : FuncId) (fi ca : List Value) [hfn : HasFn Tryz.prog fid] (p : Nat → Bool)
    (hcl : ∀ k cs, k < n → C k cs → Ct Tryz.prog fid (fi ++ [.agg ⟨cs⟩] ++ ca) F [] (fun _ _ u => u = .bool (p k))) :
    Ct Tryz.prog 81 [v, .func (.func fid) ⟨fi⟩ ⟨ca⟩] F [] (fun _ _ u => u = .int .i64 (idxN p n)) := by
  obtain ⟨ao, cap, rfl, hcap, hpos⟩ := h
  refine Ct.enter Tryz.func81 rfl Tryz.ntmps81 rfl fun w0 a S => ?_
  (revert S a; refine go01 12 ?_; intro Z hZ a S)
  refine wpc_loop (fun m a w' => ∃ (k : Nat), m = n - k ∧ k ≤ n ∧ idxN p n = idxF p k (n - k) ∧ St 19 [(0, .slice ao n cap), (1, .func (.func fid) ⟨fi⟩ ⟨ca⟩), (7, .int .i64 n), (8, .int .i64 k)] w0 F [] F [] a w') ?_ ?_
  · (refine ⟨n, 0, by omega, Nat.zero_le _, rfl, ?_⟩; refine S.keep ?_; repeat (first | exact trivial | refine ⟨rfl, ?_⟩))
  (clear S; rintro m a w ⟨k, rfl, hkl, hfp, S⟩)
  (revert S a; refine go01 5 ?_; intro Z hZ a S)
  refine wpc_split S rfl (fun h => ?_) (fun h => ?_)
  · (skip; (try simp only [tq] at h))
    (revert S a; revert hZ Z; refine go11 9 ?_; intro Z hZ a S)
    (refine wp_seq_k ?_; intro Z hZ)
    (obtain ⟨b8, o8, rfl, cs1, hc1, hl1, hC⟩ := Sq.pos hpos (k := k) (by omega))
    (revert S a; refine go00 5 ?_; intro a S)
    (refine wpl_v S rfl rfl rfl (sv_loadAF S rfl rfl hc1 hl1) ?_; clear S a; intro a S)
    (refine wpl_call0 S rfl rfl rfl rfl rfl rfl (hcl k _ (by omega) hC) rfl ?_; clear S a; intro v a w hv S; subst hv)
    (revert S a; revert hZ Z; refine go10 2 ?_; intro a S)
    refine wpc_split S rfl (fun h => ?_) (fun h => ?_)
    · (skip; (try simp only [tq] at h))
      (revert S a; refine go00 5 ?_; intro a S)
      refine wp_ret (fin_ret S (results1 Tryz.results81 (RV.tmp S rfl)) ?_)
      exact zzIx0
    (skip; (try simp only [tq] at h))
    (revert S a; revert hZ Z; refine go10 6 ?_; intro a S)
    change ∃ m', _ ∧ _
    exact zzIx1
  (skip; (try simp only [tq] at h))
  (refine wp_exit ?_; conv => whnf)
  clear hZ Z
  (revert S a; revert hZ Z; refine go10 5 ?_; intro a S)
  refine wp_ret (fin_ret S (results1 Tryz.results81 (RV.tmp S rfl)) ?_)
  exact zzIx0
theorem cfECt (F : Heap) (v : Value) (n : Nat) (C : Nat → List Value → Prop) (h : Sq F 9 v n C) (fid : FuncId) (fi ca : List Value) [hfn : HasFn Tryz.prog fid] (p : Nat → Bool)
    (hcl : ∀ k cs, k < n → C k cs → Ct Tryz.prog fid (fi ++ [.agg ⟨cs⟩] ++ ca) F [] (fun _ _ u => u = .bool (p k))) :
    Ct Tryz.prog 53 [v, .func (.func fid) ⟨fi⟩ ⟨ca⟩] F [] (fun _ _ u => u = .bool (anyN p n)) := by
  have hc := ixECt F v n C h fid fi ca p hcl
  obtain ⟨ao, cap, rfl, hcap, hpos⟩ := h
  refine Ct.enter Tryz.func53 rfl Tryz.ntmps53 rfl fun w0 a S => ?_
  (revert S a; refine go01 7 ?_; intro Z hZ a S)
  (refine wpl_call0 S rfl rfl rfl rfl rfl rfl (hc) rfl ?_; clear S a; intro v a w hv S; subst hv)
  (revert S a; revert hZ Z; refine go10 4 ?_; intro a S)
  refine wp_ret (fin_ret S (results1 Tryz.results53 (RV.tmp S rfl)) ?_)
  rfl
theorem ixBCt (F : Heap) (v : Value) (n : Nat) (C : Nat → List Value → Prop) (h : Sq F 5 v n C) (fid : FuncId) (fi ca : List Value) [hfn : HasFn Tryz.prog fid] (p : Nat → Bool)
    (hcl : ∀ k cs, k < n → C k cs → Ct Tryz.prog fid (fi ++ [.agg ⟨cs⟩] ++ ca) F [] (fun _ _ u => u = .bool (p k))) :
    Ct Tryz.prog 57 [v, .func (.func fid) ⟨fi⟩ ⟨ca⟩] F [] (fun _ _ u => u = .int .i64 (idxN p n)) := by
  obtain ⟨ao, cap, rfl, hcap, hpos⟩ := h
  refine Ct.enter Tryz.func57 rfl Tryz.ntmps57 rfl fun w0 a S => ?_
  (revert S a; refine go01 12 ?_; intro Z hZ a S)
  refine wpc_loop (fun m a w' => ∃ (k : Nat), m = n - k ∧ k ≤ n ∧ idxN p n = idxF p k (n - k) ∧ St 19 [(0, .slice ao n cap), (1, .func (.func fid) ⟨fi⟩ ⟨ca⟩), (7, .int .i64 n), (8, .int .i64 k)] w0 F [] F [] a w') ?_ ?_
  · (refine ⟨n, 0, by omega, Nat.zero_le _, rfl, ?_⟩; refine S.keep ?_; repeat (first | exact trivial | refine ⟨rfl, ?_⟩))
  (clear S; rintro m a w ⟨k, rfl, hkl, hfp, S⟩)
  (revert S a; refine go01 5 ?_; intro Z hZ a S)
  refine wpc_split S rfl (fun h => ?_) (fun h => ?_)
  · (skip; (try simp only [tq] at h))
    (revert S a; revert hZ Z; refine go11 9 ?_; intro Z hZ a S)
    (refine wp_seq_k ?_; intro Z hZ)
    (obtain ⟨b8, o8, rfl, cs1, hc1, hl1, hC⟩ := Sq.pos hpos (k := k) (by omega))
    (revert S a; refine go00 5 ?_; intro a S)
    (refine wpl_v S rfl rfl rfl (sv_loadAF S rfl rfl hc1 hl1) ?_; clear S a; intro a S)
    (refine wpl_call0 S rfl rfl rfl rfl rfl rfl (hcl k _ (by omega) hC) rfl ?_; clear S a; intro v a w hv S; subst hv)
    (revert S a; revert hZ Z; refine go10 2 ?_; intro a S)
    refine wpc_split S rfl (fun h => ?_) (fun h => ?_)
    · (skip; (try simp only [tq] at h))
      (revert S a; refine go00 5 ?_; intro a S)
      refine wp_ret (fin_ret S (results1 Tryz.results57 (RV.tmp S rfl)) ?_)
      exact zzIx0
    (skip; (try simp only [tq] at h))
    (revert S a; revert hZ Z; refine go10 6 ?_; intro a S)
    change ∃ m', _ ∧ _
    exact zzIx1
  (skip; (try simp only [tq] at h))
  (refine wp_exit ?_; conv => whnf)
  clear hZ Z
  (revert S a; revert hZ Z; refine go10 5 ?_; intro a S)
  refine wp_ret (fin_ret S (results1 Tryz.results57 (RV.tmp S rfl)) ?_)
  exact zzIx0
theorem cfBCt (F : Heap) (v : Value) (n : Nat) (C : Nat → List Value → Prop) (h : Sq F 5 v n C) (fid : FuncId) (fi ca : List Value) [hfn : HasFn Tryz.prog fid] (p : Nat → Bool)
    (hcl : ∀ k cs, k < n → C k cs → Ct Tryz.prog fid (fi ++ [.agg ⟨cs⟩] ++ ca) F [] (fun _ _ u => u = .bool (p k))) :
    Ct Tryz.prog 22 [v, .func (.func fid) ⟨fi⟩ ⟨ca⟩] F [] (fun _ _ u => u = .bool (anyN p n)) := by
  have hc := ixBCt F v n C h fid fi ca p hcl
  obtain ⟨ao, cap, rfl, hcap, hpos⟩ := h
  refine Ct.enter Tryz.func22 rfl Tryz.ntmps22 rfl fun w0 a S => ?_
  (revert S a; refine go01 7 ?_; intro Z hZ a S)
  (refine wpl_call0 S rfl rfl rfl rfl rfl rfl (hc) rfl ?_; clear S a; intro v a w hv S; subst hv)
  (revert S a; revert hZ Z; refine go10 4 ?_; intro a S)
  refine wp_ret (fin_ret S (results1 Tryz.results22 (RV.tmp S rfl)) ?_)
  rfl
theorem ixDCt (F : Heap) (v : Value) (n : Nat) (C : Nat → List Value → Prop) (h : Sq F 3 v n C) (fid : FuncId) (fi ca : List Value) [hfn : HasFn Tryz.prog fid] (p : Nat → Bool)
    (hcl : ∀ k cs, k < n → C k cs → Ct Tryz.prog fid (fi ++ [.agg ⟨cs⟩] ++ ca) F [] (fun _ _ u => u = .bool (p k))) :
    Ct Tryz.prog 89 [v, .func (.func fid) ⟨fi⟩ ⟨ca⟩] F [] (fun _ _ u => u = .int .i64 (idxN p n)) := by
  obtain ⟨ao, cap, rfl, hcap, hpos⟩ := h
  refine Ct.enter Tryz.func89 rfl Tryz.ntmps89 rfl fun w0 a S => ?_
  (revert S a; refine go01 12 ?_; intro Z hZ a S)
  refine wpc_loop (fun m a w' => ∃ (k : Nat), m = n - k ∧ k ≤ n ∧ idxN p n = idxF p k (n - k) ∧ St 19 [(0, .slice ao n cap), (1, .func (.func fid) ⟨fi⟩ ⟨ca⟩), (7, .int .i64 n), (8, .int .i64 k)] w0 F [] F [] a w') ?_ ?_
  · (refine ⟨n, 0, by omega, Nat.zero_le _, rfl, ?_⟩; refine S.keep ?_; repeat (first | exact trivial | refine ⟨rfl, ?_⟩))
  (clear S; rintro m a w ⟨k, rfl, hkl, hfp, S⟩)
  (revert S a; refine go01 5 ?_; intro Z hZ a S)
  refine wpc_split S rfl (fun h => ?_) (fun h => ?_)
  · (skip; (try simp only [tq] at h))
    (revert S a; revert hZ Z; refine go11 9 ?_; intro Z hZ a S)
    (refine wp_seq_k ?_; intro Z hZ)
    (obtain ⟨b8, o8, rfl, cs1, hc1, hl1, hC⟩ := Sq.pos hpos (k := k) (by omega))
    (revert S a; refine go00 5 ?_; intro a S)
    (refine wpl_v S rfl rfl rfl (sv_loadAF S rfl rfl hc1 hl1) ?_; clear S a; intro a S)
    (refine wpl_call0 S rfl rfl rfl rfl rfl rfl (hcl k _ (by omega) hC) rfl ?_; clear S a; intro v a w hv S; subst hv)
    (revert S a; revert hZ Z; refine go10 2 ?_; intro a S)
    refine wpc_split S rfl (fun h => ?_) (fun h => ?_)
    · (skip; (try simp only [tq] at h))
      (revert S a; refine go00 5 ?_; intro a S)
      refine wp_ret (fin_ret S (results1 Tryz.results89 (RV.tmp S rfl)) ?_)
      exact zzIx0
    (skip; (try simp only [tq] at h))
    (revert S a; revert hZ Z; refine go10 6 ?_; intro a S)
    change ∃ m', _ ∧ _
    exact zzIx1
  (skip; (try simp only [tq] at h))
  (refine wp_exit ?_; conv => whnf)
  clear hZ Z
  (revert S a; revert hZ Z; refine go10 5 ?_; intro a S)
  refine wp_ret (fin_ret S (results1 Tryz.results89 (RV.tmp S rfl)) ?_)
  exact zzIx0
end Go.Proofs.YtigblodhdfnleaaGreatDoor
namespace Go.Wk
open Go
set_option linter.unusedVariables false
set_option linter.unusedSimpArgs false

section
variable {P : Program} {n : Sz} {L : List (Nat × Value)} {w0 : World} {F0 : Heap} {K0 : List Nat} {F : Heap} {G : List Grp} {a : Act} {w : World} {o : Oper}
theorem sv_addW {x y : Operand} {k : IntKind} {p q : Int} {t yt : TypeId} (S : St n L w0 F0 K0 F G a w) (ho : o.op = .binOp .add t x y yt) (hx : ev L x = some (.int k p)) (hy : ev L y = some (.int k q)) : SV P o a w (.int k (k.wrap (p + q))) :=
  run_intOp S ho hx hy (by simp [binOp, Op.intArith])
theorem sv_subW {x y : Operand} {k : IntKind} {p q : Int} {t yt : TypeId} (S : St n L w0 F0 K0 F G a w) (ho : o.op = .binOp .sub t x y yt) (hx : ev L x = some (.int k p)) (hy : ev L y = some (.int k q)) : SV P o a w (.int k (k.wrap (p - q))) :=
  run_intOp S ho hx hy (by simp [binOp, Op.intArith])
theorem sv_negW {x : Operand} {k : IntKind} {p : Int} {t : TypeId} (S : St n L w0 F0 K0 F G a w) (ho : o.op = .unOp .neg t x) (hx : ev L x = some (.int k p)) : SV P o a w (.int k (k.wrap (0 - p))) := by
  unfold SV execOp
  rw [ho]
  simp [S.fr.eval hx, Op.unary, Op.intArith]
theorem sv_quoG {x y : Operand} {p q : Int} {t yt : TypeId} (S : St n L w0 F0 K0 F G a w) (ho : o.op = .binOp .quo t x y yt) (hx : ev L x = some (.int .i64 p)) (hy : ev L y = some (.int .i64 q))
    (hq : q ≠ 0) (hb : -9223372036854775808 ≤ p.tdiv q ∧ p.tdiv q ≤ 9223372036854775807) : SV P o a w (.int .i64 (p.tdiv q)) :=
  run_intOp S ho hx hy (by simp [binOp, Op.intDiv, IntWalk.i64_in _ hb, hq])
theorem sv_remG {x y : Operand} {p q : Int} {t yt : TypeId} (S : St n L w0 F0 K0 F G a w) (ho : o.op = .binOp .rem t x y yt) (hx : ev L x = some (.int .i64 p)) (hy : ev L y = some (.int .i64 q))
    (hq : q ≠ 0) : SV P o a w (.int .i64 (p.tmod q)) :=
  run_intOp S ho hx hy (by simp [binOp, Op.intDiv, hq])
theorem sv_gtrS {x y : Operand} {s u : List UInt8} {t yt : TypeId} (S : St n L w0 F0 K0 F G a w) (ho : o.op = .binOp .gtr t x y yt) (hx : ev L x = some (.string (bs s))) (hy : ev L y = some (.string (bs u))) : SV P o a w (.bool (!Op.bytesLess s u && !(s == u))) := by
  have h1 : (eqGuard .gtr t x y (.string (bs s)) (.string (bs u))).run P w = .ok () w := by unfold eqGuard; rfl
  unfold SV execOp
  rw [ho]
  simp [S.fr.eval hx, S.fr.eval hy, h1, binOp, Op.stringOp, bs_toList]
theorem neD (p q : Prop) [Decidable p] [Decidable q] : (decide p != decide q) = decide (¬ (p ↔ q)) := by
  by_cases hp : p <;> by_cases hq : q <;> simp [hp, hq]
theorem tdiv_abs {x y : Int} : (x.tdiv y).natAbs = x.natAbs / y.natAbs := by rw [Int.natAbs_tdiv]; rfl
theorem tdiv_half {x y : Int} (hy : 2 ≤ y.natAbs) : 2 * (x.tdiv y).natAbs ≤ x.natAbs := by
  rw [tdiv_abs]
  have h1 : x.natAbs / y.natAbs ≤ x.natAbs / 2 := Nat.div_le_div_left hy (by decide)
  omega
end
end Go.Wk
namespace Go.Proofs.YtigblodhdfnleaaGreatDoor
open Go Go.Wk Go.Un Go.De Go.Num
set_option linter.unusedSimpArgs false
set_option linter.unusedVariables false
attribute [local irreducible] Go.wpList Go.Code.wp Go.wpStill Go.Wk.wpPre Go.bodyPost Go.Calls Go.Wk.Ct Go.Wk.OwnS
attribute [local irreducible] Go.Wk.wpG Go.Wk.wpM

theorem isNaN3 (x : Int) (F : Heap) : Ct Tryz.prog 187 [.int .u8 x] F [] (fun _ _ u => u = .bool false) := by
  refine Ct.enter Tryz.func187 rfl Tryz.ntmps187 rfl fun w0 a S => ?_
  (revert S a; refine go00 11 ?_; intro a S)
  refine wp_ret (fin_ret S (results1 Tryz.results187 (RV.tmp S rfl)) ?_)
  (simp)
theorem isNaN4 (s : List UInt8) (F : Heap) : Ct Tryz.prog 188 [.string (bs s)] F [] (fun _ _ u => u = .bool false) := by
  refine Ct.enter Tryz.func188 rfl Tryz.ntmps188 rfl fun w0 a S => ?_
  (revert S a; refine go00 11 ?_; intro a S)
  refine wp_ret (fin_ret S (results1 Tryz.results188 (RV.tmp S rfl)) ?_)
  (simp)
theorem compare3 (x y : Int) (F : Heap) : Ct Tryz.prog 171 [.int .u8 x, .int .u8 y] F [] (fun _ _ u => u = .int .i64 (cmpI x y)) := by
  refine Ct.enter Tryz.func171 rfl Tryz.ntmps171 rfl fun w0 a S => ?_
  (revert S a; refine go01 6 ?_; intro Z hZ a S)
  (refine wpl_call0 S rfl rfl rfl rfl rfl rfl (isNaN3 _ F) rfl ?_; clear S a; intro v a w hv S; subst hv)
  (revert S a; revert hZ Z; refine go11 5 ?_; intro Z hZ a S)
  (refine wpl_call0 S rfl rfl rfl rfl rfl rfl (isNaN3 _ F) rfl ?_; clear S a; intro v a w hv S; subst hv)
  (revert S a; revert hZ Z; refine go11 8 ?_; intro Z hZ a S)
  refine wpc_split S rfl (fun h => ?_) (fun h => ?_)
  · (skip; (try simp only [tq] at h); cases h)
  (skip; (try simp only [tq] at h))
  (revert S a; revert hZ Z; refine go11 7 ?_; intro Z hZ a S)
  refine wpc_split S rfl (fun h => ?_) (fun h => ?_)
  · (skip; (try simp only [tq] at h); cases h)
  (skip; (try simp only [tq] at h))
  (revert S a; revert hZ Z; refine go11 9 ?_; intro Z hZ a S)
  refine wpc_split S rfl (fun h => ?_) (fun h => ?_)
  · (skip; (try simp only [tq] at h))
    (revert S a; refine go00 4 ?_; intro a S)
    refine wp_ret (fin_ret S (results1 Tryz.results171 (RV.tmp S rfl)) ?_)
    (unfold cmpI; (repeat (first | rw [if_pos (by assumption)] | rw [if_neg (by omega)])))
  (skip; (try simp only [tq] at h))
  (revert S a; revert hZ Z; refine go11 9 ?_; intro Z hZ a S)
  refine wpc_split S rfl (fun h => ?_) (fun h => ?_)
  · (skip; (try simp only [tq] at h))
    (revert S a; refine go00 4 ?_; intro a S)
    refine wp_ret (fin_ret S (results1 Tryz.results171 (RV.tmp S rfl)) ?_)
    (unfold cmpI; (repeat (first | rw [if_pos (by assumption)] | rw [if_neg (by omega)])))
  (skip; (try simp only [tq] at h))
  (revert S a; revert hZ Z; refine go10 6 ?_; intro a S)
  refine wp_ret (fin_ret S (results1 Tryz.results171 (RV.tmp S rfl)) ?_)
  (unfold cmpI; (repeat (first | rw [if_pos (by assumption)] | rw [if_neg (by omega)])))
theorem compare4 (s t : List UInt8) (F : Heap) : Ct Tryz.prog 173 [.string (bs s), .string (bs t)] F [] (fun _ _ u => u = .int .i64 (cS s t)) := by
  refine Ct.enter Tryz.func173 rfl Tryz.ntmps173 rfl fun w0 a S => ?_
  (revert S a; refine go01 6 ?_; intro Z hZ a S)
  (refine wpl_call0 S rfl rfl rfl rfl rfl rfl (isNaN4 _ F) rfl ?_; clear S a; intro v a w hv S; subst hv)
  (revert S a; revert hZ Z; refine go11 5 ?_; intro Z hZ a S)
  (refine wpl_call0 S rfl rfl rfl rfl rfl rfl (isNaN4 _ F) rfl ?_; clear S a; intro v a w hv S; subst hv)
  (revert S a; revert hZ Z; refine go11 8 ?_; intro Z hZ a S)
  refine wpc_split S rfl (fun h => ?_) (fun h => ?_)
  · (skip; (try simp only [tq] at h); cases h)
  (skip; (try simp only [tq] at h))
  (revert S a; revert hZ Z; refine go11 7 ?_; intro Z hZ a S)
  refine wpc_split S rfl (fun h => ?_) (fun h => ?_)
  · (skip; (try simp only [tq] at h); cases h)
  (skip; (try simp only [tq] at h))
  (revert S a; revert hZ Z; refine go11 9 ?_; intro Z hZ a S)
  refine wpc_split S rfl (fun h => ?_) (fun h => ?_)
  · (skip; (try simp only [tq] at h))
    (revert S a; refine go00 4 ?_; intro a S)
    refine wp_ret (fin_ret S (results1 Tryz.results173 (RV.tmp S rfl)) ?_)
    (unfold cS; congr 1; simp_all)
  (skip; (try simp only [tq] at h))
  (revert S a; revert hZ Z; refine go12 6 ?_; intro Z hZ Z hZ a S)
  (refine wpl_v S rfl rfl rfl (sv_gtrS S rfl rfl rfl) ?_; clear S a; intro a S)
  (refine wpList_nil (hZ _ _ ?_); clear hZ Z)
  refine wpc_split S rfl (fun h => ?_) (fun h => ?_)
  · (skip; (try simp only [tq] at h))
    (revert S a; refine go00 4 ?_; intro a S)
    refine wp_ret (fin_ret S (results1 Tryz.results173 (RV.tmp S rfl)) ?_)
    (unfold cS; congr 1; simp_all)
  (skip; (try simp only [tq] at h))
  (revert S a; revert hZ Z; refine go10 6 ?_; intro a S)
  refine wp_ret (fin_ret S (results1 Tryz.results173 (RV.tmp S rfl)) ?_)
  (unfold cS; congr 1; simp_all)
def IntR (_ : Heap) (x : Int) (cs : List Value) : Prop := cs = [.int .i64 x]
theorem zzCm0 {p : Prop} (h : p := by (congr 1; rw [← hfp]; first | (rw [drop_at hx]; show _ = or2 x _; unfold or2; rw [if_pos (by omega)]; done) | (rw [List.drop_eq_nil_of_le (by omega)]; rfl) | trace_state)) : p := h
theorem orN (F : Heap) (v : Value) (l : List Int) (hl : l.length ≤ 10) (h : LiM F 1 IntR v l) : Ct Tryz.prog 174 [v] F [] (fun _ _ u => u = .int .i64 (l.foldr or2 0)) := by
  obtain ⟨ao, cap, rfl, hcap, hpos⟩ := h
  refine Ct.enter Tryz.func174 rfl Tryz.ntmps174 rfl fun w0 a S => ?_
  (revert S a; refine go01 16 ?_; intro Z hZ a S)
  refine wpc_loop (fun m a w' => ∃ (k : Nat), m = l.length - k ∧ k ≤ l.length ∧ (l.drop k).foldr or2 0 = l.foldr or2 0 ∧ St 18 [(3, .int .i64 0), (6, .slice ao l.length cap), (7, .int .i64 l.length), (8, .int .i64 k)] w0 F [] F [] a w') ?_ ?_
  · (refine ⟨l.length, 0, by omega, Nat.zero_le _, rfl, ?_⟩; refine S.keep ?_; repeat (first | exact trivial | refine ⟨rfl, ?_⟩))
  (clear S; rintro m a w ⟨k, rfl, hkl, hfp, S⟩)
  (revert S a; refine go01 5 ?_; intro Z hZ a S)
  refine wpc_split S rfl (fun h => ?_) (fun h => ?_)
  · (skip; (try simp only [tq] at h))
    (revert S a; revert hZ Z; refine go11 4 ?_; intro Z hZ a S)
    (refine wp_seq_k ?_; intro Z hZ)
    (obtain ⟨b8, o8, rfl, x, cs1, hx, hc1, rfl⟩ := LiM.pos hpos (k := k) (by omega))
    (revert S a; refine go00 2 ?_; intro a S)
    (refine wpl_v S rfl rfl rfl (sv_loadF S rfl rfl (hc1 0 _ rfl)) ?_; clear S a; intro a S)
    (revert S a; revert hZ Z; refine go10 9 ?_; intro a S)
    refine wpc_split S rfl (fun h => ?_) (fun h => ?_)
    · (skip; (try simp only [tq] at h))
      (revert S a; refine go00 5 ?_; intro a S)
      refine wp_ret (fin_ret S (results1 Tryz.results174 (RV.tmp S rfl)) ?_)
      exact zzCm0
    (skip; (try simp only [tq] at h))
    (revert S a; revert hZ Z; refine go10 6 ?_; intro a S)
    change ∃ m', _ ∧ _
    (refine ⟨l.length - (k + 1), by omega, k + 1, rfl, by omega, ?_, ?_⟩; rotate_left 1; (refine S.keep ?_; repeat (first | exact trivial | refine ⟨rfl, ?_⟩)); rw [← hfp, drop_at hx]; show _ = or2 x _; unfold or2; rw [if_neg (by omega)])
  (skip; (try simp only [tq] at h))
  (refine wp_exit ?_; conv => whnf)
  clear hZ Z
  (revert S a; revert hZ Z; refine go10 6 ?_; intro a S)
  refine wp_ret (fin_ret S (results1 Tryz.results174 (RV.tmp S rfl)) ?_)
  exact zzCm0
theorem hasP_dash (s : List UInt8) : hasP s [45] = decide (s.take 1 = [45]) := by
  unfold hasP
  cases s with
  | nil => rfl
  | cons c r => simp; rfl
theorem prefCt (F : Heap) (s : List UInt8) (hs : s.length ≤ 140737488355328) : Ct Tryz.prog 118 [.string (bs s), .string (bs [45])] F [] (fun _ _ u => u = .bool (decide (s.take 1 = [45]))) := by
  rw [← hasP_dash]
  refine Ct.enter Tryz.func118 rfl Tryz.ntmps118 rfl fun w0 a S => ?_
  (revert S a; refine go01 7 ?_; intro Z hZ a S)
  (refine wpl_call0 S rfl rfl rfl rfl rfl rfl (hasPrefixCt s [45] F hs (by decide)) rfl ?_; clear S a; intro v a w hv S; subst hv)
  (revert S a; revert hZ Z; refine go10 3 ?_; intro a S)
  refine wp_ret (fin_ret S (results1 Tryz.results118 (RV.tmp S rfl)) ?_)
  rfl
theorem take1_len {s : List UInt8} (h : s.take 1 = [45]) : 1 ≤ s.length := by
  cases s with
  | nil => cases h
  | cons c r => simp
theorem lim2 {F : Heap} {b : Nat} {x y : Int} {e : TypeId} {R} (h : F b = some (.cells ⟨[.int .i64 x, .int .i64 y]⟩ e R)) : LiM F 1 IntR (.slice (some ⟨b, 0, none⟩) 2 2) [x, y] := by
  refine ⟨_, _, rfl, ⟨Nat.le_refl 2, show 2 ≤ _ by decide⟩, fun _ => ⟨b, 0, rfl, fun k z hz => ?_⟩⟩
  match k, hz with
  | 0, hz => cases hz; exact ⟨_, fun j u hj => ⟨_, _, _, h, by match j, hj with | 0, hj => exact hj⟩, rfl, rfl⟩
  | 1, hz => cases hz; exact ⟨_, fun j u hj => ⟨_, _, _, h, by match j, hj with | 0, hj => exact hj⟩, rfl, rfl⟩
theorem lim3 {F : Heap} {b : Nat} {x y z : Int} {e : TypeId} {R} (h : F b = some (.cells ⟨[.int .i64 x, .int .i64 y, .int .i64 z]⟩ e R)) : LiM F 1 IntR (.slice (some ⟨b, 0, none⟩) 3 3) [x, y, z] := by
  refine ⟨_, _, rfl, ⟨Nat.le_refl 3, show 3 ≤ _ by decide⟩, fun _ => ⟨b, 0, rfl, fun k z hz => ?_⟩⟩
  match k, hz with
  | 0, hz => cases hz; exact ⟨_, fun j u hj => ⟨_, _, _, h, by match j, hj with | 0, hj => exact hj⟩, rfl, rfl⟩
  | 1, hz => cases hz; exact ⟨_, fun j u hj => ⟨_, _, _, h, by match j, hj with | 0, hj => exact hj⟩, rfl, rfl⟩
  | 2, hz => cases hz; exact ⟨_, fun j u hj => ⟨_, _, _, h, by match j, hj with | 0, hj => exact hj⟩, rfl, rfl⟩
theorem or2_z (x : Int) : or2 x 0 = x := by unfold or2; split <;> omega
theorem zzCm1 {p : Prop} (h : p := by (congr 1; show _ = (if s.take 1 = [45] ∧ t.take 1 = [45] then bigC n (t.drop 1) (s.drop 1) else if s.take 1 = [45] then -1 else if t.take 1 = [45] then 1 else or2 (cI s.length t.length) (cS s t)); first | (rw [if_pos (show s.take 1 = [45] ∧ t.take 1 = [45] from ⟨by assumption, by assumption⟩)]; done) | (rw [if_neg (by simp_all), if_pos (by assumption)]; done) | (rw [if_neg (by simp_all), if_neg (by simp_all), if_pos (by assumption)]; done) | (rw [if_neg (by simp_all), if_neg (by simp_all), if_neg (by simp_all)]; show or2 _ (or2 _ 0) = _; rw [or2_z]; rfl) | trace_state)) : p := h
set_option maxHeartbeats 4000000 in
theorem bigsCt : ∀ (n : Nat) (F : Heap) (s t : List UInt8), s.length + t.length < n → s.length ≤ 140737488355328 → t.length ≤ 140737488355328 → Ct Tryz.prog 172 [.string (bs s), .string (bs t)] F [] (fun _ _ u => u = .int .i64 (bigC n s t)) := by
  intro n
  induction n with
  | zero => intro F s t h; omega
  | succ n ih =>
  intro F s t hn hs ht
  have hps := prefCt F s hs
  have hpt := prefCt F t ht
  refine Ct.enter Tryz.func172 rfl Tryz.ntmps172 rfl fun w0 a S => ?_
  (revert S a; refine go01 6 ?_; intro Z hZ a S)
  (refine wpl_call0 S rfl rfl rfl rfl rfl rfl hps rfl ?_; clear S a; intro v a w hv S; subst hv)
  (revert S a; refine go00 1 ?_; intro a S)
  (refine wpl_call0 S rfl rfl rfl rfl rfl rfl hpt rfl ?_; clear S a; intro v a w hv S; subst hv)
  (revert S a; revert hZ Z; refine go12 9 ?_; intro Z hZ Z hZ a S)
  refine wpl_guard S rfl rfl rfl rfl rfl ?_ ?_
  · (clear S; intro h S; (try simp only [tq] at h))
    (revert S a; revert hZ Z; refine go10 5 ?_; intro a S)
    refine wpc_split S rfl (fun h => ?_) (fun h => ?_)
    · (skip; (try simp only [tq] at h))
      (refine wp_seq_k ?_; intro Z hZ)
      (have l1 := take1_len (by assumption : s.take 1 = [45]); have l2 := take1_len (by assumption : t.take 1 = [45]))
      (refine wpc_mixM [0, 1, 2, 3] [] [] (.one 0 (.one 1 (.one 2 (.one 3 (.one 4 (.one 5 .nil)))))) [] S mixed (by kernel_rfl) ?_; clear S; intro w S)
      (refine wpm_p S rfl rfl rfl (want_none _ rfl) rfl rfl ?_; clear S a; intro a S)
      (refine wpm_v S rfl rfl rfl (want_none _ rfl) rfl rfl (fun w' S => sv_sliceS_lo S rfl rfl rfl (by first | omega | (simp only [List.length_append, List.length_cons, List.length_nil]; omega))) ?_; clear S a; intro a S)
      (refine wpm_p S rfl rfl rfl (want_none _ rfl) rfl rfl ?_; clear S a; intro a S)
      (refine wpm_v S rfl rfl rfl (want_none _ rfl) rfl rfl (fun w' S => sv_sliceS_lo S rfl rfl rfl (by first | omega | (simp only [List.length_append, List.length_cons, List.length_nil]; omega))) ?_; clear S a; intro a S)
      refine wpm_eff rfl rfl (kwa S) ?_
      (refine wpl_call0 S rfl rfl rfl rfl rfl rfl (ih F (t.drop 1) (s.drop 1) (by simp; omega) (by simp; omega) (by simp; omega)) rfl ?_; clear S a; intro v a w hv S; subst hv)
      refine wpList_nil ?_
      refine wpm_eff rfl rfl (kwa S) ?_
      (revert S a; refine go00 2 ?_; intro a S)
      (refine wpm_nil (kwa S) (hZ _ _ ?_); clear hZ Z)
      refine wp_ret (fin_ret S (results1 Tryz.results172 (RV.tmp S rfl)) ?_)
      exact zzCm1
    (skip; (try simp only [tq] at h))
    (revert S a; refine go00 5 ?_; intro a S)
    refine wpc_split S rfl (fun h => ?_) (fun h => ?_)
    · (skip; (try simp only [tq] at h))
      (revert S a; refine go00 4 ?_; intro a S)
      refine wp_ret (fin_ret S (results1 Tryz.results172 (RV.tmp S rfl)) ?_)
      exact zzCm1
    (skip; (try simp only [tq] at h))
    (revert S a; refine go00 5 ?_; intro a S)
    refine wpc_split S rfl (fun h => ?_) (fun h => ?_)
    · (skip; (try simp only [tq] at h))
      (revert S a; refine go00 4 ?_; intro a S)
      refine wp_ret (fin_ret S (results1 Tryz.results172 (RV.tmp S rfl)) ?_)
      exact zzCm1
    (skip; (try simp only [tq] at h))
    (revert S a; revert hZ Z; refine go11 7 ?_; intro Z hZ a S)
    (refine wpl_call0 S rfl rfl rfl rfl rfl rfl (compare1 _ _ F) rfl ?_; clear S a; intro v a w hv S; subst hv)
    (revert S a; refine go00 2 ?_; intro a S)
    (refine wpl_call0 S rfl rfl rfl rfl rfl rfl (compare4 s t F) rfl ?_; clear S a; intro v a w hv S; subst hv)
    (refine wpl_buildSlice S rfl rfl rfl rfl rfl rfl (by rfl) (by simp [Value.cells, splice, splice]) rfl (by rfl) (by rfl) ?_; clear S a; intro b33 a w hown S)
    (replace S := St.pullB b33 S; have S' := frz1 S; clear S; obtain ⟨F5, hle5, hb33, S⟩ := S'; refine wpl_call0 S rfl rfl rfl rfl rfl rfl (orN F5 _ [cmpI s.length t.length, cS s t] (show 2 ≤ 10 by decide) (lim2 hb33)) rfl ?_; clear S a; intro v a w hv S; subst hv)
    (revert S a; revert hZ Z; refine go10 3 ?_; intro a S)
    refine wp_ret (fin_ret S (results1 Tryz.results172 (RV.tmp S rfl)) ?_)
    exact zzCm1
  (intro h; clear S a; intro a S; (try simp only [tq] at h))
  (revert S a; revert hZ Z; refine go10 4 ?_; intro a S)
  refine wpc_false S rfl ?_
  (revert S a; refine go00 5 ?_; intro a S)
  refine wpc_split S rfl (fun h => ?_) (fun h => ?_)
  · (skip; (try simp only [tq] at h))
    (revert S a; refine go00 4 ?_; intro a S)
    refine wp_ret (fin_ret S (results1 Tryz.results172 (RV.tmp S rfl)) ?_)
    exact zzCm1
  (skip; (try simp only [tq] at h))
  (revert S a; refine go00 5 ?_; intro a S)
  refine wpc_split S rfl (fun h => ?_) (fun h => ?_)
  · (skip; (try simp only [tq] at h))
    (revert S a; refine go00 4 ?_; intro a S)
    refine wp_ret (fin_ret S (results1 Tryz.results172 (RV.tmp S rfl)) ?_)
    exact zzCm1
  (skip; (try simp only [tq] at h))
  (revert S a; revert hZ Z; refine go11 7 ?_; intro Z hZ a S)
  (refine wpl_call0 S rfl rfl rfl rfl rfl rfl (compare1 _ _ F) rfl ?_; clear S a; intro v a w hv S; subst hv)
  (revert S a; refine go00 2 ?_; intro a S)
  (refine wpl_call0 S rfl rfl rfl rfl rfl rfl (compare4 s t F) rfl ?_; clear S a; intro v a w hv S; subst hv)
  (refine wpl_buildSlice S rfl rfl rfl rfl rfl rfl (by rfl) (by simp [Value.cells, splice, splice]) rfl (by rfl) (by rfl) ?_; clear S a; intro b33 a w hown S)
  (replace S := St.pullB b33 S; have S' := frz1 S; clear S; obtain ⟨F5, hle5, hb33, S⟩ := S'; refine wpl_call0 S rfl rfl rfl rfl rfl rfl (orN F5 _ [cmpI s.length t.length, cS s t] (show 2 ≤ 10 by decide) (lim2 hb33)) rfl ?_; clear S a; intro v a w hv S; subst hv)
  (revert S a; revert hZ Z; refine go10 3 ?_; intro a S)
  refine wp_ret (fin_ret S (results1 Tryz.results172 (RV.tmp S rfl)) ?_)
  exact zzCm1
/-! ### rows -/
def CmpC (n : Nat) : Prop := ∀ (F : Heap) (h : VH) (L : Vf) (h2 : VH) (L2 : Vf) (cs cs2 : List Value), L.size < n → VaC F cs h L → VaC F cs2 h2 L2 → Ct Tryz.prog 153 [.agg ⟨cs⟩, .agg ⟨cs2⟩] F [] (fun _ _ u => u = .int .i64 (cmpH h L h2 L2))
theorem rows1Ct {n : Nat} (hC : CmpC n) (F : Heap) (h : VH) (L : Vf) (h2 : VH) (L2 : Vf) (cs cs2 : List Value) (hn : L.size < n) (hV : VaC F cs h L) (hV2 : VaC F cs2 h2 L2) : Ct Tryz.prog 152 [.agg ⟨cs⟩, .agg ⟨cs2⟩] F [] (fun _ _ u => u = .int .i64 (cmpH h L h2 L2)) := by
  have hc := hC F h L h2 L2 cs cs2 hn hV hV2
  obtain ⟨v1, rfl, ⟨a1, c1, rfl, -⟩, -⟩ := hV
  obtain ⟨v2, rfl, ⟨a2, c2, rfl, -⟩, -⟩ := hV2
  refine Ct.enter Tryz.func152 rfl Tryz.ntmps152 rfl fun w0 a S => ?_
  refine wp_sr fun Z hZ => ?_
  (refine wpl_box S rfl rfl rfl rfl rfl ?_; clear S a; intro b2 a w S)
  (refine wpl_box S rfl rfl rfl rfl rfl ?_; clear S a; intro b3 a w S)
  (revert S a; revert hZ Z; refine go11 6 ?_; intro Z hZ a S)
  (refine wpl_call0 S rfl rfl rfl rfl rfl rfl (hc) rfl ?_; clear S a; intro v a w hv S; subst hv)
  (revert S a; revert hZ Z; refine go10 3 ?_; intro a S)
  refine wp_ret (fin_ret S (results1 Tryz.results152 (RV.tmp S rfl)) ?_)
  rfl
theorem cmpL_drop {l m : Vf} {k : Nat} {x y : VH × Vf} (hx : l.get? k = some x) (hy : m.get? k = some y) : cmpL (l.drop k) (m.drop k) = or2 (cmpH x.1 x.2 y.1 y.2) (cmpL (l.drop (k + 1)) (m.drop (k + 1))) := by
  rw [Rose.drop_get hx, Rose.drop_get hy]; rfl
theorem cmpL_lend {l m : Vf} {k : Nat} {x : VH × Vf} (hx : l.get? k = some x) (hm : m.len ≤ k) : cmpL (l.drop k) (m.drop k) = 1 := by
  rw [Rose.drop_get hx, Rose.drop_len hm]; rfl
theorem cmpL_end {l m : Vf} {k : Nat} (hl : l.len ≤ k) : cmpL (l.drop k) (m.drop k) = if k < m.len then -1 else 0 := by
  rw [Rose.drop_len hl]
  by_cases hm : k < m.len
  · obtain ⟨y, hy⟩ := Rose.get_lt hm
    rw [Rose.drop_get hy, if_pos hm]; rfl
  · rw [Rose.drop_len (by omega), if_neg hm]; rfl
theorem zzCm2 {p : Prop} (h : p := by (congr 1; rw [← hfp]; first | (rw [cmpL_lend hx (by omega)]; done) | (rw [cmpL_drop hx hy]; unfold or2; rw [if_pos (by omega)]; done) | (rw [cmpL_end (by omega), if_pos (by omega)]; done) | (rw [cmpL_end (by omega), if_neg (by omega)]; done) | trace_state)) : p := h
set_option maxHeartbeats 8000000 in
theorem cfCt {n : Nat} (hC : CmpC n) (F : Heap) (l m : Vf) (v u : Value) (hn : l.size ≤ n) (hv : TrS F 4 VhR v l) (hu : TrS F 4 VhR u m) : Ct Tryz.prog 151 [v, u, .func (.func 152) ⟨[]⟩ ⟨[]⟩] F [] (fun _ _ u => u = .int .i64 (cmpL l m)) := by
  obtain ⟨ao, cap, rfl, hcap, hpos⟩ := hv
  obtain ⟨ao2, cap2, rfl, hcap2, hpos2⟩ := hu
  refine Ct.enter Tryz.func151 rfl Tryz.ntmps151 rfl fun w0 a S => ?_
  (revert S a; refine go01 12 ?_; intro Z hZ a S)
  refine wpc_loop (fun q a w' => ∃ (k : Nat), q = l.len - k ∧ k ≤ l.len ∧ cmpL (l.drop k) (m.drop k) = cmpL l m ∧ St 39 [(0, .slice ao l.len cap), (1, .slice ao2 m.len cap2), (2, .func (.func 152) ⟨[]⟩ ⟨[]⟩), (11, .slice ao l.len cap), (12, .int .i64 l.len), (13, .int .i64 k)] w0 F [] F [] a w') ?_ ?_
  · (refine ⟨l.len, 0, by omega, Nat.zero_le _, rfl, ?_⟩; refine S.keep ?_; repeat (first | exact trivial | refine ⟨rfl, ?_⟩))
  (clear S; rintro q a w ⟨k, rfl, hkl, hfp, S⟩)
  (revert S a; refine go01 5 ?_; intro Z hZ a S)
  refine wpc_split S rfl (fun h => ?_) (fun h => ?_)
  · (skip; (try simp only [tq] at h))
    (revert S a; revert hZ Z; refine go11 4 ?_; intro Z hZ a S)
    (refine wp_seq_k ?_; intro Z hZ)
    (obtain ⟨b8, o8, hao, x, cs1, v1, hx, hc1, hw9, hT1⟩ := TrM.pos hpos (k := k) (by omega); rw [hao] at S; have hxs := Rose.size_get hx; have hT1c := hT1; obtain ⟨a91, c91, rfl, -⟩ := hT1c; have hw9c := hw9.1; subst hw9c; (simp only [List.cons_append, List.nil_append] at hc1))
    (revert S a; refine go00 4 ?_; intro a S)
    (refine wpl_alloc S rfl rfl rfl rfl ?_; clear S a; intro b8 a w S)
    (revert S a; refine go00 1 ?_; intro a S)
    (refine wpl_storeO S rfl rfl rfl rfl rfl (by rfl) (by simp [Value.cells, Value.oneCell', splice]) (by rfl) ?_; clear S; intro w S)
    (revert S a; revert hZ Z; refine go11 10 ?_; intro Z hZ a S)
    refine wpc_split S rfl (fun h => ?_) (fun h => ?_)
    · (skip; (try simp only [tq] at h))
      (revert S a; refine go00 4 ?_; intro a S)
      refine wp_ret (fin_ret S (results1 Tryz.results151 (RV.tmp S rfl)) ?_)
      exact zzCm2
    (skip; (try simp only [tq] at h))
    refine wp_skip ?_
    (refine hZ _ _ ?_; clear hZ Z)
    (refine wp_seq_k ?_; intro Z hZ)
    (obtain ⟨b9, o9, hao2, y, cs2, v2, hy, hc2, hw8, hT2⟩ := TrM.pos hpos2 (k := k) (by omega); rw [hao2] at S; have hT2c := hT2; obtain ⟨a92, c92, rfl, -⟩ := hT2c; have hw8c := hw8.1; subst hw8c; (simp only [List.cons_append, List.nil_append] at hc2))
    (revert S a; refine go00 5 ?_; intro a S)
    (refine wpl_alloc S rfl rfl rfl rfl ?_; clear S a; intro b9 a w S)
    (refine wpl_storeO S rfl rfl rfl rfl rfl (by rfl) (by simp [Value.cells, Value.oneCell', splice]) (by rfl) ?_; clear S; intro w S)
    (revert S a; revert hZ Z; refine go11 6 ?_; intro Z hZ a S)
    (refine wpl_call0 S rfl rfl rfl rfl rfl rfl (rows1Ct hC F x.1 x.2 y.1 y.2 _ _ (by omega) ⟨_, rfl, hT1, hw9.2⟩ ⟨_, rfl, hT2, hw8.2⟩) rfl ?_; clear S a; intro v a w hv S; subst hv)
    (revert S a; revert hZ Z; refine go10 8 ?_; intro a S)
    refine wpc_split S rfl (fun h => ?_) (fun h => ?_)
    · (skip; (try simp only [tq] at h))
      (revert S a; refine go00 5 ?_; intro a S)
      refine wp_ret (fin_ret S (results1 Tryz.results151 (RV.tmp S rfl)) ?_)
      exact zzCm2
    (skip; (try simp only [tq] at h))
    (revert S a; revert hZ Z; refine go10 6 ?_; intro a S)
    change ∃ m', _ ∧ _
    (rw [← hao, ← hao2] at S; replace S := S.drop1.drop1; refine ⟨l.len - (k + 1), by omega, k + 1, rfl, by omega, ?_, ?_⟩; rotate_left 1; (refine S.keep ?_; repeat (first | exact trivial | refine ⟨rfl, ?_⟩)); rw [← hfp, cmpL_drop hx hy]; unfold or2; rw [if_neg (by omega)])
  (skip; (try simp only [tq] at h))
  (refine wp_exit ?_; conv => whnf)
  clear hZ Z
  (revert S a; revert hZ Z; refine go11 10 ?_; intro Z hZ a S)
  refine wpc_split S rfl (fun h => ?_) (fun h => ?_)
  · (skip; (try simp only [tq] at h))
    (revert S a; refine go00 4 ?_; intro a S)
    refine wp_ret (fin_ret S (results1 Tryz.results151 (RV.tmp S rfl)) ?_)
    exact zzCm2
  (skip; (try simp only [tq] at h))
  (revert S a; revert hZ Z; refine go10 6 ?_; intro a S)
  refine wp_ret (fin_ret S (results1 Tryz.results151 (RV.tmp S rfl)) ?_)
  exact zzCm2
theorem rowsCt {n : Nat} (hC : CmpC n) (F : Heap) (l m : Vf) (v u : Value) (hn : l.size ≤ n) (hv : TrS F 4 VhR v l) (hu : TrS F 4 VhR u m) : Ct Tryz.prog 127 [v, u] F [] (fun _ _ u => u = .int .i64 (cmpL l m)) := by
  have hc := cfCt hC F l m v u hn hv hu
  obtain ⟨ao, cap, rfl, hcap, hpos⟩ := hv
  obtain ⟨ao2, cap2, rfl, hcap2, hpos2⟩ := hu
  refine Ct.enter Tryz.func127 rfl Tryz.ntmps127 rfl fun w0 a S => ?_
  (revert S a; refine go01 7 ?_; intro Z hZ a S)
  (refine wpl_call0 S rfl rfl rfl rfl rfl rfl (hc) rfl ?_; clear S a; intro v a w hv S; subst hv)
  (revert S a; revert hZ Z; refine go10 3 ?_; intro a S)
  refine wp_ret (fin_ret S (results1 Tryz.results127 (RV.tmp S rfl)) ?_)
  rfl
theorem cmpI_ne {a b : Nat} : cmpI (a : Int) (b : Int) ≠ 0 ↔ a ≠ b := by unfold cmpI; split <;> (try split) <;> omega
theorem zzCm3 {p : Prop} (h : p := by (congr 1; unfold cmpH; first | (rw [if_pos (cmpI_ne.1 (by assumption))]; rfl) | (have hk : ¬ vh.k ≠ vh2.k := (fun h9 => absurd (cmpI_ne.2 h9) (by omega)); rw [if_neg hk]; first | (rw [if_pos (by omega)]; rfl) | (rw [if_neg (by omega), if_pos (by omega)]; done) | (rw [if_neg (by omega), if_neg (by omega)]; show or2 _ (or2 _ (or2 _ 0)) = _; rw [or2_z]; rfl)) | trace_state)) : p := h
set_option maxHeartbeats 8000000 in
theorem cmpCt : ∀ n, CmpC n := by
  intro n
  induction n with
  | zero => intro F h L h2 L2 cs cs2 hn; omega
  | succ n ih =>
  intro F vh L vh2 L2 cs cs2 hn hV hV2
  obtain ⟨v1, rfl, hT1, hs1⟩ := hV
  obtain ⟨v2, rfl, hT2, hs2⟩ := hV2
  have hr := rowsCt ih F L L2 v1 v2 (by omega) hT1 hT2
  obtain ⟨a1, c1, rfl, -⟩ := hT1
  obtain ⟨a2, c2, rfl, -⟩ := hT2
  refine Ct.enter Tryz.func153 rfl Tryz.ntmps153 rfl fun w0 a S => ?_
  refine wp_sr fun Z hZ => ?_
  (refine wpl_box S rfl rfl rfl rfl rfl ?_; clear S a; intro b2 a w S)
  (refine wpl_box S rfl rfl rfl rfl rfl ?_; clear S a; intro b3 a w S)
  (revert S a; revert hZ Z; refine go12 9 ?_; intro Z hZ Z hZ a S)
  (refine wpl_call0 S rfl rfl rfl rfl rfl rfl (compare3 _ _ F) rfl ?_; clear S a; intro v a w hv S; subst hv)
  (revert S a; revert hZ Z; refine go10 8 ?_; intro a S)
  refine wpc_split S rfl (fun h => ?_) (fun h => ?_)
  · (skip; (try simp only [tq] at h))
    (revert S a; refine go00 5 ?_; intro a S)
    refine wp_ret (fin_ret S (results1 Tryz.results153 (RV.tmp S rfl)) ?_)
    exact zzCm3
  (skip; (try simp only [tq] at h))
  (revert S a; revert hZ Z; refine go11 14 ?_; intro Z hZ a S)
  refine wpc_split S rfl (fun h => ?_) (fun h => ?_)
  · (skip; (try simp only [tq] at h))
    (revert S a; refine go01 5 ?_; intro Z hZ a S)
    (refine wpl_call0 S rfl rfl rfl rfl rfl rfl (bigsCt (vh.s.length + vh2.s.length + 1) F vh.s vh2.s (by omega) hs1 hs2) rfl ?_; clear S a; intro v a w hv S; subst hv)
    (revert S a; revert hZ Z; refine go10 3 ?_; intro a S)
    refine wp_ret (fin_ret S (results1 Tryz.results153 (RV.tmp S rfl)) ?_)
    exact zzCm3
  (skip; (try simp only [tq] at h))
  (revert S a; refine go00 5 ?_; intro a S)
  refine wpc_split S rfl (fun h => ?_) (fun h => ?_)
  · (skip; (try simp only [tq] at h))
    (revert S a; refine go01 5 ?_; intro Z hZ a S)
    (refine wpl_call0 S rfl rfl rfl rfl rfl rfl (compare4 vh.s vh2.s F) rfl ?_; clear S a; intro v a w hv S; subst hv)
    (revert S a; revert hZ Z; refine go10 3 ?_; intro a S)
    refine wp_ret (fin_ret S (results1 Tryz.results153 (RV.tmp S rfl)) ?_)
    exact zzCm3
  (skip; (try simp only [tq] at h))
  refine wp_skip ?_
  (refine hZ _ _ ?_; clear hZ Z)
  (refine wp_seq_k ?_; intro Z hZ)
  (refine wpc_mixM [0, 1, 2, 3, 5, 6, 7, 8, 10, 11, 12, 13] [1, 3, 6, 8, 11, 13] [] (.one 0 (.one 1 (.one 2 (.one 3 (.one 5 (.one 6 (.one 7 (.one 8 (.one 10 (.one 11 (.one 12 (.one 13 (.one 4 (.one 9 (.one 14 (.one 15 (.one 16 (.one 17 .nil)))))))))))))))))) [b2, b3] S mixed (by kernel_rfl) ?_; clear S; intro w S)
  (refine wpm_f S rfl rfl rfl (want_none _ rfl) rfl rfl ?_; clear S a; intro a S)
  (refine wpm_o b2 S rfl rfl rfl (want_none _ rfl) rfl rfl ?_; clear S a; intro a S)
  (refine wpm_f S rfl rfl rfl (want_none _ rfl) rfl rfl ?_; clear S a; intro a S)
  (refine wpm_o b3 S rfl rfl rfl (want_none _ rfl) rfl rfl ?_; clear S a; intro a S)
  (refine wpm_f S rfl rfl rfl (want_none _ rfl) rfl rfl ?_; clear S a; intro a S)
  (refine wpm_o b2 S rfl rfl rfl (want_none _ rfl) rfl rfl ?_; clear S a; intro a S)
  (refine wpm_f S rfl rfl rfl (want_none _ rfl) rfl rfl ?_; clear S a; intro a S)
  (refine wpm_o b3 S rfl rfl rfl (want_none _ rfl) rfl rfl ?_; clear S a; intro a S)
  (refine wpm_f S rfl rfl rfl (want_none _ rfl) rfl rfl ?_; clear S a; intro a S)
  (refine wpm_o b2 S rfl rfl rfl (want_none _ rfl) rfl rfl ?_; clear S a; intro a S)
  (refine wpm_f S rfl rfl rfl (want_none _ rfl) rfl rfl ?_; clear S a; intro a S)
  (refine wpm_o b3 S rfl rfl rfl (want_none _ rfl) rfl rfl ?_; clear S a; intro a S)
  refine wpm_eff rfl rfl (kwa S) ?_
  (refine wpl_call0 S rfl rfl rfl rfl rfl rfl (compare2 _ _ F) rfl ?_; clear S a; intro v a w hv S; subst hv)
  refine wpList_nil ?_
  refine wpm_eff rfl rfl (kwa S) ?_
  (refine wpl_call0 S rfl rfl rfl rfl rfl rfl (compare4 vh.s vh2.s F) rfl ?_; clear S a; intro v a w hv S; subst hv)
  refine wpList_nil ?_
  refine wpm_eff rfl rfl (kwa S) ?_
  (refine wpl_call0 S rfl rfl rfl rfl rfl rfl (hr) rfl ?_; clear S a; intro v a w hv S; subst hv)
  refine wpList_nil ?_
  refine wpm_eff rfl rfl (kwa S) ?_
  (refine wpl_buildSlice S rfl rfl rfl rfl rfl rfl (by rfl) (by simp [Value.cells, splice, splice]) rfl (by rfl) (by rfl) ?_; clear S a; intro b45 a w hown S)
  refine wpList_nil ?_
  refine wpm_eff rfl rfl (kwa S) ?_
  (replace S := St.pullB b45 S; have S' := frz1 S; clear S; obtain ⟨F5, hle5, hb45, S⟩ := S'; refine wpl_call0 S rfl rfl rfl rfl rfl rfl (orN F5 _ [cmpI vh.n vh2.n, cS vh.s vh2.s, cmpL L L2] (show 3 ≤ 10 by decide) (lim3 hb45)) rfl ?_; clear S a; intro v a w hv S; subst hv)
  refine wpList_nil ?_
  refine wpm_eff rfl rfl (kwa S) ?_
  (revert S a; refine go00 2 ?_; intro a S)
  (refine wpm_nil (kwa S) (hZ _ _ ?_); clear hZ Z)
  refine wp_ret (fin_ret S (results1 Tryz.results153 (RV.tmp S rfl)) ?_)
  exact zzCm3
/-! ### any values -/
theorem may1Ct (F : Heap) (h : VH) (L : Vf) (cs : List Value) (hb : L.size ≤ 1000000000) (hV : VaC F cs h L) : Ct Tryz.prog 150 [.agg ⟨cs⟩] F [] (fun _ _ u => u = .bool (!mayV (h, L))) := by
  have hc := checkVCt F h L cs hb hV
  obtain ⟨v1, rfl, ⟨a1, c1, rfl, -⟩, -⟩ := hV
  refine Ct.enter Tryz.func150 rfl Tryz.ntmps150 rfl fun w0 a S => ?_
  refine wp_sr fun Z hZ => ?_
  (refine wpl_box S rfl rfl rfl rfl rfl ?_; clear S a; intro b1 a w S)
  (revert S a; revert hZ Z; refine go11 5 ?_; intro Z hZ a S)
  (refine wpl_call0 S rfl rfl rfl rfl rfl rfl (hc) rfl ?_; clear S a; intro v a w hv S; subst hv)
  (revert S a; revert hZ Z; refine go10 4 ?_; intro a S)
  refine wp_ret (fin_ret S (results1 Tryz.results150 (RV.tmp S rfl)) ?_)
  rfl
def mayL (l : Vf) : Bool := !anyR (fun h L => !mayV (h, L)) l
theorem mayLCt (F : Heap) (l : Vf) (v : Value) (hb : l.size ≤ 1000000000) (h : TrS F 4 VhR v l) : Ct Tryz.prog 125 [v] F [] (fun _ _ u => u = .bool (mayL l)) := by
  have hc := cfVCt F v l.len _ h.sq 150 [] [] (fun k => match l.get? k with | some x => !mayV x | none => false) (fun k cs hk ⟨x, c1, u, hx, hcs, hR, hT⟩ => by
    have hsz := Rose.size_get hx
    rw [hx]
    exact may1Ct F x.1 x.2 cs (by omega) (ror_vac ⟨c1, u, hcs, by rw [hR.1]; rfl, hR, hT⟩))
  rw [anyN_rose (q := fun h L => !mayV (h, L)) (fun k x hx => by rw [hx])] at hc
  obtain ⟨a1, c1, rfl, -⟩ := h
  refine Ct.enter Tryz.func125 rfl Tryz.ntmps125 rfl fun w0 a S => ?_
  (revert S a; refine go01 6 ?_; intro Z hZ a S)
  (refine wpl_call0 S rfl rfl rfl rfl rfl rfl (hc) rfl ?_; clear S a; intro v a w hv S; subst hv)
  (revert S a; revert hZ Z; refine go10 4 ?_; intro a S)
  refine wp_ret (fin_ret S (results1 Tryz.results125 (RV.tmp S rfl)) ?_)
  rfl
theorem zzCm4 {p : Prop} (h : p := by (first | (rw [if_pos (by assumption)]; done) | (rw [if_neg (by assumption), if_pos (by assumption)]; done) | (rw [if_neg (by assumption), if_neg (by simp_all)]; done) | trace_state)) : p := h
theorem lastCt (F : Heap) (p q : Bool) : Ct Tryz.prog 126 [.bool p, .bool q] F [] (fun _ _ u => u = .int .i64 (if p = q then 0 else if p = true then -1 else 1)) := by
  refine Ct.enter Tryz.func126 rfl Tryz.ntmps126 rfl fun w0 a S => ?_
  (revert S a; refine go01 13 ?_; intro Z hZ a S)
  refine wpc_split S rfl (fun h => ?_) (fun h => ?_)
  · (skip; (try simp only [tq] at h))
    (revert S a; refine go00 4 ?_; intro a S)
    refine wp_ret (fin_ret S (results1 Tryz.results126 (RV.tmp S rfl)) ?_)
    exact zzCm4
  (skip; (try simp only [tq] at h))
  (revert S a; refine go00 5 ?_; intro a S)
  refine wpc_split S rfl (fun h => ?_) (fun h => ?_)
  · (skip; (try simp only [tq] at h))
    (revert S a; refine go00 4 ?_; intro a S)
    refine wp_ret (fin_ret S (results1 Tryz.results126 (RV.tmp S rfl)) ?_)
    exact zzCm4
  (skip; (try simp only [tq] at h))
  (revert S a; revert hZ Z; refine go10 6 ?_; intro a S)
  refine wp_ret (fin_ret S (results1 Tryz.results126 (RV.tmp S rfl)) ?_)
  exact zzCm4
theorem zzCm5 {p : Prop} (h : p := by (congr 1; first | (rw [if_pos (show mayL l = true ∧ mayL m = true by simp_all)]; done) | (rw [if_neg (show ¬ (mayL l = true ∧ mayL m = true) by simp_all)]; done) | trace_state)) : p := h
theorem cmpRowsCt (F : Heap) (l m : Vf) (v u : Value) (hb : l.size ≤ 1000000000) (hb2 : m.size ≤ 1000000000) (hv : TrS F 4 VhR v l) (hu : TrS F 4 VhR u m) : Ct Tryz.prog 105 [v, u] F [] (fun _ _ u => u = .int .i64 (if mayL l = true ∧ mayL m = true then cmpL l m else if mayL l = mayL m then 0 else if mayL l = true then -1 else 1)) := by
  have h1 := mayLCt F l v hb hv
  have h2 := mayLCt F m u hb2 hu
  have h3 := rowsCt (cmpCt l.size) F l m v u (Nat.le_refl _) hv hu
  obtain ⟨a1, c1, rfl, -⟩ := hv
  obtain ⟨a2, c2, rfl, -⟩ := hu
  refine Ct.enter Tryz.func105 rfl Tryz.ntmps105 rfl fun w0 a S => ?_
  (revert S a; refine go02 7 ?_; intro Z hZ Z hZ a S)
  (refine wpl_call0 S rfl rfl rfl rfl rfl rfl h1 rfl ?_; clear S a; intro v a w hv S; subst hv)
  (revert S a; refine go00 1 ?_; intro a S)
  (refine wpl_call0 S rfl rfl rfl rfl rfl rfl h2 rfl ?_; clear S a; intro v a w hv S; subst hv)
  (revert S a; revert hZ Z; refine go11 8 ?_; intro Z hZ a S)
  refine wpl_guard S rfl rfl rfl rfl rfl ?_ ?_
  · (clear S; intro h S; (try simp only [tq] at h))
    (revert S a; revert hZ Z; refine go10 6 ?_; intro a S)
    refine wpc_split S rfl (fun h => ?_) (fun h => ?_)
    · (skip; (try simp only [tq] at h))
      (revert S a; refine go01 3 ?_; intro Z hZ a S)
      (refine wpl_call0 S rfl rfl rfl rfl rfl rfl (lastCt F _ _) rfl ?_; clear S a; intro v a w hv S; subst hv)
      (revert S a; revert hZ Z; refine go10 3 ?_; intro a S)
      refine wp_ret (fin_ret S (results1 Tryz.results105 (RV.tmp S rfl)) ?_)
      exact zzCm5
    (skip; (try simp only [tq] at h))
    (revert S a; revert hZ Z; refine go11 5 ?_; intro Z hZ a S)
    (refine wpl_call0 S rfl rfl rfl rfl rfl rfl (h3) rfl ?_; clear S a; intro v a w hv S; subst hv)
    (revert S a; revert hZ Z; refine go10 3 ?_; intro a S)
    refine wp_ret (fin_ret S (results1 Tryz.results105 (RV.tmp S rfl)) ?_)
    exact zzCm5
  (intro h; clear S a; intro a S; (try simp only [tq] at h))
  (revert S a; revert hZ Z; refine go10 4 ?_; intro a S)
  refine wpc_true S rfl ?_
  (revert S a; refine go01 3 ?_; intro Z hZ a S)
  (refine wpl_call0 S rfl rfl rfl rfl rfl rfl (lastCt F _ _) rfl ?_; clear S a; intro v a w hv S; subst hv)
  (revert S a; revert hZ Z; refine go10 3 ?_; intro a S)
  refine wp_ret (fin_ret S (results1 Tryz.results105 (RV.tmp S rfl)) ?_)
  exact zzCm5
theorem mayL1 (h : VH) (L : Vf) : mayL (.cons h L .nil) = mayV (h, L) := by
  unfold mayL anyR anyR
  rw [Bool.or_false, Bool.not_not]
theorem cmpVCt (F : Heap) (x y : Vv) (cx cy : List Value) (hb : x.2.size ≤ 100000000) (hb2 : y.2.size ≤ 100000000) (hx : VaC F cx x.1 x.2) (hy : VaC F cy y.1 y.2) : Ct Tryz.prog 80 [.agg ⟨cx⟩, .agg ⟨cy⟩] F [] (fun _ _ u => u = .int .i64 (cmpV2 x y)) := by
  have ex := vac_ror hx
  have ey := vac_ror hy
  obtain ⟨v1, rfl, ⟨a1, c1, rfl, -⟩, -⟩ := hx
  obtain ⟨v2, rfl, ⟨a2, c2, rfl, -⟩, -⟩ := hy
  refine Ct.enter Tryz.func80 rfl Tryz.ntmps80 rfl fun w0 a S => ?_
  refine wp_sr fun Z hZ => ?_
  (refine wpl_box S rfl rfl rfl rfl rfl ?_; clear S a; intro b2 a w S)
  (refine wpl_box S rfl rfl rfl rfl rfl ?_; clear S a; intro b3 a w S)
  (revert S a; revert hZ Z; refine go11 5 ?_; intro Z hZ a S)
  (refine wpl_buildSlice S rfl rfl rfl rfl rfl rfl (by rfl) (by simp [Value.cells, splice, splice]) rfl (by rfl) (by rfl) ?_; clear S a; intro b6 a w hown S)
  (revert S a; refine go00 1 ?_; intro a S)
  (refine wpl_buildSlice S rfl rfl rfl rfl rfl rfl (by rfl) (by simp [Value.cells, splice, splice]) rfl (by rfl) (by rfl) ?_; clear S a; intro b8 a w hown S)
  (replace S := St.pullB b6 S; replace S := St.pullB b8 S; have S' := frzAll [(b8, _), (b6, _)] S; clear S; obtain ⟨F5, hle5, hbl, S⟩ := S'; have h6 := hbl _ (List.mem_cons_of_mem _ (List.mem_cons_self ..)); have h8 := hbl _ (List.mem_cons_self ..); have t6 : TrS F5 4 VhR (.slice (some ⟨b6, 0, none⟩) 1 1) (.cons x.1 x.2 .nil) := trs_lim (l := [x]) (lim_of (l := [x]) h6 (LiC.one rfl (Mon.h hle5 ex)) (show 1 ≤ _ by decide)); have t8 : TrS F5 4 VhR (.slice (some ⟨b8, 0, none⟩) 1 1) (.cons y.1 y.2 .nil) := trs_lim (l := [y]) (lim_of (l := [y]) h8 (LiC.one rfl (Mon.h hle5 ey)) (show 1 ≤ _ by decide)); refine wpl_call0 S rfl rfl rfl rfl rfl rfl (cmpRowsCt F5 _ _ _ _ (by simp only [Rose.size]; omega) (by simp only [Rose.size]; omega) t6 t8) rfl ?_; clear S a; intro v a w hv S; subst hv)
  (revert S a; revert hZ Z; refine go10 3 ?_; intro a S)
  refine wp_ret (fin_ret S (results1 Tryz.results80 (RV.tmp S rfl)) ?_)
  (congr 1; rw [mayL1, mayL1]; unfold cmpV2; rw [show cmpL (.cons x.1 x.2 .nil) (.cons y.1 y.2 .nil) = cmpH x.1 x.2 y.1 y.2 from or2_z _])
end Go.Proofs.YtigblodhdfnleaaGreatDoor
