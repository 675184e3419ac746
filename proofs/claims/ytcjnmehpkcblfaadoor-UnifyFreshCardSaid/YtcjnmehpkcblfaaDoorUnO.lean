/- slices.ContainsFunc over whole numbers; the walk of round. -/
import Derived.Test.YtcjnmehpkcblfaaDoorUnM
import Derived.Test.YtcjnmehpkcblfaaDoorUnD
namespace Go.Proofs.YtcjnmehpkcblfaaDoor
open Go Go.Wk Go.Un
set_option linter.unusedSimpArgs false
set_option linter.unusedVariables false
attribute [local irreducible] Go.wpList Go.Code.wp Go.wpStill Go.Wk.wpPre Go.bodyPost Go.Calls Go.Wk.Ct Go.Wk.OwnS
attribute [local irreducible] Go.Wk.wpG Go.Wk.wpM

set_option maxHeartbeats 2000000 in
theorem indexICt (F : Heap) (ks : List Nat) (v : Value) (h : SlC F v ks.length (intsN ks)) (hks : ks.length ≤ 1000000) (fid : FuncId) (fi ca : List Value) [hfn : HasFn Tryd.prog fid] (Inv : Nat → List Grp → Prop) (End : List Grp → Prop)
    (hcl : ∀ k x G, ks[k]? = some x → Inv k G → Ct Tryd.prog fid (fi ++ [.int .i64 (x : Int)] ++ ca) F G (fun _ G' u => ∃ b : Bool, u = .bool b ∧ (b = false → Inv (k + 1) G') ∧ (b = true → End G'))) (G0 : List Grp) (h0 : Inv 0 G0) :
    Ct Tryd.prog 50 [v, .func (.func fid) ⟨fi⟩ ⟨ca⟩] F G0 (fun _ G' u => ∃ i : Int, u = .int .i64 i ∧ (0 ≤ i → End G') ∧ (i < 0 → Inv ks.length G')) := by
  have hv0 := h
  obtain ⟨ao, cap, rfl, hcap, hpos⟩ := h
  refine Ct.enter Tryd.func50 rfl Tryd.ntmps50 rfl fun w0 a S => ?_
  (refine wp_seq_k ?_; intro Kq1 hKq1)
  refine wp_region_lit ?_
  (refine wpl_v S rfl rfl rfl (sv_pure S rfl) ?_; clear S a; intro a S)
  refine wpList_nil ?_
  (refine hKq1 _ _ ?_; try (clear hKq1 Kq1))
  (refine wp_seq_k ?_; intro Kq2 hKq2)
  (refine wp_seq_k ?_; intro Kq3 hKq3)
  refine wp_region_lit ?_
  (refine wpl_v S rfl rfl rfl (sv_pure S rfl) ?_; clear S a; intro a S)
  (refine wpl_v S rfl rfl rfl (sv_lenSl S rfl rfl) ?_; clear S a; intro a S)
  (refine wpl_v S rfl rfl rfl (sv_pure S rfl) ?_; clear S a; intro a S)
  refine wpList_nil ?_
  (refine hKq3 _ _ ?_; try (clear hKq3 Kq3))
  refine wp_block ?_
  refine wpc_loop (fun m a w' => ∃ (k : Nat) (GG : List Grp), m = ks.length - k ∧ k ≤ ks.length ∧ Inv k GG ∧ St 19 [(0, .slice ao ks.length cap), (1, .func (.func fid) ⟨fi⟩ ⟨ca⟩), (7, .int .i64 ks.length), (8, .int .i64 k)] w0 F (keys G0) F GG a w') ?_ ?_
  · (refine ⟨ks.length, 0, G0, by omega, Nat.zero_le _, h0, ?_⟩; refine S.keep ?_; repeat (first | exact trivial | refine ⟨rfl, ?_⟩))
  · (clear S; rintro m a w ⟨k, GG, rfl, hkl, hI, S⟩)
    (refine wp_seq_k ?_; intro Kq4 hKq4)
    refine wp_region_lit ?_
    (refine wpl_v S rfl rfl rfl (sv_pure S rfl) ?_; clear S a; intro a S)
    refine wpList_nil ?_
    (refine hKq4 _ _ ?_; try (clear hKq4 Kq4))
    (refine wp_seq_k ?_; intro Kq5 hKq5)
    refine wpc_split S rfl (fun h => ?_) (fun h => ?_)
    · (skip; (try simp only [decide_eq_true_eq, decide_eq_false_iff_not, beq_iff_eq, bne_iff_ne, bne_eq_false_iff_eq, beq_eq_false_iff_ne, ne_eq, Bool.not_eq_true', Bool.not_eq_false', Bool.not_eq_true, Bool.not_eq_false, Bool.not_true, Bool.not_false, Int.ofNat_lt, Int.ofNat_le, Nat.not_lt, Nat.not_le] at h))
      refine wp_skip ?_
      (refine hKq5 _ _ ?_; try (clear hKq5 Kq5))
      (refine wp_seq_k ?_; intro Kq6 hKq6)
      refine wp_block ?_
      (refine wp_seq_k ?_; intro Kq7 hKq7)
      refine wp_region_lit ?_
      (refine wpl_v S rfl rfl rfl (sv_pure S rfl) ?_; clear S a; intro a S)
      (refine wpl_v S rfl rfl rfl (sv_pure S rfl) ?_; clear S a; intro a S)
      refine wpList_nil ?_
      (refine hKq7 _ _ ?_; try (clear hKq7 Kq7))
      (refine wp_seq_k ?_; intro Kq8 hKq8)
      (obtain ⟨x, hx⟩ : ∃ x, ks[k]? = some x := ⟨_, List.getElem?_eq_getElem (by omega)⟩; obtain ⟨b8, o8, hao, hc1⟩ := ks_cel hv0 hx; rw [hao] at S)
      refine wp_region_lit ?_
      (refine wpl_v S rfl rfl rfl (sv_pure S rfl) ?_; clear S a; intro a S)
      (refine wpl_v S rfl rfl rfl (sv_pure S rfl) ?_; clear S a; intro a S)
      (refine wpl_v S rfl rfl rfl (sv_pure S rfl) ?_; clear S a; intro a S)
      (refine wpl_v S rfl rfl rfl (sv_indexAddrSl S rfl rfl rfl (by first | omega | (simp only [List.length_append, List.length_cons, List.length_nil]; omega))) ?_; clear S a; intro a S)
      first | (refine wpl_v S rfl rfl rfl (sv_loadO S rfl rfl (by rfl)) ?_; clear S a; intro a S) | (refine wpl_v S rfl rfl rfl (sv_loadF S rfl rfl (by assumption)) ?_; clear S a; intro a S)
      (refine wpl_callOwn (Gs := GG) (Gr := []) S rfl rfl rfl rfl rfl rfl (hcl k x GG hx hI) rfl (by simp) ?_; clear S a; intro u9 G9 a w hv S; obtain ⟨b9, rfl, hf9, ht9⟩ := hv; rw [List.append_nil] at S)
      refine wpList_nil ?_
      (refine hKq8 _ _ ?_; try (clear hKq8 Kq8))
      refine wpc_split S rfl (fun h => ?_) (fun h => ?_)
      · (skip; (try simp only [decide_eq_true_eq, decide_eq_false_iff_not, beq_iff_eq, bne_iff_ne, bne_eq_false_iff_eq, beq_eq_false_iff_ne, ne_eq, Bool.not_eq_true', Bool.not_eq_false', Bool.not_eq_true, Bool.not_eq_false, Bool.not_true, Bool.not_false, Int.ofNat_lt, Int.ofNat_le, Nat.not_lt, Nat.not_le] at h))
        (refine wp_seq_k ?_; intro Kq9 hKq9)
        refine wp_region_lit ?_
        (refine wpl_v S rfl rfl rfl (sv_pure S rfl) ?_; clear S a; intro a S)
        (refine wpl_v S rfl rfl rfl (sv_pure S rfl) ?_; clear S a; intro a S)
        refine wpList_nil ?_
        (refine hKq9 _ _ ?_; try (clear hKq9 Kq9))
        refine wp_ret ?_
        refine fin_ret S (results1 Tryd.results50 (RV.tmp S rfl)) ?_
        (first | (have hb9 : b9 = true := (by first | assumption | simpa using h); exact ⟨_, rfl, fun _ => ht9 hb9, fun h => by omega⟩) | (have hke : k = ks.length := (by omega); subst hke; exact ⟨_, rfl, fun h => by omega, fun _ => hI⟩) | trace_state)
      · (skip; (try simp only [decide_eq_true_eq, decide_eq_false_iff_not, beq_iff_eq, bne_iff_ne, bne_eq_false_iff_eq, beq_eq_false_iff_ne, ne_eq, Bool.not_eq_true', Bool.not_eq_false', Bool.not_eq_true, Bool.not_eq_false, Bool.not_true, Bool.not_false, Int.ofNat_lt, Int.ofNat_le, Nat.not_lt, Nat.not_le] at h))
        refine wp_skip ?_
        (refine hKq6 _ _ ?_; try (clear hKq6 Kq6))
        refine wp_region_lit ?_
        (refine wpl_v S rfl rfl rfl (sv_add S rfl rfl rfl (by first | omega | (simp only [List.length_append, List.length_cons, List.length_nil]; omega))) ?_; clear S a; intro a S)
        (refine wpl_v S rfl rfl rfl (sv_pure S rfl) ?_; clear S a; intro a S)
        refine wpList_nil ?_
        change ∃ m', _ ∧ _
        (have hb9 : b9 = false := (by first | assumption | simpa using h); rw [← hao] at S; refine ⟨ks.length - (k + 1), by omega, k + 1, G9, rfl, by omega, hf9 hb9, ?_⟩; refine S.keep ?_; repeat (first | exact trivial | refine ⟨rfl, ?_⟩))
    · (skip; (try simp only [decide_eq_true_eq, decide_eq_false_iff_not, beq_iff_eq, bne_iff_ne, bne_eq_false_iff_eq, beq_eq_false_iff_ne, ne_eq, Bool.not_eq_true', Bool.not_eq_false', Bool.not_eq_true, Bool.not_eq_false, Bool.not_true, Bool.not_false, Int.ofNat_lt, Int.ofNat_le, Nat.not_lt, Nat.not_le] at h))
      refine wp_exit ?_
      (refine hKq2 _ _ ?_; try (clear hKq2 Kq2))
      (refine wp_seq_k ?_; intro Kq6 hKq6)
      refine wp_region_lit ?_
      (refine wpl_v S rfl rfl rfl (sv_pure S rfl) ?_; clear S a; intro a S)
      refine wpList_nil ?_
      (refine hKq6 _ _ ?_; try (clear hKq6 Kq6))
      refine wp_ret ?_
      refine fin_ret S (results1 Tryd.results50 (RV.tmp S rfl)) ?_
      (first | (have hb9 : b9 = true := (by first | assumption | simpa using h); exact ⟨_, rfl, fun _ => ht9 hb9, fun h => by omega⟩) | (have hke : k = ks.length := (by omega); subst hke; exact ⟨_, rfl, fun h => by omega, fun _ => hI⟩) | trace_state)
theorem containsICt (F : Heap) (ks : List Nat) (v : Value) (h : SlC F v ks.length (intsN ks)) (hks : ks.length ≤ 1000000) (fid : FuncId) (fi ca : List Value) [hfn : HasFn Tryd.prog fid] (Inv : Nat → List Grp → Prop) (End : List Grp → Prop)
    (hcl : ∀ k x G, ks[k]? = some x → Inv k G → Ct Tryd.prog fid (fi ++ [.int .i64 (x : Int)] ++ ca) F G (fun _ G' u => ∃ b : Bool, u = .bool b ∧ (b = false → Inv (k + 1) G') ∧ (b = true → End G'))) (G0 : List Grp) (h0 : Inv 0 G0) :
    Ct Tryd.prog 43 [v, .func (.func fid) ⟨fi⟩ ⟨ca⟩] F G0 (fun _ G' u => ∃ b : Bool, u = .bool b ∧ (b = false → Inv ks.length G') ∧ (b = true → End G')) := by
  have hc := indexICt F ks v h hks fid fi ca Inv End hcl G0 h0
  obtain ⟨ao, cap, rfl, hcap, hpos⟩ := h
  refine Ct.enter Tryd.func43 rfl Tryd.ntmps43 rfl fun w0 a S => ?_
  (refine wp_seq_k ?_; intro Kq1 hKq1)
  refine wp_region_lit ?_
  (refine wpl_v S rfl rfl rfl (sv_pure S rfl) ?_; clear S a; intro a S)
  refine wpList_nil ?_
  (refine hKq1 _ _ ?_; try (clear hKq1 Kq1))
  (refine wp_seq_k ?_; intro Kq2 hKq2)
  refine wp_region_lit ?_
  (refine wpl_v S rfl rfl rfl (sv_pure S rfl) ?_; clear S a; intro a S)
  (refine wpl_v S rfl rfl rfl (sv_pure S rfl) ?_; clear S a; intro a S)
  (refine wpl_callOwn (Gs := G0) (Gr := []) S rfl rfl rfl rfl rfl rfl hc rfl (by simp) ?_; clear S a; intro u9 G9 a w hv S; obtain ⟨i9, rfl, ht9, hf9⟩ := hv; rw [List.append_nil] at S)
  (refine wpl_v S rfl rfl rfl (sv_pure S rfl) ?_; clear S a; intro a S)
  (refine wpl_v S rfl rfl rfl (sv_pure S rfl) ?_; clear S a; intro a S)
  refine wpList_nil ?_
  (refine hKq2 _ _ ?_; try (clear hKq2 Kq2))
  refine wp_ret ?_
  refine fin_ret S (results1 Tryd.results43 (RV.tmp S rfl)) ?_
  exact ⟨_, rfl, fun h => hf9 (by simpa using h), fun h => ht9 (by simpa using h)⟩

/-- What a look for a class within itself leaves behind. -/
structure RdP (F : Heap) (tb mb n : Nat) (nd : Nds) (A : Ab) (T T' : Tb) (GG' : List Grp) : Prop where
  nd : T'.nd = T.nd
  vs : T'.vs = T.vs
  tab : TabM F tb mb T' n GG'
  abr : AbR n T'.pa T'.st T'.le A
def RoundCt (F : Heap) (tb mb n : Nat) (nd : Nds) (A : Ab) (m : Nat) : Prop := ∀ (T : Tb) (GG : List Grp) (i ms : Nat) (l : List (Int × Int)), unv l n < m → T.nd = nd → TabM F tb mb T n GG → AbR n T.pa T.st T.le A → i < n → Mk nd A l →
  Ct Tryd.prog 28 [.pointer (some ⟨tb, 0, none⟩), .int .i64 i, .map (some ms)] F ([(ms, mObj kI (stV l))] :: GG) (fun _ G' u => ∃ (b : Bool) (T' : Tb) (l' : List (Int × Int)) (GG' : List Grp), u = .bool b ∧ G' = [(ms, mObj kI (stV l'))] :: GG' ∧ RdP F tb mb n nd A T T' GG' ∧
    (b = false → TellM nd A l l' ∧ Fine nd A (A.rt i)) ∧ (b = true → ∀ rk, Ranked nd A rk → ¬ (∀ c : Nat, sget l (c : Int) = some 1 → rk (A.rt i) < rk c)))
theorem round1Ct (F : Heap) (tb mb n : Nat) (nd : Nds) (A : Ab) (m : Nat) (ih : RoundCt F tb mb n nd A m) (T : Tb) (GG : List Grp) (x ms b3 b5 : Nat) (l : List (Int × Int)) (hu : unv l n < m) (hnd : T.nd = nd) (hT : TabM F tb mb T n GG) (hA : AbR n T.pa T.st T.le A) (hx : x < n) (hM : Mk nd A l) :
    Ct Tryd.prog 44 ([] ++ [.int .i64 (x : Int)] ++ [.pointer (some ⟨b3, 0, none⟩), .pointer (some ⟨b5, 0, none⟩)]) F ([(b5, .cells ⟨[.map (some ms)]⟩ 57 (0, 0))] :: [(b3, .cells ⟨[.pointer (some ⟨tb, 0, none⟩)]⟩ 25 (0, 0))] :: [(ms, mObj kI (stV l))] :: GG) (fun _ G' u => ∃ (b : Bool) (T' : Tb) (l' : List (Int × Int)) (GG' : List Grp), u = .bool b ∧ G' = [(b5, .cells ⟨[.map (some ms)]⟩ 57 (0, 0))] :: [(b3, .cells ⟨[.pointer (some ⟨tb, 0, none⟩)]⟩ 25 (0, 0))] :: [(ms, mObj kI (stV l'))] :: GG' ∧ RdP F tb mb n nd A T T' GG' ∧
    (b = false → TellM nd A l l' ∧ Fine nd A (A.rt x)) ∧ (b = true → ∀ rk, Ranked nd A rk → ¬ (∀ c : Nat, sget l (c : Int) = some 1 → rk (A.rt x) < rk c))) := by
  have hc := ih T GG x ms l hu hnd hT hA hx hM
  refine Ct.enter Tryd.func44 rfl Tryd.ntmps44 rfl fun w0 a S => ?_
  (refine wp_seq_k ?_; intro Kq1 hKq1)
  refine wp_region_lit ?_
  (refine wpl_v S rfl rfl rfl (sv_pure S rfl) ?_; clear S a; intro a S)
  refine wpList_nil ?_
  (refine hKq1 _ _ ?_; try (clear hKq1 Kq1))
  (refine wp_seq_k ?_; intro Kq2 hKq2)
  refine wp_region_lit ?_
  first | (refine wpl_v S rfl rfl rfl (sv_loadO S rfl rfl (by rfl)) ?_; clear S a; intro a S) | (refine wpl_v S rfl rfl rfl (sv_loadF S rfl rfl (by assumption)) ?_; clear S a; intro a S)
  (refine wpl_v S rfl rfl rfl (sv_pure S rfl) ?_; clear S a; intro a S)
  first | (refine wpl_v S rfl rfl rfl (sv_loadO S rfl rfl (by rfl)) ?_; clear S a; intro a S) | (refine wpl_v S rfl rfl rfl (sv_loadF S rfl rfl (by assumption)) ?_; clear S a; intro a S)
  (refine wpl_callOwn (Gs := [(ms, mObj kI (stV l))] :: GG) (Gr := [[(b5, .cells ⟨[.map (some ms)]⟩ 57 (0, 0))], [(b3, .cells ⟨[.pointer (some ⟨tb, 0, none⟩)]⟩ 25 (0, 0))]]) S rfl rfl rfl rfl rfl rfl hc rfl (grp_perm (A := [[(b5, .cells ⟨[.map (some ms)]⟩ 57 (0, 0))], [(b3, .cells ⟨[.pointer (some ⟨tb, 0, none⟩)]⟩ 25 (0, 0))]])) ?_; clear S a; intro u9 G9 a w hv S; obtain ⟨b9, T9, l9, GG9, rfl, rfl, hv⟩ := hv; replace S : St _ _ _ _ _ F ([(b5, .cells ⟨[.map (some ms)]⟩ 57 (0, 0))] :: [(b3, .cells ⟨[.pointer (some ⟨tb, 0, none⟩)]⟩ 25 (0, 0))] :: [(ms, mObj kI (stV l9))] :: GG9) _ _ := St.rotL S)
  (refine wpl_v S rfl rfl rfl (sv_pure S rfl) ?_; clear S a; intro a S)
  refine wpList_nil ?_
  (refine hKq2 _ _ ?_; try (clear hKq2 Kq2))
  refine wp_ret ?_
  refine fin_ret S (results1 Tryd.results44 (RV.tmp S rfl)) ?_
  exact ⟨b9, T9, l9, GG9, rfl, rfl, hv⟩
theorem getD1 {o : Option Int} (h : o.getD 0 = 1) : o = some 1 := by cases o <;> simp_all
theorem getD2 {o : Option Int} (h : o.getD 0 = 2) : o = some 2 := by cases o <;> simp_all
theorem sgetN {nd : Nds} {A : Ab} {l : List (Int × Int)} {c : Int} (hM : Mk nd A l) (h2 : ¬ (sget l c).getD 0 = 2) (h1 : ¬ (sget l c).getD 0 = 1) : sget l c = none := by
  cases hs : sget l c with
  | none => rfl
  | some v =>
    rw [hs] at h1 h2
    rcases hM.v12 _ _ hs with rfl | rfl
    · exact absurd rfl h1
    · exact absurd rfl h2
theorem roundParts (F : Heap) (tb mb n : Nat) (nd : Nds) (A : Ab) (m : Nat) (hnn : nd.length = n) (hW : AbW nd A) (ih : RoundCt F tb mb n nd A m) (T : Tb) (GG : List Grp) (i ms b3 b5 u : Nat) (l : List (Int × Int)) (nm1 : List UInt8) (ks1 : List Nat) (vk1 : Value)
    (hu : unv l n < m + 1) (hnd : T.nd = nd) (hT : TabM F tb mb T n GG) (hA : AbR n T.pa T.st T.le A) (hcn : A.rt i < n) (hrr : A.rt (A.rt i) = A.rt i) (hM : Mk nd A l) (hq0 : sget l (A.rt i : Int) = none) (hst : A.st (A.rt i) = (u : Int)) (hk1 : nd[u]? = some (nm1, ks1)) (hsl1 : SlC F vk1 ks1.length (intsN ks1)) :
    Ct Tryd.prog 43 [vk1, .func (.func 44) ⟨[]⟩ ⟨[.pointer (some ⟨b3, 0, none⟩), .pointer (some ⟨b5, 0, none⟩)]⟩] F ([(b5, .cells ⟨[.map (some ms)]⟩ 57 (0, 0))] :: [(b3, .cells ⟨[.pointer (some ⟨tb, 0, none⟩)]⟩ 25 (0, 0))] :: [(ms, mObj kI (stV (sset l (A.rt i : Int) 1)))] :: GG) (fun _ G' u => ∃ b : Bool, u = .bool b ∧
      (b = false → ∃ T' l' GG', G' = [(b5, .cells ⟨[.map (some ms)]⟩ 57 (0, 0))] :: [(b3, .cells ⟨[.pointer (some ⟨tb, 0, none⟩)]⟩ 25 (0, 0))] :: [(ms, mObj kI (stV l'))] :: GG' ∧ RdP F tb mb n nd A T T' GG' ∧ TellM nd A (sset l (A.rt i : Int) 1) l' ∧ Fine nd A (A.rt i)) ∧
      (b = true → ∃ T' l' GG', G' = [(b5, .cells ⟨[.map (some ms)]⟩ 57 (0, 0))] :: [(b3, .cells ⟨[.pointer (some ⟨tb, 0, none⟩)]⟩ 25 (0, 0))] :: [(ms, mObj kI (stV l'))] :: GG' ∧ RdP F tb mb n nd A T T' GG' ∧ ∀ rk, Ranked nd A rk → ¬ (∀ c : Nat, sget l (c : Int) = some 1 → rk (A.rt i) < rk c))) := by
  have hch1 := hW.ch _ _ _ hk1
  have hk1' : nd[(A.st (A.rt i)).toNat]? = some (nm1, ks1) := by rw [hst, Int.toNat_natCast]; exact hk1
  have hun : unv (sset l (A.rt i : Int) 1) n < unv l n := unv_lt (c := A.rt i) (fun x hx => by rw [sget_sset] at hx; split at hx; cases hx; exact hx) hcn hq0 (by rw [sget_sset, if_pos rfl]; simp)
  refine Ct.mono (containsICt F ks1 vk1 hsl1 (by omega) 44 [] [.pointer (some ⟨b3, 0, none⟩), .pointer (some ⟨b5, 0, none⟩)]
    (fun k G => ∃ T' l' GG', G = [(b5, .cells ⟨[.map (some ms)]⟩ 57 (0, 0))] :: [(b3, .cells ⟨[.pointer (some ⟨tb, 0, none⟩)]⟩ 25 (0, 0))] :: [(ms, mObj kI (stV l'))] :: GG' ∧ RdP F tb mb n nd A T T' GG' ∧ TellM nd A (sset l (A.rt i : Int) 1) l' ∧ ∀ j x, j < k → ks1[j]? = some x → Fine nd A (A.rt x))
    (fun G => ∃ T' l' GG', G = [(b5, .cells ⟨[.map (some ms)]⟩ 57 (0, 0))] :: [(b3, .cells ⟨[.pointer (some ⟨tb, 0, none⟩)]⟩ 25 (0, 0))] :: [(ms, mObj kI (stV l'))] :: GG' ∧ RdP F tb mb n nd A T T' GG' ∧ ∀ rk, Ranked nd A rk → ¬ (∀ c : Nat, sget l (c : Int) = some 1 → rk (A.rt i) < rk c))
    (fun k x G hx hI => ?_) _ ⟨T, _, GG, rfl, ⟨rfl, rfl, hT, hA⟩, TellM.refl (hM.enter _), fun j x hj => absurd hj (Nat.not_lt_zero _)⟩) ?_
  · obtain ⟨T', l', GG', rfl, hR, hTo, hF⟩ := hI
    have hxm : x ∈ ks1 := List.mem_of_getElem? hx
    have hxn := hch1.1 x hxm
    have hle := unv_le (n := n) hTo.more
    refine Ct.mono (round1Ct F tb mb n nd A m ih T' GG' x ms b3 b5 l' (by omega) (hR.nd.trans hnd) hR.tab hR.abr (by omega) hTo.ok) ?_
    rintro F' G' v ⟨b, T'', l'', GG'', rfl, rfl, hR2, hf, ht⟩
    refine ⟨b, rfl, fun hb => ⟨T'', l'', GG'', rfl, ⟨hR2.nd.trans hR.nd, hR2.vs.trans hR.vs, hR2.tab, hR2.abr⟩, hTo.trans (hf hb).1, fun j y hj hy => ?_⟩, fun hb => ⟨T'', l'', GG'', rfl, ⟨hR2.nd.trans hR.nd, hR2.vs.trans hR.vs, hR2.tab, hR2.abr⟩, fun rk hrk hall => ht hb rk hrk fun c hc => ?_⟩⟩
    · rcases Nat.lt_or_eq_of_le (Nat.le_of_lt_succ hj) with h | h
      · exact hF j y h hy
      · subst h; rw [hx] at hy; cases hy; exact (hf hb).2
    · have h1 : rk (A.rt x) < rk (A.rt i) := hrk (A.rt i) nm1 ks1 (by omega) hrr (by omega) hk1' x hxm
      rw [hTo.one, sget_sset] at hc
      split at hc
      · rename_i e
        have : c = A.rt i := by omega
        subst this; exact h1
      · have := hall c hc; omega
  · rintro F' G' v ⟨b, rfl, hf, ht⟩
    refine ⟨b, rfl, fun hb => ?_, ht⟩
    obtain ⟨T', l', GG', rfl, hR, hTo, hF⟩ := hf hb
    refine ⟨T', l', GG', rfl, hR, hTo, .node (by omega) hk1' fun k hk => ?_⟩
    obtain ⟨j, hj, rfl⟩ := List.getElem_of_mem hk
    exact hF j _ hj (List.getElem?_eq_getElem hj)
set_option maxRecDepth 20000 in
set_option maxHeartbeats 16000000 in
theorem roundCt (F : Heap) (tb mb n : Nat) (nd : Nds) (A : Ab) (hnn : nd.length = n) (hn : n ≤ 10000000) (hW : AbW nd A) : ∀ m, RoundCt F tb mb n nd A m := by
  intro m
  induction m with
  | zero => intro T GG i ms l hu; omega
  | succ m ih =>
  intro T GG i ms l hu hnd hTab hA hi hM
  have ih1 := round1Ct F tb mb n nd A m ih
  obtain ⟨ka, hka⟩ := hA.rt i hi
  have hWa := hW.rr i (by omega)
  have hcn : A.rt i < n := by omega
  have hst := hA.st _ hcn
  have hsvx := hW.sv _ (show A.rt i < nd.length by omega)
  refine Ct.enter Tryd.func28 rfl Tryd.ntmps28 rfl fun w0 a S => ?_
  (refine wp_seq_k ?_; intro Kq1 hKq1)
  refine wp_region_lit ?_
  (refine wpl_box S rfl rfl rfl rfl rfl ?_; clear S a; intro b3 a w S)
  (refine wpl_box S rfl rfl rfl rfl rfl ?_; clear S a; intro b5 a w S)
  (refine wpl_v S rfl rfl rfl (sv_pure S rfl) ?_; clear S a; intro a S)
  refine wpList_nil ?_
  (refine hKq1 _ _ ?_; try (clear hKq1 Kq1))
  (refine wp_seq_k ?_; intro Kq2 hKq2)
  refine wp_region_lit ?_
  first | (refine wpl_v S rfl rfl rfl (sv_loadO S rfl rfl (by rfl)) ?_; clear S a; intro a S) | (refine wpl_v S rfl rfl rfl (sv_loadF S rfl rfl (by assumption)) ?_; clear S a; intro a S) | (refine wpl_v S rfl rfl rfl (sv_loadO S rfl rfl (ini hst)) ?_; clear S a; intro a S)
  (refine wpl_v S rfl rfl rfl (sv_pure S rfl) ?_; clear S a; intro a S)
  (refine wpl_callOwn (Gs := GG) (Gr := [[(b5, _)], [(b3, _)], [(ms, _)]]) S rfl rfl rfl rfl rfl rfl (findCt F tb mb T n GG i (A.rt i) ka (by omega) hTab hka) rfl (grp_perm (A := [[(b5, _)], [(b3, _)], [(ms, _)]])) ?_; clear S a; intro u9 GG1 a w hv S; obtain ⟨rfl, pa1, hpa1, hTab1⟩ := hv; have hA1 : AbR n pa1 T.st T.le A := hA.find hpa1; have hpl := hA1.pl; have hsl0 := hA1.sl; have hll0 := hA1.ll; have hTab9 := hTab1; obtain ⟨vn, vp, vt, vl, told, gn, gp, gs, gl, rfl, ⟨xsn, hN, hNd⟩, hP, hS, hL⟩ := hTab1; replace hNd : NdC F xsn T.nd := hNd; replace hP : OwnS _ _ vp n (intsN pa1) gp := hP; replace hS : OwnS _ _ vt n (intsI T.st) gs := hS; replace hL : OwnS _ _ vl n (strs T.le) gl := hL; obtain ⟨bn, cn, exn, rfl, rfl, hcn1, hcn2, hcn3, hcn4⟩ := ownS_blkN hN (by omega); obtain ⟨bp, cp, exp, rfl, rfl, hcp1, hcp2, hcp3, hcp4⟩ := ownS_blkN hP (by omega); obtain ⟨bs1, cs, exs, rfl, rfl, hcs1, hcs2, hcs3, hcs4⟩ := ownS_blkN hS (by omega); obtain ⟨bl, cl, exl, rfl, rfl, hcl1, hcl2, hcl3, hcl4⟩ := ownS_blkN hL (by omega); replace S : St _ _ _ _ _ F [[(b5, _)], [(b3, _)], [(ms, _)], [(tb, .cells ⟨[.slice (some ⟨bn, 0, none⟩) n cn, .map (some mb), .slice (some ⟨bp, 0, none⟩) n cp, .slice (some ⟨bs1, 0, none⟩) n cs, .slice (some ⟨bl, 0, none⟩) n cl, .int .i64 told]⟩ 47 (0, 0))], [(mb, mObj kS (mapV T.vs))], [(bn, .cells ⟨xsn ++ exn⟩ 66 (0, 0))], [(bp, .cells ⟨intsN pa1 ++ exp⟩ 3 (0, 0))], [(bs1, .cells ⟨intsI T.st ++ exs⟩ 3 (0, 0))], [(bl, .cells ⟨strs T.le ++ exl⟩ 9 (0, 0))]] _ _ := St.rotL S)
  (refine wpl_v S rfl rfl rfl (sv_pure S rfl) ?_; clear S a; intro a S)
  refine wpList_nil ?_
  (refine hKq2 _ _ ?_; try (clear hKq2 Kq2))
  (refine wp_seq_k ?_; intro Kq3 hKq3)
  refine wp_block ?_
  (refine wp_seq_k ?_; intro Kq4 hKq4)
  refine wp_region_lit ?_
  first | (refine wpl_v S rfl rfl rfl (sv_loadO S rfl rfl (by rfl)) ?_; clear S a; intro a S) | (refine wpl_v S rfl rfl rfl (sv_loadF S rfl rfl (by assumption)) ?_; clear S a; intro a S) | (refine wpl_v S rfl rfl rfl (sv_loadO S rfl rfl (ini hst)) ?_; clear S a; intro a S)
  (refine wpl_v S rfl rfl rfl (sv_pure S rfl) ?_; clear S a; intro a S)
  first | (refine wpl_v S rfl rfl rfl (sv_lookupO (enc := kI) S rfl rfl rfl) ?_; clear S a; intro a S) | (refine wpl_v S rfl rfl rfl (sv_lookupF (enc := kI) S rfl rfl rfl (by assumption)) ?_; clear S a; intro a S)
  (rw [sval] at S)
  (refine wpl_v S rfl rfl rfl (sv_pure S rfl) ?_; clear S a; intro a S)
  (refine wpl_v S rfl rfl rfl (sv_pure S rfl) ?_; clear S a; intro a S)
  refine wpl_guard S rfl rfl rfl rfl rfl ?_ ?_
  · (intro h S'; clear S; have S := S'; clear S'; (try simp only [decide_eq_true_eq, decide_eq_false_iff_not, beq_iff_eq, bne_iff_ne, bne_eq_false_iff_eq, beq_eq_false_iff_ne, ne_eq, Bool.not_eq_true', Bool.not_eq_false', Bool.not_eq_true, Bool.not_eq_false, Bool.not_true, Bool.not_false, Int.ofNat_lt, Int.ofNat_le, Nat.not_lt, Nat.not_le] at h))
    first | (refine wpl_v S rfl rfl rfl (sv_loadO S rfl rfl (by rfl)) ?_; clear S a; intro a S) | (refine wpl_v S rfl rfl rfl (sv_loadF S rfl rfl (by assumption)) ?_; clear S a; intro a S) | (refine wpl_v S rfl rfl rfl (sv_loadO S rfl rfl (ini hst)) ?_; clear S a; intro a S)
    refine wpl_take S rfl rfl rfl ?_
    (refine wpl_v S rfl rfl rfl (sv_nilCheck S rfl rfl) ?_; clear S a; intro a S)
    refine wpl_take S rfl rfl rfl ?_
    (refine wpl_v S rfl rfl rfl (sv_fieldAddr S rfl rfl rfl inferInstance rfl) ?_; clear S a; intro a S)
    refine wpl_take S rfl rfl rfl ?_
    first | (refine wpl_v S rfl rfl rfl (sv_loadO S rfl rfl (by rfl)) ?_; clear S a; intro a S) | (refine wpl_v S rfl rfl rfl (sv_loadF S rfl rfl (by assumption)) ?_; clear S a; intro a S) | (refine wpl_v S rfl rfl rfl (sv_loadO S rfl rfl (ini hst)) ?_; clear S a; intro a S)
    refine wpl_take S rfl rfl rfl ?_
    (refine wpl_v S rfl rfl rfl (sv_pure S rfl) ?_; clear S a; intro a S)
    refine wpl_take S rfl rfl rfl ?_
    (refine wpl_v S rfl rfl rfl (sv_indexAddrSl S rfl rfl rfl (by first | omega | (simp only [List.length_append, List.length_cons, List.length_nil]; omega))) ?_; clear S a; intro a S)
    refine wpl_take S rfl rfl rfl ?_
    first | (refine wpl_v S rfl rfl rfl (sv_loadO S rfl rfl (by rfl)) ?_; clear S a; intro a S) | (refine wpl_v S rfl rfl rfl (sv_loadF S rfl rfl (by assumption)) ?_; clear S a; intro a S) | (refine wpl_v S rfl rfl rfl (sv_loadO S rfl rfl (ini hst)) ?_; clear S a; intro a S)
    refine wpl_take S rfl rfl rfl ?_
    (refine wpl_v S rfl rfl rfl (sv_pure S rfl) ?_; clear S a; intro a S)
    first | (refine wpl_v S rfl rfl rfl (sv_pure S rfl) ?_; clear S a; intro a S) | (refine wpl_v S rfl rfl rfl (sv_pickB S rfl rfl rfl rfl) ?_; clear S a; intro a S)
    (refine wpl_v S rfl rfl rfl (sv_pure S rfl) ?_; clear S a; intro a S)
    refine wpList_nil ?_
    (refine hKq4 _ _ ?_; try (clear hKq4 Kq4))
    refine wpc_split S rfl (fun h => ?_) (fun h => ?_)
    · (skip; (try simp only [decide_eq_true_eq, decide_eq_false_iff_not, beq_iff_eq, bne_iff_ne, bne_eq_false_iff_eq, beq_eq_false_iff_ne, ne_eq, Bool.not_eq_true', Bool.not_eq_false', Bool.not_eq_true, Bool.not_eq_false, Bool.not_true, Bool.not_false, Int.ofNat_lt, Int.ofNat_le, Nat.not_lt, Nat.not_le] at h))
      (refine wp_seq_k ?_; intro Kq5 hKq5)
      refine wp_region_lit ?_
      (refine wpl_v S rfl rfl rfl (sv_pure S rfl) ?_; clear S a; intro a S)
      refine wpList_nil ?_
      (refine hKq5 _ _ ?_; try (clear hKq5 Kq5))
      refine wp_ret ?_
      (first | (obtain ⟨T9, l9, GG9, rfl, hR, hnr⟩ := ht9 (by first | assumption | simpa using h); replace S := S.drop1.drop1) | (replace S := S.drop1.drop1))
      
      refine fin_ret S (results1 Tryd.results28 (RV.tmp S rfl)) ?_
      (first | (exact ⟨false, T9, sset l9 (A.rt i) 2, GG9, rfl, rfl, ⟨hR.nd, hR.vs, hR.tab, hR.abr⟩, (fun _ => ⟨TellM.leave hq0 hTo hFi, hFi⟩), (fun h => by cases h)⟩) | (exact ⟨true, T9, l9, GG9, rfl, rfl, ⟨hR.nd, hR.vs, hR.tab, hR.abr⟩, (fun h => by cases h), (fun _ => hnr)⟩) | (exact ⟨true, { T with pa := pa1 }, l, _, rfl, rfl, ⟨rfl, rfl, hTab9, hA1⟩, (fun h => by cases h), (fun _ rk hrk hall => absurd (hall (A.rt i) (getD1 (by assumption))) (Nat.lt_irrefl _))⟩) | (exact ⟨false, { T with pa := pa1 }, l, _, rfl, rfl, ⟨rfl, rfl, hTab9, hA1⟩, (fun _ => ⟨TellM.refl hM, by first | exact .var (by omega) | exact hM.fine _ (getD2 (by assumption))⟩), (fun h => by cases h)⟩) | trace_state)
    · (skip; (try simp only [decide_eq_true_eq, decide_eq_false_iff_not, beq_iff_eq, bne_iff_ne, bne_eq_false_iff_eq, beq_eq_false_iff_ne, ne_eq, Bool.not_eq_true', Bool.not_eq_false', Bool.not_eq_true, Bool.not_eq_false, Bool.not_true, Bool.not_false, Int.ofNat_lt, Int.ofNat_le, Nat.not_lt, Nat.not_le] at h))
      (refine wp_seq_k ?_; intro Kq5 hKq5)
      refine wp_region_lit ?_
      first | (refine wpl_v S rfl rfl rfl (sv_loadO S rfl rfl (by rfl)) ?_; clear S a; intro a S) | (refine wpl_v S rfl rfl rfl (sv_loadF S rfl rfl (by assumption)) ?_; clear S a; intro a S) | (refine wpl_v S rfl rfl rfl (sv_loadO S rfl rfl (ini hst)) ?_; clear S a; intro a S)
      (refine wpl_v S rfl rfl rfl (sv_pure S rfl) ?_; clear S a; intro a S)
      first | (refine wpl_v S rfl rfl rfl (sv_lookupO (enc := kI) S rfl rfl rfl) ?_; clear S a; intro a S) | (refine wpl_v S rfl rfl rfl (sv_lookupF (enc := kI) S rfl rfl rfl (by assumption)) ?_; clear S a; intro a S)
      (rw [sval] at S)
      (refine wpl_v S rfl rfl rfl (sv_pure S rfl) ?_; clear S a; intro a S)
      (refine wpl_v S rfl rfl rfl (sv_pure S rfl) ?_; clear S a; intro a S)
      refine wpList_nil ?_
      (refine hKq5 _ _ ?_; try (clear hKq5 Kq5))
      refine wpc_split S rfl (fun h => ?_) (fun h => ?_)
      · (skip; (try simp only [decide_eq_true_eq, decide_eq_false_iff_not, beq_iff_eq, bne_iff_ne, bne_eq_false_iff_eq, beq_eq_false_iff_ne, ne_eq, Bool.not_eq_true', Bool.not_eq_false', Bool.not_eq_true, Bool.not_eq_false, Bool.not_true, Bool.not_false, Int.ofNat_lt, Int.ofNat_le, Nat.not_lt, Nat.not_le] at h))
        (refine wp_seq_k ?_; intro Kq6 hKq6)
        refine wp_region_lit ?_
        (refine wpl_v S rfl rfl rfl (sv_pure S rfl) ?_; clear S a; intro a S)
        refine wpList_nil ?_
        (refine hKq6 _ _ ?_; try (clear hKq6 Kq6))
        refine wp_ret ?_
        (first | (obtain ⟨T9, l9, GG9, rfl, hR, hnr⟩ := ht9 (by first | assumption | simpa using h); replace S := S.drop1.drop1) | (replace S := S.drop1.drop1))
        
        refine fin_ret S (results1 Tryd.results28 (RV.tmp S rfl)) ?_
        (first | (exact ⟨false, T9, sset l9 (A.rt i) 2, GG9, rfl, rfl, ⟨hR.nd, hR.vs, hR.tab, hR.abr⟩, (fun _ => ⟨TellM.leave hq0 hTo hFi, hFi⟩), (fun h => by cases h)⟩) | (exact ⟨true, T9, l9, GG9, rfl, rfl, ⟨hR.nd, hR.vs, hR.tab, hR.abr⟩, (fun h => by cases h), (fun _ => hnr)⟩) | (exact ⟨true, { T with pa := pa1 }, l, _, rfl, rfl, ⟨rfl, rfl, hTab9, hA1⟩, (fun h => by cases h), (fun _ rk hrk hall => absurd (hall (A.rt i) (getD1 (by assumption))) (Nat.lt_irrefl _))⟩) | (exact ⟨false, { T with pa := pa1 }, l, _, rfl, rfl, ⟨rfl, rfl, hTab9, hA1⟩, (fun _ => ⟨TellM.refl hM, by first | exact .var (by omega) | exact hM.fine _ (getD2 (by assumption))⟩), (fun h => by cases h)⟩) | trace_state)
      · (skip; (try simp only [decide_eq_true_eq, decide_eq_false_iff_not, beq_iff_eq, bne_iff_ne, bne_eq_false_iff_eq, beq_eq_false_iff_ne, ne_eq, Bool.not_eq_true', Bool.not_eq_false', Bool.not_eq_true, Bool.not_eq_false, Bool.not_true, Bool.not_false, Int.ofNat_lt, Int.ofNat_le, Nat.not_lt, Nat.not_le] at h))
        refine wp_skip ?_
        (refine hKq3 _ _ ?_; try (clear hKq3 Kq3))
        (refine wp_seq_k ?_; intro Kq6 hKq6)
        refine wp_region_lit ?_
        first | (refine wpl_v S rfl rfl rfl (sv_loadO S rfl rfl (by rfl)) ?_; clear S a; intro a S) | (refine wpl_v S rfl rfl rfl (sv_loadF S rfl rfl (by assumption)) ?_; clear S a; intro a S) | (refine wpl_v S rfl rfl rfl (sv_loadO S rfl rfl (ini hst)) ?_; clear S a; intro a S)
        (refine wpl_v S rfl rfl rfl (sv_pure S rfl) ?_; clear S a; intro a S)
        (refine wpl_mapSet (enc := kI) S rfl rfl rfl rfl rfl rfl ?_; clear S; intro w S)
        refine wpList_nil ?_
        (refine hKq6 _ _ ?_; try (clear hKq6 Kq6))
        (refine wp_seq_k ?_; intro Kq7 hKq7)
        (refine wp_seq_k ?_; intro Kq8 hKq8)
        (have hq0 : sget l (A.rt i : Int) = none := sgetN hM (by assumption) (by assumption); rw [stV_sset] at S; obtain ⟨u, hu9⟩ : ∃ u : Nat, A.st (A.rt i) = (u : Int) := ⟨_, (Int.toNat_of_nonneg (by omega)).symm⟩; rw [hu9] at hst hsvx; obtain ⟨⟨nm1, ks1⟩, hk1⟩ : ∃ x, nd[u]? = some x := ⟨_, List.getElem?_eq_getElem (by omega)⟩; obtain ⟨vk1, hg1, hsl1⟩ := ndc_get (ex := exn) hNd (by rw [hnd]; exact hk1); (simp only at hg1 hsl1); have hcf := roundParts F tb mb n nd A m hnn hW ih { T with pa := pa1 } _ i ms b3 b5 u l nm1 ks1 vk1 hu hnd hTab9 hA1 hcn hWa.2 hM hq0 hu9 hk1 hsl1)
        (refine wpc_mixM [0, 1, 2, 3, 4, 5, 6, 7, 8, 9, 10, 11, 12, 13, 14] [0, 3, 4, 7, 10, 13] [15] (.one 0 (.one 1 (.one 2 (.one 3 (.one 4 (.one 5 (.one 6 (.one 7 (.one 8 (.one 9 (.one 10 (.one 11 (.one 12 (.one 13 (.one 14 (.one 15 .nil)))))))))))))))) [b3, tb, bs1, bn] S mixed (by kernel_rfl) ?_; clear S; intro w S)
        first | (refine wpm_lateO b3 S rfl rfl rfl (want_none _ rfl) rfl rfl (fun w' S => sv_loadO S rfl rfl (by rfl)) ?_; clear S a; intro a S) | (refine wpm_lateO b3 S rfl rfl rfl (want_none _ rfl) rfl rfl (fun w' S => sv_loadAO S rfl rfl (by rfl)) ?_; clear S a; intro a S)
        (refine wpm_v S rfl rfl rfl (want_none _ rfl) rfl rfl (fun w' S => sv_nilCheck S rfl rfl) ?_; clear S a; intro a S)
        (refine wpm_v S rfl rfl rfl (want_none _ rfl) rfl rfl (fun w' S => sv_fieldAddr S rfl rfl rfl inferInstance rfl) ?_; clear S a; intro a S)
        first | (refine wpm_lateO tb S rfl rfl rfl (want_none _ rfl) rfl rfl (fun w' S => sv_loadO S rfl rfl (by rfl)) ?_; clear S a; intro a S) | (refine wpm_lateO tb S rfl rfl rfl (want_none _ rfl) rfl rfl (fun w' S => sv_loadAO S rfl rfl (by rfl)) ?_; clear S a; intro a S)
        first | (refine wpm_lateO b3 S rfl rfl rfl (want_none _ rfl) rfl rfl (fun w' S => sv_loadO S rfl rfl (by rfl)) ?_; clear S a; intro a S) | (refine wpm_lateO b3 S rfl rfl rfl (want_none _ rfl) rfl rfl (fun w' S => sv_loadAO S rfl rfl (by rfl)) ?_; clear S a; intro a S)
        (refine wpm_v S rfl rfl rfl (want_none _ rfl) rfl rfl (fun w' S => sv_nilCheck S rfl rfl) ?_; clear S a; intro a S)
        (refine wpm_v S rfl rfl rfl (want_none _ rfl) rfl rfl (fun w' S => sv_fieldAddr S rfl rfl rfl inferInstance rfl) ?_; clear S a; intro a S)
        first | (refine wpm_lateO tb S rfl rfl rfl (want_none _ rfl) rfl rfl (fun w' S => sv_loadO S rfl rfl (by rfl)) ?_; clear S a; intro a S) | (refine wpm_lateO tb S rfl rfl rfl (want_none _ rfl) rfl rfl (fun w' S => sv_loadAO S rfl rfl (by rfl)) ?_; clear S a; intro a S)
        (refine wpm_v S rfl rfl rfl (want_none _ rfl) rfl rfl (fun w' S => sv_pure S rfl) ?_; clear S a; intro a S)
        (refine wpm_v S rfl rfl rfl (want_none _ rfl) rfl rfl (fun w' S => sv_indexAddrSl S rfl rfl rfl (by first | omega | (simp only [List.length_append, List.length_cons, List.length_nil]; omega))) ?_; clear S a; intro a S)
        (refine wpm_lateO bs1 S rfl rfl rfl (want_none _ rfl) rfl rfl (fun w' S => sv_loadO S rfl rfl (ini hst)) ?_; clear S a; intro a S)
        (refine wpm_v S rfl rfl rfl (want_none _ rfl) rfl rfl (fun w' S => sv_indexAddrSl S rfl rfl rfl (by first | omega | (simp only [List.length_append, List.length_cons, List.length_nil]; omega))) ?_; clear S a; intro a S)
        (refine wpm_v S rfl rfl rfl (want_none _ rfl) rfl rfl (fun w' S => sv_fieldAddr S rfl rfl rfl inferInstance rfl) ?_; clear S a; intro a S)
        (refine wpm_lateO bn S rfl rfl rfl (want_none _ rfl) rfl rfl (fun w' S => sv_loadO S rfl rfl (hg1 1 _ rfl)) ?_; clear S a; intro a S)
        (refine wpm_v S rfl rfl rfl (want_none _ rfl) rfl rfl (fun w' S => sv_pure S rfl) ?_; clear S a; intro a S)
        refine wpm_eff rfl rfl (fun _ => ⟨fun b o h => S.tr.frz b o (by first | exact h | solve_by_elim), S.has inferInstance, S.has inferInstance, S.has inferInstance, S.has inferInstance, trivial⟩) ?_
        (replace S : St _ _ _ _ _ F ([(b5, .cells ⟨[.map (some ms)]⟩ 57 (0, 0))] :: [(b3, .cells ⟨[.pointer (some ⟨tb, 0, none⟩)]⟩ 25 (0, 0))] :: [(ms, mObj kI (stV (sset l (A.rt i : Int) 1)))] :: [[(tb, .cells ⟨[.slice (some ⟨bn, 0, none⟩) n cn, .map (some mb), .slice (some ⟨bp, 0, none⟩) n cp, .slice (some ⟨bs1, 0, none⟩) n cs, .slice (some ⟨bl, 0, none⟩) n cl, .int .i64 told]⟩ 47 (0, 0))], [(mb, mObj kS (mapV T.vs))], [(bn, .cells ⟨xsn ++ exn⟩ 66 (0, 0))], [(bp, .cells ⟨intsN pa1 ++ exp⟩ 3 (0, 0))], [(bs1, .cells ⟨intsI T.st ++ exs⟩ 3 (0, 0))], [(bl, .cells ⟨strs T.le ++ exl⟩ 9 (0, 0))]]) _ _ := S; refine wpl_callOwn (Gs := [(b5, .cells ⟨[.map (some ms)]⟩ 57 (0, 0))] :: [(b3, .cells ⟨[.pointer (some ⟨tb, 0, none⟩)]⟩ 25 (0, 0))] :: [(ms, mObj kI (stV (sset l (A.rt i : Int) 1)))] :: [[(tb, .cells ⟨[.slice (some ⟨bn, 0, none⟩) n cn, .map (some mb), .slice (some ⟨bp, 0, none⟩) n cp, .slice (some ⟨bs1, 0, none⟩) n cs, .slice (some ⟨bl, 0, none⟩) n cl, .int .i64 told]⟩ 47 (0, 0))], [(mb, mObj kS (mapV T.vs))], [(bn, .cells ⟨xsn ++ exn⟩ 66 (0, 0))], [(bp, .cells ⟨intsN pa1 ++ exp⟩ 3 (0, 0))], [(bs1, .cells ⟨intsI T.st ++ exs⟩ 3 (0, 0))], [(bl, .cells ⟨strs T.le ++ exl⟩ 9 (0, 0))]]) (Gr := []) S rfl rfl rfl rfl rfl rfl hcf rfl (by rw [List.flatten_nil, List.append_nil]) ?_; clear S a; intro u9 G9 a w hv S; obtain ⟨b9, rfl, hf9, ht9⟩ := hv; rw [List.append_nil] at S)
        refine wpList_nil ?_
        refine wpm_nil (fun h => absurd h (by decide)) ?_
        (refine hKq8 _ _ ?_; try (clear hKq8 Kq8))
        refine wpc_split S rfl (fun h => ?_) (fun h => ?_)
        · (skip; (try simp only [decide_eq_true_eq, decide_eq_false_iff_not, beq_iff_eq, bne_iff_ne, bne_eq_false_iff_eq, beq_eq_false_iff_ne, ne_eq, Bool.not_eq_true', Bool.not_eq_false', Bool.not_eq_true, Bool.not_eq_false, Bool.not_true, Bool.not_false, Int.ofNat_lt, Int.ofNat_le, Nat.not_lt, Nat.not_le] at h))
          (refine wp_seq_k ?_; intro Kq9 hKq9)
          refine wp_region_lit ?_
          (refine wpl_v S rfl rfl rfl (sv_pure S rfl) ?_; clear S a; intro a S)
          refine wpList_nil ?_
          (refine hKq9 _ _ ?_; try (clear hKq9 Kq9))
          refine wp_ret ?_
          (first | (obtain ⟨T9, l9, GG9, rfl, hR, hnr⟩ := ht9 (by first | assumption | simpa using h); replace S := S.drop1.drop1) | (replace S := S.drop1.drop1))
          
          refine fin_ret S (results1 Tryd.results28 (RV.tmp S rfl)) ?_
          (first | (exact ⟨false, T9, sset l9 (A.rt i) 2, GG9, rfl, rfl, ⟨hR.nd, hR.vs, hR.tab, hR.abr⟩, (fun _ => ⟨TellM.leave hq0 hTo hFi, hFi⟩), (fun h => by cases h)⟩) | (exact ⟨true, T9, l9, GG9, rfl, rfl, ⟨hR.nd, hR.vs, hR.tab, hR.abr⟩, (fun h => by cases h), (fun _ => hnr)⟩) | (exact ⟨true, { T with pa := pa1 }, l, _, rfl, rfl, ⟨rfl, rfl, hTab9, hA1⟩, (fun h => by cases h), (fun _ rk hrk hall => absurd (hall (A.rt i) (getD1 (by assumption))) (Nat.lt_irrefl _))⟩) | (exact ⟨false, { T with pa := pa1 }, l, _, rfl, rfl, ⟨rfl, rfl, hTab9, hA1⟩, (fun _ => ⟨TellM.refl hM, by first | exact .var (by omega) | exact hM.fine _ (getD2 (by assumption))⟩), (fun h => by cases h)⟩) | trace_state)
        · (skip; (try simp only [decide_eq_true_eq, decide_eq_false_iff_not, beq_iff_eq, bne_iff_ne, bne_eq_false_iff_eq, beq_eq_false_iff_ne, ne_eq, Bool.not_eq_true', Bool.not_eq_false', Bool.not_eq_true, Bool.not_eq_false, Bool.not_true, Bool.not_false, Int.ofNat_lt, Int.ofNat_le, Nat.not_lt, Nat.not_le] at h))
          refine wp_skip ?_
          (refine hKq7 _ _ ?_; try (clear hKq7 Kq7))
          (refine wp_seq_k ?_; intro Kq9 hKq9)
          (obtain ⟨T9, l9, GG9, rfl, hR, hTo, hFi⟩ := hf9 (by first | assumption | simpa using h))
          refine wp_region_lit ?_
          first | (refine wpl_v S rfl rfl rfl (sv_loadO S rfl rfl (by rfl)) ?_; clear S a; intro a S) | (refine wpl_v S rfl rfl rfl (sv_loadF S rfl rfl (by assumption)) ?_; clear S a; intro a S) | (refine wpl_v S rfl rfl rfl (sv_loadO S rfl rfl (ini hst)) ?_; clear S a; intro a S)
          (refine wpl_v S rfl rfl rfl (sv_pure S rfl) ?_; clear S a; intro a S)
          (refine wpl_mapSet (enc := kI) S rfl rfl rfl rfl rfl rfl ?_; clear S; intro w S)
          refine wpList_nil ?_
          (refine hKq9 _ _ ?_; try (clear hKq9 Kq9))
          (refine wp_seq_k ?_; intro Kq10 hKq10)
          (rw [stV_sset] at S)
          refine wp_region_lit ?_
          (refine wpl_v S rfl rfl rfl (sv_pure S rfl) ?_; clear S a; intro a S)
          refine wpList_nil ?_
          (refine hKq10 _ _ ?_; try (clear hKq10 Kq10))
          refine wp_ret ?_
          (first | (obtain ⟨T9, l9, GG9, rfl, hR, hnr⟩ := ht9 (by first | assumption | simpa using h); replace S := S.drop1.drop1) | (replace S := S.drop1.drop1))
          
          refine fin_ret S (results1 Tryd.results28 (RV.tmp S rfl)) ?_
          (first | (exact ⟨false, T9, sset l9 (A.rt i) 2, GG9, rfl, rfl, ⟨hR.nd, hR.vs, hR.tab, hR.abr⟩, (fun _ => ⟨TellM.leave hq0 hTo hFi, hFi⟩), (fun h => by cases h)⟩) | (exact ⟨true, T9, l9, GG9, rfl, rfl, ⟨hR.nd, hR.vs, hR.tab, hR.abr⟩, (fun h => by cases h), (fun _ => hnr)⟩) | (exact ⟨true, { T with pa := pa1 }, l, _, rfl, rfl, ⟨rfl, rfl, hTab9, hA1⟩, (fun h => by cases h), (fun _ rk hrk hall => absurd (hall (A.rt i) (getD1 (by assumption))) (Nat.lt_irrefl _))⟩) | (exact ⟨false, { T with pa := pa1 }, l, _, rfl, rfl, ⟨rfl, rfl, hTab9, hA1⟩, (fun _ => ⟨TellM.refl hM, by first | exact .var (by omega) | exact hM.fine _ (getD2 (by assumption))⟩), (fun h => by cases h)⟩) | trace_state)
  · (intro h; clear S a; intro a S; (try simp only [decide_eq_true_eq, decide_eq_false_iff_not, beq_iff_eq, bne_iff_ne, bne_eq_false_iff_eq, beq_eq_false_iff_ne, ne_eq, Bool.not_eq_true', Bool.not_eq_false', Bool.not_eq_true, Bool.not_eq_false, Bool.not_true, Bool.not_false, Int.ofNat_lt, Int.ofNat_le, Nat.not_lt, Nat.not_le] at h))
    (refine wpl_skip S rfl rfl rfl rfl rfl ?_; clear S a; intro a S)
    (refine wpl_skip S rfl rfl rfl rfl rfl ?_; clear S a; intro a S)
    (refine wpl_skip S rfl rfl rfl rfl rfl ?_; clear S a; intro a S)
    (refine wpl_skip S rfl rfl rfl rfl rfl ?_; clear S a; intro a S)
    (refine wpl_skip S rfl rfl rfl rfl rfl ?_; clear S a; intro a S)
    (refine wpl_skip S rfl rfl rfl rfl rfl ?_; clear S a; intro a S)
    (refine wpl_skip S rfl rfl rfl rfl rfl ?_; clear S a; intro a S)
    first | (refine wpl_v S rfl rfl rfl (sv_pure S rfl) ?_; clear S a; intro a S) | (refine wpl_v S rfl rfl rfl (sv_pickB S rfl rfl rfl rfl) ?_; clear S a; intro a S)
    (refine wpl_v S rfl rfl rfl (sv_pure S rfl) ?_; clear S a; intro a S)
    refine wpList_nil ?_
    (refine hKq4 _ _ ?_; try (clear hKq4 Kq4))
    refine wpc_true S rfl ?_
    (refine wp_seq_k ?_; intro Kq5 hKq5)
    refine wp_region_lit ?_
    (refine wpl_v S rfl rfl rfl (sv_pure S rfl) ?_; clear S a; intro a S)
    refine wpList_nil ?_
    (refine hKq5 _ _ ?_; try (clear hKq5 Kq5))
    refine wp_ret ?_
    (first | (obtain ⟨T9, l9, GG9, rfl, hR, hnr⟩ := ht9 (by first | assumption | simpa using h); replace S := S.drop1.drop1) | (replace S := S.drop1.drop1))
    
    refine fin_ret S (results1 Tryd.results28 (RV.tmp S rfl)) ?_
    (first | (exact ⟨false, T9, sset l9 (A.rt i) 2, GG9, rfl, rfl, ⟨hR.nd, hR.vs, hR.tab, hR.abr⟩, (fun _ => ⟨TellM.leave hq0 hTo hFi, hFi⟩), (fun h => by cases h)⟩) | (exact ⟨true, T9, l9, GG9, rfl, rfl, ⟨hR.nd, hR.vs, hR.tab, hR.abr⟩, (fun h => by cases h), (fun _ => hnr)⟩) | (exact ⟨true, { T with pa := pa1 }, l, _, rfl, rfl, ⟨rfl, rfl, hTab9, hA1⟩, (fun h => by cases h), (fun _ rk hrk hall => absurd (hall (A.rt i) (getD1 (by assumption))) (Nat.lt_irrefl _))⟩) | (exact ⟨false, { T with pa := pa1 }, l, _, rfl, rfl, ⟨rfl, rfl, hTab9, hA1⟩, (fun _ => ⟨TellM.refl hM, by first | exact .var (by omega) | exact hM.fine _ (getD2 (by assumption))⟩), (fun h => by cases h)⟩) | trace_state)
end Go.Proofs.YtcjnmehpkcblfaaDoor
