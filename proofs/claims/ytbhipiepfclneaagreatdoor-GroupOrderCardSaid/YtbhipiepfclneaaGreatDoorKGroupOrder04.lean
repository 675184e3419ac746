/- Walks. -/
import Derived.Test.YtbhipiepfclneaaGreatDoorKGroupOrder03
import Derived.Test.YtbhipiepfclneaaGreatDoorQ29
set_option maxHeartbeats 16000000
namespace Go.Proofs.YtbhipiepfclneaaGreatDoor
open Go Go.Wk Go.Un Go.De Go.Num
set_option linter.unusedSimpArgs false
set_option linter.unusedVariables false
attribute [local irreducible] Go.wpList Go.Code.wp Go.wpStill Go.Wk.wpPre Go.bodyPost Go.Calls Go.Wk.Ct Go.Wk.OwnS Go.Wk.wpG Go.Wk.wpM
theorem vals_atB {P D : List Value} {A B : List Vr} {k : Nat} {z : Vr} (h : B[k]? = some z) : (P ++ (vals A ++ (vals B ++ D)))[P.length + A.length + k]? = some z.1 := by
 have := vals_at (P := P ++ vals A) (D := D) h
 rw [List.length_append, vals_len, List.append_assoc] at this
 exact this
def SymP (F : Heap) (bd n cap : Nat) (T : TypeId) (fid : FuncId) (fi ca : List Value) (Q : Vr → Prop) (c : Vr → Vr → Int) (N : Nat) : Prop :=
 ∀ (P D : List Value) (A B : List Vr) (pa pm pb : Nat), A.length + B.length < N → 0 < A.length → 0 < B.length → (∀ y ∈ A, Q y) → (∀ y ∈ B, Q y) → Srt (ltC c) A → Srt (ltC c) B → pa = P.length → pm = P.length + A.length → pb = P.length + A.length + B.length → pb ≤ n → n ≤ P.length + A.length + B.length + D.length →
  Ct Tryz.prog 157 [.slice (some ⟨bd, 0, none⟩) n cap, .int .i64 (pa : Nat), .int .i64 (pm : Nat), .int .i64 (pb : Nat), .func (.func fid) ⟨fi⟩ ⟨ca⟩] F [[(bd, .cells ⟨P ++ (vals A ++ (vals B ++ D))⟩ T (0, 0))]]
   (fun _ G' u => ∃ Y : List Vr, Y.Perm (A ++ B) ∧ Srt (ltC c) Y ∧ G' = [[(bd, .cells ⟨P ++ (vals Y ++ D)⟩ T (0, 0))]])
theorem part_ends {A B : List Vr} {c : Vr → Vr → Int} {pa pm pb mid s0 r0 s : Nat} (h : PartI A B c pa mid s0 r0 s s) (hA : pm = pa + A.length) (hB : pb = pm + B.length) (h2 : 2 ≤ B.length) (hmid : mid = (pa + pb) / 2)
  (hc : (mid < pm ∧ s0 = mid + pm - pb ∧ r0 = mid) ∨ (pm ≤ mid ∧ s0 = pa ∧ r0 = pm)) :
  s - pa ≤ A.length ∧ mid - s ≤ B.length ∧ pa ≤ s ∧ s ≤ mid ∧ (∀ x y, (A.take (s - pa)).getLast? = some x → (B.drop (mid - s)).head? = some y → ltC c y x = false) ∧ (∀ x y, (B.take (mid - s)).getLast? = some x → (A.drop (s - pa)).head? = some y → ltC c x y = true) := by
 obtain ⟨h1, -, h3, hlo, hhi⟩ := h
 have e1 : s - pa ≤ A.length := by omega
 have e2 : mid - s ≤ B.length := by omega
 have e3 : pa ≤ s := by omega
 have e4 : s ≤ mid := by omega
 refine ⟨e1, e2, e3, e4, fun x y hx hy => ?_, fun x y hx hy => ?_⟩
 ·rw [List.head?_drop] at hy
  have hy2 := (List.getElem?_eq_some_iff.1 hy).1
  have hu : 0 < s - pa := Nat.pos_of_ne_zero fun e => by rw [e, List.take_zero] at hx; cases hx
  rw [List.getLast?_eq_getElem?, List.length_take, Nat.min_eq_left e1, List.getElem?_take, if_pos (by omega)] at hx
  obtain ⟨y', z', a1, a2, a3⟩ := hlo (by omega)
  rw [show s - 1 - pa = s - pa - 1 by omega] at a2
  rw [hy] at a1; rw [hx] at a2
  cases a1; cases a2; exact a3
 ·rw [List.head?_drop] at hy
  have hy2 := (List.getElem?_eq_some_iff.1 hy).1
  have hv : 0 < mid - s := Nat.pos_of_ne_zero fun e => by rw [e, List.take_zero] at hx; cases hx
  rw [List.getLast?_eq_getElem?, List.length_take, Nat.min_eq_left e2, List.getElem?_take, if_pos (by omega)] at hx
  obtain ⟨y', z', a1, a2, a3⟩ := hhi (by omega)
  rw [show mid - 1 - s = mid - s - 1 by omega] at a1
  rw [hx] at a1; rw [hy] at a2
  cases a1; cases a2; exact a3
theorem part_e {P D : List Value} {A B A1 A2 B1 B2 : List Vr} (eA : A1 ++ A2 = A) (eB : B1 ++ B2 = B) (h : A2.length = 0 ∨ B1.length = 0) : P ++ (vals A ++ (vals B ++ D)) = P ++ (vals A1 ++ (vals B1 ++ (vals A2 ++ (vals B2 ++ D)))) := by
 subst eA; subst eB
 rw [vals_app, vals_app]
 rcases h with h | h
 ·rw [List.length_eq_zero_iff.1 h]; simp [vals]
 ·rw [List.length_eq_zero_iff.1 h]; simp [vals]
theorem part_r {P D : List Value} {A B A1 A2 B1 B2 : List Vr} (eA : A1 ++ A2 = A) (eB : B1 ++ B2 = B) : P ++ (vals A ++ (vals B ++ D)) = (P ++ vals A1) ++ (vals A2 ++ (vals B1 ++ (vals B2 ++ D))) := by
 subst eA; subst eB
 rw [vals_app, vals_app]
 simp only [List.append_assoc]
theorem srt_or {lt : Vr → Vr → Bool} {A B : List Vr} (hA : Srt lt A) (hB : Srt lt B) (h : A.length = 0 ∨ B.length = 0) : Srt lt (A ++ B) := by
 rcases h with h | h
 ·rw [List.length_eq_zero_iff.1 h]; exact hB
 ·rw [List.length_eq_zero_iff.1 h, List.append_nil]; exact hA
theorem zzSt0 {p : Prop} (h : p := by (first | (refine ⟨r - (k + 1), by omega, k + 1, r, rfl, ⟨by omega, by omega, hI3, fun _ => ⟨y, z, by rw [show mid - (k + 1) = mid - 1 - k by omega]; exact hy, by rw [show k + 1 - 1 - pa = k - pa by omega]; exact hz, decide_eq_false (by omega)⟩, hI.hi⟩, ?_⟩; (refine S.keep ?_; exact zk); done) | (refine ⟨k - s, by omega, s, k, rfl, ⟨hI1, by omega, by omega, hI.lo, fun _ => ⟨y, z, hy, hz, decide_eq_true (by omega)⟩⟩, ?_⟩; (refine S.keep ?_; exact zk); done) | trace_state)) : p := h
theorem zzSt1 {p : Prop} (h : p := by (first | (have hgt : mid < pm := (by omega); refine ⟨mid + pm - pb, mid, .inl ⟨hgt, rfl, rfl⟩, ?_⟩; (refine S.keep ?_; exact zk); done) | (refine ⟨pa, pm, .inr ⟨by omega, rfl, rfl⟩, ?_⟩; (refine S.keep ?_; exact zk); done) | trace_state)) : p := h
theorem sym3Ct (F : Heap) (bd n cap : Nat) (T : TypeId) (fid : FuncId) (fi ca : List Value) [hfn : HasFn Tryz.prog fid] (Q : Vr → Prop) (c : Vr → Vr → Int) (hC : CmpQ F fid fi ca Q c) (P D : List Value) (A B : List Vr) (ih : SymP F bd n cap T fid fi ca Q c (A.length + B.length)) (hA : ∀ y ∈ A, Q y) (hB : ∀ y ∈ B, Q y) (hsA : Srt (ltC c) A) (hsB : Srt (ltC c) B) (pa pm pb : Nat) (ha : pa = P.length) (hpm : pm = P.length + A.length) (hb : pb = P.length + A.length + B.length) (hA1 : 2 ≤ A.length) (hB1 : 2 ≤ B.length) (hl : pb ≤ n) (hl2 : n ≤ P.length + A.length + B.length + D.length) (hm : n ≤ 1000000000000) :
    Ct Tryz.prog 157 [.slice (some ⟨bd, 0, none⟩) n cap, .int .i64 (pa : Nat), .int .i64 (pm : Nat), .int .i64 (pb : Nat), .func (.func fid) ⟨fi⟩ ⟨ca⟩] F [[(bd, .cells ⟨P ++ (vals A ++ (vals B ++ D))⟩ T (0, 0))]]
      (fun _ G' u => ∃ Y : List Vr, Y.Perm (A ++ B) ∧ Srt (ltC c) Y ∧ G' = [[(bd, .cells ⟨P ++ (vals Y ++ D)⟩ T (0, 0))]]) := by
  obtain ⟨mid, hmid⟩ : ∃ mid, mid = (pa + pb) / 2 := ⟨_, rfl⟩
  refine Ct.enter Tryz.func157 rfl Tryz.ntmps157 rfl fun w0 a S => ?_
  (revert S a; refine go 4 ?_; intro Z hZ Z hZ a S)
  first | (refine wv S (sv_subN S rfl rfl rfl (by omega)) ?_; clear S a; intro a S) | (refine wv S (sv_sub S rfl rfl rfl (by omega)) ?_; clear S a; intro a S)
  (revert S a; revert hZ Z; refine go 3 ?_; intro a S)
  refine wpc_split S rfl (fun h => ?_) (fun h => ?_)
  · (skip; (try simp only [tq] at h); omega)
  (skip; (try simp only [tq] at h))
  (revert S a; revert hZ Z; refine go 6 ?_; intro Z hZ Z hZ a S)
  first | (refine wv S (sv_subN S rfl rfl rfl (by omega)) ?_; clear S a; intro a S) | (refine wv S (sv_sub S rfl rfl rfl (by omega)) ?_; clear S a; intro a S)
  (revert S a; revert hZ Z; refine go 3 ?_; intro a S)
  refine wpc_split S rfl (fun h => ?_) (fun h => ?_)
  · (skip; (try simp only [tq] at h); omega)
  (skip; (try simp only [tq] at h))
  (revert S a; revert hZ Z; refine go 6 ?_; intro Z hZ a S)
  (refine wv S (sv_cvU S rfl rfl (by omega)) ?_; clear S a; intro a S)
  (refine wv S (sv_half (q := pa + pb) S rfl rfl rfl (by omega)) ?_; clear S a; intro a S)
  (refine wv S (sv_conv_i64 S rfl rfl (by omega)) ?_; clear S a; intro a S; rw [← hmid] at S)
  (revert S a; revert hZ Z; refine go 15 ?_; intro a S)
  (refine wp_seq_k ?_; intro Z hZ)
  replace hZ : ∀ (a' : Act) (w' : World), (∃ (s0 r0 : Nat), ((mid < pm ∧ s0 = mid + pm - pb ∧ r0 = mid) ∨ (pm ≤ mid ∧ s0 = pa ∧ r0 = pm)) ∧ St 220 [(0, .slice (some ⟨bd, 0, none⟩) n cap), (1, .int .i64 (pa : Nat)), (2, .int .i64 (pm : Nat)), (3, .int .i64 (pb : Nat)), (4, .func (.func fid) ⟨fi⟩ ⟨ca⟩), (18, .int .i64 (mid : Nat)), (19, .int .i64 ((mid + pm : Nat) : Int)), (20, .int .i64 (s0 : Nat)), (21, .int .i64 (r0 : Nat))] w0 F (keys [[(bd, .cells ⟨P ++ (vals A ++ (vals B ++ D))⟩ T (0, 0))]]) F [[(bd, .cells ⟨P ++ (vals A ++ (vals B ++ D))⟩ T (0, 0))]] a' w') → Z a' w' := (by
   (intro a w hM; refine hZ _ _ ?_; clear hZ Z; clear S; obtain ⟨s0, r0, hsr, S⟩ := hM)
   (revert S a; refine go 2 ?_; intro Z hZ a S)
   first | (refine wv S (sv_subN (q := 1) S rfl rfl rfl (by omega)) ?_; clear S a; intro a S) | (refine wv S (sv_sub S rfl rfl rfl (by omega)) ?_; clear S a; intro a S)
   (revert S a; revert hZ Z; refine go 5 ?_; intro Z hZ a S)
   refine wpc_loop (fun q a' w' => ∃ (s r : Nat), q = r - s ∧ PartI A B c pa mid s0 r0 s r ∧ St 220 [(0, .slice (some ⟨bd, 0, none⟩) n cap), (1, .int .i64 (pa : Nat)), (2, .int .i64 (pm : Nat)), (3, .int .i64 (pb : Nat)), (4, .func (.func fid) ⟨fi⟩ ⟨ca⟩), (18, .int .i64 (mid : Nat)), (19, .int .i64 ((mid + pm : Nat) : Int)), (22, .int .i64 ((mid + pm - 1 : Nat) : Int)), (20, .int .i64 (s : Nat)), (21, .int .i64 (r : Nat))] w0 F (keys [[(bd, .cells ⟨P ++ (vals A ++ (vals B ++ D))⟩ T (0, 0))]]) F [[(bd, .cells ⟨P ++ (vals A ++ (vals B ++ D))⟩ T (0, 0))]] a' w') ?_ ?_
   · (refine ⟨_, s0, r0, rfl, ⟨Nat.le_refl _, by omega, Nat.le_refl _, fun h => absurd h (Nat.lt_irrefl _), fun h => absurd h (Nat.lt_irrefl _)⟩, ?_⟩; refine S.keep ?_; exact zk)
   (clear S; rintro q a w ⟨s, r, rfl, hI, S⟩; have hI1 := hI.ha; have hI2 := hI.hb; have hI3 := hI.hc)
   (revert S a; refine go 7 ?_; intro Z hZ a S)
   refine wpc_sp S rfl ?_ ?_ <;> intro h
   · (revert S a; revert hZ Z; refine go 7 ?_; intro Z hZ a S)
     (refine wv S (sv_cvU S rfl rfl (by omega)) ?_; clear S a; intro a S)
     (refine wv S (sv_half (q := s + r) S rfl rfl rfl (by omega)) ?_; clear S a; intro a S)
     (refine wv S (sv_conv_i64 S rfl rfl (by omega)) ?_; clear S a; intro a S)
     (revert S a; revert hZ Z; refine go 3 ?_; intro a S)
     (refine wp_seq_k ?_; intro Z hZ)
     (obtain ⟨k, hk⟩ : ∃ k, k = (s + r) / 2 := ⟨_, rfl⟩; rw [← hk] at S; obtain ⟨y, hy⟩ : ∃ y, B[mid - 1 - k]? = some y := ⟨_, List.getElem?_eq_getElem (by omega)⟩; obtain ⟨z, hz⟩ : ∃ z, A[k - pa]? = some z := ⟨_, List.getElem?_eq_getElem (by omega)⟩; have hqy : Q y := hB y (List.mem_of_getElem? hy); have hqz : Q z := hA z (List.mem_of_getElem? hz))
     (refine wpc_mixM [0, 1, 2, 3, 4, 5, 6, 7, 8, 9, 10, 12, 13] [6, 10] [] (.one 0 (.one 1 (.one 2 (.one 3 (.one 4 (.one 5 (.one 6 (.one 7 (.one 8 (.one 9 (.one 10 (.one 11 (.one 12 (.one 13 .nil)))))))))))))) [bd] S mixed (by kernel_rfl) ?_; clear S; intro w S)
     (revert S a; refine go 4 ?_; intro a S)
     first | (refine wpm_v S rfl rfl rfl (want_none _ rfl) rfl rfl (fun w' S => sv_subN S rfl rfl rfl (by omega)) ?_; clear S a; intro a S) | (refine wpm_v S rfl rfl rfl (want_none _ rfl) rfl rfl (fun w' S => sv_sub S rfl rfl rfl (by omega)) ?_; clear S a; intro a S)
     (revert S a; refine go 1 ?_; intro a S)
     (refine wpm_lateO bd S rfl rfl rfl (want_none _ rfl) rfl rfl (fun w' S => sv_loadO S rfl rfl (by have := vals_atB (P := P) (D := D) (A := A) hy; rw [Nat.zero_add, Nat.mul_one, show mid + pm - 1 - k = P.length + A.length + (mid - 1 - k) by omega]; exact this)) ?_; clear S a; intro a S)
     (revert S a; refine go 3 ?_; intro a S)
     (refine wpm_lateO bd S rfl rfl rfl (want_none _ rfl) rfl rfl (fun w' S => sv_loadO S rfl rfl (by have := vals_at (P := P) (D := vals B ++ D) (X := A) hz; rw [Nat.zero_add, Nat.mul_one, show k = P.length + (k - pa) by omega]; exact this)) ?_; clear S a; intro a S)
     refine wpm_eff rfl rfl (kwa S) ?_
     (refine wc0 S (hC.ct y z hqy hqz) ?_; clear S a; intro v169 a w hv S; subst hv)
     (revert S a; revert hZ Z; refine go 5 ?_; intro a S)
     refine wpc_sp S rfl ?_ ?_ <;> intro h
     · (revert S a; refine go 5 ?_; intro a S)
       change ∃ m', _ ∧ _
       exact zzSt0
     (revert S a; refine go 4 ?_; intro a S)
     change ∃ m', _ ∧ _
     exact zzSt0
   (refine wp_exit ?_; conv => whnf)
   clear hZ Z
   (refine hZ _ _ ?_; clear hZ Z)
   (refine wp_seq_k ?_; intro Z hZ)
   (obtain rfl : s = r := (by omega); obtain ⟨f1, f2, f3, f4, f5, f6⟩ := part_ends (pm := pm) (pb := pb) hI (by omega) (by omega) hB1 hmid hsr; have eA : A.take (s - pa) ++ A.drop (s - pa) = A := List.take_append_drop _ _; have eB : B.take (mid - s) ++ B.drop (mid - s) = B := List.take_append_drop _ _; generalize hA1d : A.take (s - pa) = A1 at *; generalize hA2d : A.drop (s - pa) = A2 at *; generalize hB1d : B.take (mid - s) = B1 at *; generalize hB2d : B.drop (mid - s) = B2 at *; have lA1 : A1.length = s - pa := (by rw [← hA1d, List.length_take]; omega); have lA2 : A2.length = A.length - (s - pa) := (by rw [← hA2d, List.length_drop]); have lB1 : B1.length = mid - s := (by rw [← hB1d, List.length_take]; omega); have lB2 : B2.length = B.length - (mid - s) := (by rw [← hB2d, List.length_drop]); have qA1 : ∀ y ∈ A1, Q y := (fun y h => hA y (by rw [← eA]; exact List.mem_append.2 (.inl h))); have qA2 : ∀ y ∈ A2, Q y := (fun y h => hA y (by rw [← eA]; exact List.mem_append.2 (.inr h))); have qB1 : ∀ y ∈ B1, Q y := (fun y h => hB y (by rw [← eB]; exact List.mem_append.2 (.inl h))); have qB2 : ∀ y ∈ B2, Q y := (fun y h => hB y (by rw [← eB]; exact List.mem_append.2 (.inr h))); have sA1 : Srt (ltC c) A1 := Srt.left (B := A2) (by rw [eA]; exact hsA); have sA2 : Srt (ltC c) A2 := Srt.right (A := A1) (by rw [eA]; exact hsA); have sB1 : Srt (ltC c) B1 := Srt.left (B := B2) (by rw [eB]; exact hsB); have sB2 : Srt (ltC c) B2 := Srt.right (A := B1) (by rw [eB]; exact hsB))
   (revert S a; refine go 3 ?_; intro a S)
   first | (refine wv S (sv_subN S rfl rfl rfl (by omega)) ?_; clear S a; intro a S) | (refine wv S (sv_sub S rfl rfl rfl (by omega)) ?_; clear S a; intro a S)
   (revert S a; revert hZ Z; refine go 9 ?_; intro Z hZ Z hZ a S)
   refine wgd S ?_ ?_
   · (clear S; intro h S)
     (revert S a; revert hZ Z; refine go 8 ?_; intro a S)
     refine wpc_sp S rfl ?_ ?_ <;> intro h
     · (revert S a; refine go 6 ?_; intro a S)
       (rw [part_r eA eB] at S; refine wpl_callOwn (Gs := [[(bd, .cells ⟨(P ++ vals A1) ++ (vals A2 ++ (vals B1 ++ (vals B2 ++ D)))⟩ T (0, 0))]]) (Gr := []) S rfl rfl rfl rfl rfl rfl (rotCt F bd n cap T (P ++ vals A1) (vals A2) (vals B1) (vals B2 ++ D) _ _ pm _ (by rw [List.length_append, vals_len]; omega) (by rw [List.length_append, vals_len, vals_len, vals_len]; omega) hm ⟨by rw [List.length_append, vals_len, vals_len]; omega, by rw [vals_len]; omega, by rw [vals_len]; omega, one_vals hC qA2, one_vals hC qB1, by rw [List.length_append, vals_len, vals_len, vals_len]; omega, by rw [List.length_append, List.length_append, vals_len, vals_len, vals_len, vals_len]; omega, rfl⟩) rfl (by simp) ?_; clear S a; intro v191 G9 a w hv S; subst hv; replace S : St _ _ _ _ _ _ [[(bd, .cells ⟨P ++ (vals A1 ++ (vals B1 ++ (vals A2 ++ (vals B2 ++ D))))⟩ T (0, 0))]] _ _ := (by rw [← List.append_assoc P]; exact S))
       (revert S a; revert hZ Z; refine go 3 ?_; intro Z hZ a S)
       (refine wp_seq_k ?_; intro Z hZ)
       (first | (rw [part_e eA eB (by omega)] at S) | skip)
       (revert S a; refine go 5 ?_; intro a S)
       refine wgd S ?_ ?_
       · (clear S; intro h S)
         (revert S a; revert hZ Z; refine go 8 ?_; intro a S)
         refine wpc_sp S rfl ?_ ?_ <;> intro h
         · (revert S a; refine go 6 ?_; intro a S)
           (refine wpl_callOwn (Gs := [[(bd, .cells ⟨P ++ (vals A1 ++ (vals B1 ++ (vals A2 ++ (vals B2 ++ D))))⟩ T (0, 0))]]) (Gr := []) S rfl rfl rfl rfl rfl rfl (ih P (vals A2 ++ (vals B2 ++ D)) A1 B1 pa s mid (by omega) (by omega) (by omega) qA1 qB1 sA1 sB1 ha (by omega) (by omega) (by omega) (by rw [List.length_append, List.length_append, vals_len, vals_len]; omega)) rfl (by simp) ?_; clear S a; intro v205 G9 a w hv S; obtain ⟨C1, hp1, hs1, rfl⟩ := hv)
           (revert S a; revert hZ Z; refine go 2 ?_; intro a S)
           (refine wp_seq_k ?_; intro Z hZ)
           ((first | (have hq1 := hp1; skip) | (obtain ⟨C1, hp1, hs1, e1⟩ : ∃ C1, C1.Perm (A1 ++ B1) ∧ Srt (ltC c) C1 ∧ P ++ (vals A1 ++ (vals B1 ++ (vals A2 ++ (vals B2 ++ D)))) = P ++ (vals C1 ++ (vals A2 ++ (vals B2 ++ D))) := ⟨A1 ++ B1, List.Perm.refl _, srt_or sA1 sB1 (by omega), by rw [vals_app, List.append_assoc]⟩; rw [e1] at S)); have lC1 := hp1.length_eq; rw [List.length_append] at lC1)
           (revert S a; refine go 5 ?_; intro a S)
           refine wgd S ?_ ?_
           · (clear S; intro h S)
             (revert S a; revert hZ Z; refine go 8 ?_; intro a S)
             refine wpc_sp S rfl ?_ ?_ <;> intro h
             · (revert S a; refine go 6 ?_; intro a S)
               (replace S : St _ _ _ _ _ _ [[(bd, .cells ⟨(P ++ vals C1) ++ (vals A2 ++ (vals B2 ++ D))⟩ T (0, 0))]] _ _ := (by rw [List.append_assoc P]; exact S); refine wpl_callOwn (Gs := [[(bd, .cells ⟨(P ++ vals C1) ++ (vals A2 ++ (vals B2 ++ D))⟩ T (0, 0))]]) (Gr := []) S rfl rfl rfl rfl rfl rfl (ih (P ++ vals C1) D A2 B2 mid (mid + pm - s) pb (by omega) (by omega) (by omega) qA2 qB2 sA2 sB2 (by rw [List.length_append, vals_len]; omega) (by rw [List.length_append, vals_len]; omega) (by rw [List.length_append, vals_len]; omega) (by omega) (by rw [List.length_append, vals_len]; omega)) rfl (by simp) ?_; clear S a; intro v219 G9 a w hv S; obtain ⟨C2, hp2, hs2, rfl⟩ := hv)
               refine wpList_nil ?_
               refine fin_end S (results0 Tryz.results157) ?_
               ((first | (have hq2 := hp2; skip) | (obtain ⟨C2, hp2, hs2, e2⟩ : ∃ C2, C2.Perm (A2 ++ B2) ∧ Srt (ltC c) C2 ∧ P ++ (vals C1 ++ (vals A2 ++ (vals B2 ++ D))) = (P ++ vals C1) ++ (vals C2 ++ D) := ⟨A2 ++ B2, List.Perm.refl _, srt_or sA2 sB2 (by omega), by rw [vals_app]; simp only [List.append_assoc]⟩; rw [e2])); have hmg := merge_le hC.ord (by rw [eA]; exact hsA) (by rw [eB]; exact hsB) f5 f6 hp1 hp2 hs1 hs2; rw [eA, eB] at hmg; exact ⟨C1 ++ C2, hmg.2, hmg.1, by rw [vals_app]; simp only [List.append_assoc, List.append_nil]⟩)
             refine wp_skip ?_
             refine fin_end S (results0 Tryz.results157) ?_
             ((first | (have hq2 := hp2; skip) | (obtain ⟨C2, hp2, hs2, e2⟩ : ∃ C2, C2.Perm (A2 ++ B2) ∧ Srt (ltC c) C2 ∧ P ++ (vals C1 ++ (vals A2 ++ (vals B2 ++ D))) = (P ++ vals C1) ++ (vals C2 ++ D) := ⟨A2 ++ B2, List.Perm.refl _, srt_or sA2 sB2 (by omega), by rw [vals_app]; simp only [List.append_assoc]⟩; rw [e2])); have hmg := merge_le hC.ord (by rw [eA]; exact hsA) (by rw [eB]; exact hsB) f5 f6 hp1 hp2 hs1 hs2; rw [eA, eB] at hmg; exact ⟨C1 ++ C2, hmg.2, hmg.1, by rw [vals_app]; simp only [List.append_assoc, List.append_nil]⟩)
           (clear S a; intro h a S)
           (revert S a; revert hZ Z; refine go 5 ?_; intro a S)
           refine wpc_false S rfl ?_
           refine wp_skip ?_
           refine fin_end S (results0 Tryz.results157) ?_
           ((first | (have hq2 := hp2; skip) | (obtain ⟨C2, hp2, hs2, e2⟩ : ∃ C2, C2.Perm (A2 ++ B2) ∧ Srt (ltC c) C2 ∧ P ++ (vals C1 ++ (vals A2 ++ (vals B2 ++ D))) = (P ++ vals C1) ++ (vals C2 ++ D) := ⟨A2 ++ B2, List.Perm.refl _, srt_or sA2 sB2 (by omega), by rw [vals_app]; simp only [List.append_assoc]⟩; rw [e2])); have hmg := merge_le hC.ord (by rw [eA]; exact hsA) (by rw [eB]; exact hsB) f5 f6 hp1 hp2 hs1 hs2; rw [eA, eB] at hmg; exact ⟨C1 ++ C2, hmg.2, hmg.1, by rw [vals_app]; simp only [List.append_assoc, List.append_nil]⟩)
         (revert S a; revert hZ Z; refine go 2 ?_; intro a S)
         (refine wp_seq_k ?_; intro Z hZ)
         ((first | (have hq1 := hp1; skip) | (obtain ⟨C1, hp1, hs1, e1⟩ : ∃ C1, C1.Perm (A1 ++ B1) ∧ Srt (ltC c) C1 ∧ P ++ (vals A1 ++ (vals B1 ++ (vals A2 ++ (vals B2 ++ D)))) = P ++ (vals C1 ++ (vals A2 ++ (vals B2 ++ D))) := ⟨A1 ++ B1, List.Perm.refl _, srt_or sA1 sB1 (by omega), by rw [vals_app, List.append_assoc]⟩; rw [e1] at S)); have lC1 := hp1.length_eq; rw [List.length_append] at lC1)
         (revert S a; refine go 5 ?_; intro a S)
         refine wgd S ?_ ?_
         · (clear S; intro h S)
           (revert S a; revert hZ Z; refine go 8 ?_; intro a S)
           refine wpc_sp S rfl ?_ ?_ <;> intro h
           · (revert S a; refine go 6 ?_; intro a S)
             (replace S : St _ _ _ _ _ _ [[(bd, .cells ⟨(P ++ vals C1) ++ (vals A2 ++ (vals B2 ++ D))⟩ T (0, 0))]] _ _ := (by rw [List.append_assoc P]; exact S); refine wpl_callOwn (Gs := [[(bd, .cells ⟨(P ++ vals C1) ++ (vals A2 ++ (vals B2 ++ D))⟩ T (0, 0))]]) (Gr := []) S rfl rfl rfl rfl rfl rfl (ih (P ++ vals C1) D A2 B2 mid (mid + pm - s) pb (by omega) (by omega) (by omega) qA2 qB2 sA2 sB2 (by rw [List.length_append, vals_len]; omega) (by rw [List.length_append, vals_len]; omega) (by rw [List.length_append, vals_len]; omega) (by omega) (by rw [List.length_append, vals_len]; omega)) rfl (by simp) ?_; clear S a; intro v219 G9 a w hv S; obtain ⟨C2, hp2, hs2, rfl⟩ := hv)
             refine wpList_nil ?_
             refine fin_end S (results0 Tryz.results157) ?_
             ((first | (have hq2 := hp2; skip) | (obtain ⟨C2, hp2, hs2, e2⟩ : ∃ C2, C2.Perm (A2 ++ B2) ∧ Srt (ltC c) C2 ∧ P ++ (vals C1 ++ (vals A2 ++ (vals B2 ++ D))) = (P ++ vals C1) ++ (vals C2 ++ D) := ⟨A2 ++ B2, List.Perm.refl _, srt_or sA2 sB2 (by omega), by rw [vals_app]; simp only [List.append_assoc]⟩; rw [e2])); have hmg := merge_le hC.ord (by rw [eA]; exact hsA) (by rw [eB]; exact hsB) f5 f6 hp1 hp2 hs1 hs2; rw [eA, eB] at hmg; exact ⟨C1 ++ C2, hmg.2, hmg.1, by rw [vals_app]; simp only [List.append_assoc, List.append_nil]⟩)
           refine wp_skip ?_
           refine fin_end S (results0 Tryz.results157) ?_
           ((first | (have hq2 := hp2; skip) | (obtain ⟨C2, hp2, hs2, e2⟩ : ∃ C2, C2.Perm (A2 ++ B2) ∧ Srt (ltC c) C2 ∧ P ++ (vals C1 ++ (vals A2 ++ (vals B2 ++ D))) = (P ++ vals C1) ++ (vals C2 ++ D) := ⟨A2 ++ B2, List.Perm.refl _, srt_or sA2 sB2 (by omega), by rw [vals_app]; simp only [List.append_assoc]⟩; rw [e2])); have hmg := merge_le hC.ord (by rw [eA]; exact hsA) (by rw [eB]; exact hsB) f5 f6 hp1 hp2 hs1 hs2; rw [eA, eB] at hmg; exact ⟨C1 ++ C2, hmg.2, hmg.1, by rw [vals_app]; simp only [List.append_assoc, List.append_nil]⟩)
         (clear S a; intro h a S)
         (revert S a; revert hZ Z; refine go 5 ?_; intro a S)
         refine wpc_false S rfl ?_
         refine wp_skip ?_
         refine fin_end S (results0 Tryz.results157) ?_
         ((first | (have hq2 := hp2; skip) | (obtain ⟨C2, hp2, hs2, e2⟩ : ∃ C2, C2.Perm (A2 ++ B2) ∧ Srt (ltC c) C2 ∧ P ++ (vals C1 ++ (vals A2 ++ (vals B2 ++ D))) = (P ++ vals C1) ++ (vals C2 ++ D) := ⟨A2 ++ B2, List.Perm.refl _, srt_or sA2 sB2 (by omega), by rw [vals_app]; simp only [List.append_assoc]⟩; rw [e2])); have hmg := merge_le hC.ord (by rw [eA]; exact hsA) (by rw [eB]; exact hsB) f5 f6 hp1 hp2 hs1 hs2; rw [eA, eB] at hmg; exact ⟨C1 ++ C2, hmg.2, hmg.1, by rw [vals_app]; simp only [List.append_assoc, List.append_nil]⟩)
       (clear S a; intro h a S)
       (revert S a; revert hZ Z; refine go 5 ?_; intro a S)
       refine wpc_false S rfl ?_
       (revert S a; revert hZ Z; refine go 2 ?_; intro a S)
       (refine wp_seq_k ?_; intro Z hZ)
       ((first | (have hq1 := hp1; skip) | (obtain ⟨C1, hp1, hs1, e1⟩ : ∃ C1, C1.Perm (A1 ++ B1) ∧ Srt (ltC c) C1 ∧ P ++ (vals A1 ++ (vals B1 ++ (vals A2 ++ (vals B2 ++ D)))) = P ++ (vals C1 ++ (vals A2 ++ (vals B2 ++ D))) := ⟨A1 ++ B1, List.Perm.refl _, srt_or sA1 sB1 (by omega), by rw [vals_app, List.append_assoc]⟩; rw [e1] at S)); have lC1 := hp1.length_eq; rw [List.length_append] at lC1)
       (revert S a; refine go 5 ?_; intro a S)
       refine wgd S ?_ ?_
       · (clear S; intro h S)
         (revert S a; revert hZ Z; refine go 8 ?_; intro a S)
         refine wpc_sp S rfl ?_ ?_ <;> intro h
         · (revert S a; refine go 6 ?_; intro a S)
           (replace S : St _ _ _ _ _ _ [[(bd, .cells ⟨(P ++ vals C1) ++ (vals A2 ++ (vals B2 ++ D))⟩ T (0, 0))]] _ _ := (by rw [List.append_assoc P]; exact S); refine wpl_callOwn (Gs := [[(bd, .cells ⟨(P ++ vals C1) ++ (vals A2 ++ (vals B2 ++ D))⟩ T (0, 0))]]) (Gr := []) S rfl rfl rfl rfl rfl rfl (ih (P ++ vals C1) D A2 B2 mid (mid + pm - s) pb (by omega) (by omega) (by omega) qA2 qB2 sA2 sB2 (by rw [List.length_append, vals_len]; omega) (by rw [List.length_append, vals_len]; omega) (by rw [List.length_append, vals_len]; omega) (by omega) (by rw [List.length_append, vals_len]; omega)) rfl (by simp) ?_; clear S a; intro v219 G9 a w hv S; obtain ⟨C2, hp2, hs2, rfl⟩ := hv)
           refine wpList_nil ?_
           refine fin_end S (results0 Tryz.results157) ?_
           ((first | (have hq2 := hp2; skip) | (obtain ⟨C2, hp2, hs2, e2⟩ : ∃ C2, C2.Perm (A2 ++ B2) ∧ Srt (ltC c) C2 ∧ P ++ (vals C1 ++ (vals A2 ++ (vals B2 ++ D))) = (P ++ vals C1) ++ (vals C2 ++ D) := ⟨A2 ++ B2, List.Perm.refl _, srt_or sA2 sB2 (by omega), by rw [vals_app]; simp only [List.append_assoc]⟩; rw [e2])); have hmg := merge_le hC.ord (by rw [eA]; exact hsA) (by rw [eB]; exact hsB) f5 f6 hp1 hp2 hs1 hs2; rw [eA, eB] at hmg; exact ⟨C1 ++ C2, hmg.2, hmg.1, by rw [vals_app]; simp only [List.append_assoc, List.append_nil]⟩)
         refine wp_skip ?_
         refine fin_end S (results0 Tryz.results157) ?_
         ((first | (have hq2 := hp2; skip) | (obtain ⟨C2, hp2, hs2, e2⟩ : ∃ C2, C2.Perm (A2 ++ B2) ∧ Srt (ltC c) C2 ∧ P ++ (vals C1 ++ (vals A2 ++ (vals B2 ++ D))) = (P ++ vals C1) ++ (vals C2 ++ D) := ⟨A2 ++ B2, List.Perm.refl _, srt_or sA2 sB2 (by omega), by rw [vals_app]; simp only [List.append_assoc]⟩; rw [e2])); have hmg := merge_le hC.ord (by rw [eA]; exact hsA) (by rw [eB]; exact hsB) f5 f6 hp1 hp2 hs1 hs2; rw [eA, eB] at hmg; exact ⟨C1 ++ C2, hmg.2, hmg.1, by rw [vals_app]; simp only [List.append_assoc, List.append_nil]⟩)
       (clear S a; intro h a S)
       (revert S a; revert hZ Z; refine go 5 ?_; intro a S)
       refine wpc_false S rfl ?_
       refine wp_skip ?_
       refine fin_end S (results0 Tryz.results157) ?_
       ((first | (have hq2 := hp2; skip) | (obtain ⟨C2, hp2, hs2, e2⟩ : ∃ C2, C2.Perm (A2 ++ B2) ∧ Srt (ltC c) C2 ∧ P ++ (vals C1 ++ (vals A2 ++ (vals B2 ++ D))) = (P ++ vals C1) ++ (vals C2 ++ D) := ⟨A2 ++ B2, List.Perm.refl _, srt_or sA2 sB2 (by omega), by rw [vals_app]; simp only [List.append_assoc]⟩; rw [e2])); have hmg := merge_le hC.ord (by rw [eA]; exact hsA) (by rw [eB]; exact hsB) f5 f6 hp1 hp2 hs1 hs2; rw [eA, eB] at hmg; exact ⟨C1 ++ C2, hmg.2, hmg.1, by rw [vals_app]; simp only [List.append_assoc, List.append_nil]⟩)
     (revert S a; revert hZ Z; refine go 3 ?_; intro Z hZ a S)
     (refine wp_seq_k ?_; intro Z hZ)
     (first | (rw [part_e eA eB (by omega)] at S) | skip)
     (revert S a; refine go 5 ?_; intro a S)
     refine wgd S ?_ ?_
     · (clear S; intro h S)
       (revert S a; revert hZ Z; refine go 8 ?_; intro a S)
       refine wpc_sp S rfl ?_ ?_ <;> intro h
       · (revert S a; refine go 6 ?_; intro a S)
         (refine wpl_callOwn (Gs := [[(bd, .cells ⟨P ++ (vals A1 ++ (vals B1 ++ (vals A2 ++ (vals B2 ++ D))))⟩ T (0, 0))]]) (Gr := []) S rfl rfl rfl rfl rfl rfl (ih P (vals A2 ++ (vals B2 ++ D)) A1 B1 pa s mid (by omega) (by omega) (by omega) qA1 qB1 sA1 sB1 ha (by omega) (by omega) (by omega) (by rw [List.length_append, List.length_append, vals_len, vals_len]; omega)) rfl (by simp) ?_; clear S a; intro v205 G9 a w hv S; obtain ⟨C1, hp1, hs1, rfl⟩ := hv)
         (revert S a; revert hZ Z; refine go 2 ?_; intro a S)
         (refine wp_seq_k ?_; intro Z hZ)
         ((first | (have hq1 := hp1; skip) | (obtain ⟨C1, hp1, hs1, e1⟩ : ∃ C1, C1.Perm (A1 ++ B1) ∧ Srt (ltC c) C1 ∧ P ++ (vals A1 ++ (vals B1 ++ (vals A2 ++ (vals B2 ++ D)))) = P ++ (vals C1 ++ (vals A2 ++ (vals B2 ++ D))) := ⟨A1 ++ B1, List.Perm.refl _, srt_or sA1 sB1 (by omega), by rw [vals_app, List.append_assoc]⟩; rw [e1] at S)); have lC1 := hp1.length_eq; rw [List.length_append] at lC1)
         (revert S a; refine go 5 ?_; intro a S)
         refine wgd S ?_ ?_
         · (clear S; intro h S)
           (revert S a; revert hZ Z; refine go 8 ?_; intro a S)
           refine wpc_sp S rfl ?_ ?_ <;> intro h
           · (revert S a; refine go 6 ?_; intro a S)
             (replace S : St _ _ _ _ _ _ [[(bd, .cells ⟨(P ++ vals C1) ++ (vals A2 ++ (vals B2 ++ D))⟩ T (0, 0))]] _ _ := (by rw [List.append_assoc P]; exact S); refine wpl_callOwn (Gs := [[(bd, .cells ⟨(P ++ vals C1) ++ (vals A2 ++ (vals B2 ++ D))⟩ T (0, 0))]]) (Gr := []) S rfl rfl rfl rfl rfl rfl (ih (P ++ vals C1) D A2 B2 mid (mid + pm - s) pb (by omega) (by omega) (by omega) qA2 qB2 sA2 sB2 (by rw [List.length_append, vals_len]; omega) (by rw [List.length_append, vals_len]; omega) (by rw [List.length_append, vals_len]; omega) (by omega) (by rw [List.length_append, vals_len]; omega)) rfl (by simp) ?_; clear S a; intro v219 G9 a w hv S; obtain ⟨C2, hp2, hs2, rfl⟩ := hv)
             refine wpList_nil ?_
             refine fin_end S (results0 Tryz.results157) ?_
             ((first | (have hq2 := hp2; skip) | (obtain ⟨C2, hp2, hs2, e2⟩ : ∃ C2, C2.Perm (A2 ++ B2) ∧ Srt (ltC c) C2 ∧ P ++ (vals C1 ++ (vals A2 ++ (vals B2 ++ D))) = (P ++ vals C1) ++ (vals C2 ++ D) := ⟨A2 ++ B2, List.Perm.refl _, srt_or sA2 sB2 (by omega), by rw [vals_app]; simp only [List.append_assoc]⟩; rw [e2])); have hmg := merge_le hC.ord (by rw [eA]; exact hsA) (by rw [eB]; exact hsB) f5 f6 hp1 hp2 hs1 hs2; rw [eA, eB] at hmg; exact ⟨C1 ++ C2, hmg.2, hmg.1, by rw [vals_app]; simp only [List.append_assoc, List.append_nil]⟩)
           refine wp_skip ?_
           refine fin_end S (results0 Tryz.results157) ?_
           ((first | (have hq2 := hp2; skip) | (obtain ⟨C2, hp2, hs2, e2⟩ : ∃ C2, C2.Perm (A2 ++ B2) ∧ Srt (ltC c) C2 ∧ P ++ (vals C1 ++ (vals A2 ++ (vals B2 ++ D))) = (P ++ vals C1) ++ (vals C2 ++ D) := ⟨A2 ++ B2, List.Perm.refl _, srt_or sA2 sB2 (by omega), by rw [vals_app]; simp only [List.append_assoc]⟩; rw [e2])); have hmg := merge_le hC.ord (by rw [eA]; exact hsA) (by rw [eB]; exact hsB) f5 f6 hp1 hp2 hs1 hs2; rw [eA, eB] at hmg; exact ⟨C1 ++ C2, hmg.2, hmg.1, by rw [vals_app]; simp only [List.append_assoc, List.append_nil]⟩)
         (clear S a; intro h a S)
         (revert S a; revert hZ Z; refine go 5 ?_; intro a S)
         refine wpc_false S rfl ?_
         refine wp_skip ?_
         refine fin_end S (results0 Tryz.results157) ?_
         ((first | (have hq2 := hp2; skip) | (obtain ⟨C2, hp2, hs2, e2⟩ : ∃ C2, C2.Perm (A2 ++ B2) ∧ Srt (ltC c) C2 ∧ P ++ (vals C1 ++ (vals A2 ++ (vals B2 ++ D))) = (P ++ vals C1) ++ (vals C2 ++ D) := ⟨A2 ++ B2, List.Perm.refl _, srt_or sA2 sB2 (by omega), by rw [vals_app]; simp only [List.append_assoc]⟩; rw [e2])); have hmg := merge_le hC.ord (by rw [eA]; exact hsA) (by rw [eB]; exact hsB) f5 f6 hp1 hp2 hs1 hs2; rw [eA, eB] at hmg; exact ⟨C1 ++ C2, hmg.2, hmg.1, by rw [vals_app]; simp only [List.append_assoc, List.append_nil]⟩)
       (revert S a; revert hZ Z; refine go 2 ?_; intro a S)
       (refine wp_seq_k ?_; intro Z hZ)
       ((first | (have hq1 := hp1; skip) | (obtain ⟨C1, hp1, hs1, e1⟩ : ∃ C1, C1.Perm (A1 ++ B1) ∧ Srt (ltC c) C1 ∧ P ++ (vals A1 ++ (vals B1 ++ (vals A2 ++ (vals B2 ++ D)))) = P ++ (vals C1 ++ (vals A2 ++ (vals B2 ++ D))) := ⟨A1 ++ B1, List.Perm.refl _, srt_or sA1 sB1 (by omega), by rw [vals_app, List.append_assoc]⟩; rw [e1] at S)); have lC1 := hp1.length_eq; rw [List.length_append] at lC1)
       (revert S a; refine go 5 ?_; intro a S)
       refine wgd S ?_ ?_
       · (clear S; intro h S)
         (revert S a; revert hZ Z; refine go 8 ?_; intro a S)
         refine wpc_sp S rfl ?_ ?_ <;> intro h
         · (revert S a; refine go 6 ?_; intro a S)
           (replace S : St _ _ _ _ _ _ [[(bd, .cells ⟨(P ++ vals C1) ++ (vals A2 ++ (vals B2 ++ D))⟩ T (0, 0))]] _ _ := (by rw [List.append_assoc P]; exact S); refine wpl_callOwn (Gs := [[(bd, .cells ⟨(P ++ vals C1) ++ (vals A2 ++ (vals B2 ++ D))⟩ T (0, 0))]]) (Gr := []) S rfl rfl rfl rfl rfl rfl (ih (P ++ vals C1) D A2 B2 mid (mid + pm - s) pb (by omega) (by omega) (by omega) qA2 qB2 sA2 sB2 (by rw [List.length_append, vals_len]; omega) (by rw [List.length_append, vals_len]; omega) (by rw [List.length_append, vals_len]; omega) (by omega) (by rw [List.length_append, vals_len]; omega)) rfl (by simp) ?_; clear S a; intro v219 G9 a w hv S; obtain ⟨C2, hp2, hs2, rfl⟩ := hv)
           refine wpList_nil ?_
           refine fin_end S (results0 Tryz.results157) ?_
           ((first | (have hq2 := hp2; skip) | (obtain ⟨C2, hp2, hs2, e2⟩ : ∃ C2, C2.Perm (A2 ++ B2) ∧ Srt (ltC c) C2 ∧ P ++ (vals C1 ++ (vals A2 ++ (vals B2 ++ D))) = (P ++ vals C1) ++ (vals C2 ++ D) := ⟨A2 ++ B2, List.Perm.refl _, srt_or sA2 sB2 (by omega), by rw [vals_app]; simp only [List.append_assoc]⟩; rw [e2])); have hmg := merge_le hC.ord (by rw [eA]; exact hsA) (by rw [eB]; exact hsB) f5 f6 hp1 hp2 hs1 hs2; rw [eA, eB] at hmg; exact ⟨C1 ++ C2, hmg.2, hmg.1, by rw [vals_app]; simp only [List.append_assoc, List.append_nil]⟩)
         refine wp_skip ?_
         refine fin_end S (results0 Tryz.results157) ?_
         ((first | (have hq2 := hp2; skip) | (obtain ⟨C2, hp2, hs2, e2⟩ : ∃ C2, C2.Perm (A2 ++ B2) ∧ Srt (ltC c) C2 ∧ P ++ (vals C1 ++ (vals A2 ++ (vals B2 ++ D))) = (P ++ vals C1) ++ (vals C2 ++ D) := ⟨A2 ++ B2, List.Perm.refl _, srt_or sA2 sB2 (by omega), by rw [vals_app]; simp only [List.append_assoc]⟩; rw [e2])); have hmg := merge_le hC.ord (by rw [eA]; exact hsA) (by rw [eB]; exact hsB) f5 f6 hp1 hp2 hs1 hs2; rw [eA, eB] at hmg; exact ⟨C1 ++ C2, hmg.2, hmg.1, by rw [vals_app]; simp only [List.append_assoc, List.append_nil]⟩)
       (clear S a; intro h a S)
       (revert S a; revert hZ Z; refine go 5 ?_; intro a S)
       refine wpc_false S rfl ?_
       refine wp_skip ?_
       refine fin_end S (results0 Tryz.results157) ?_
       ((first | (have hq2 := hp2; skip) | (obtain ⟨C2, hp2, hs2, e2⟩ : ∃ C2, C2.Perm (A2 ++ B2) ∧ Srt (ltC c) C2 ∧ P ++ (vals C1 ++ (vals A2 ++ (vals B2 ++ D))) = (P ++ vals C1) ++ (vals C2 ++ D) := ⟨A2 ++ B2, List.Perm.refl _, srt_or sA2 sB2 (by omega), by rw [vals_app]; simp only [List.append_assoc]⟩; rw [e2])); have hmg := merge_le hC.ord (by rw [eA]; exact hsA) (by rw [eB]; exact hsB) f5 f6 hp1 hp2 hs1 hs2; rw [eA, eB] at hmg; exact ⟨C1 ++ C2, hmg.2, hmg.1, by rw [vals_app]; simp only [List.append_assoc, List.append_nil]⟩)
     (clear S a; intro h a S)
     (revert S a; revert hZ Z; refine go 5 ?_; intro a S)
     refine wpc_false S rfl ?_
     (revert S a; revert hZ Z; refine go 2 ?_; intro a S)
     (refine wp_seq_k ?_; intro Z hZ)
     ((first | (have hq1 := hp1; skip) | (obtain ⟨C1, hp1, hs1, e1⟩ : ∃ C1, C1.Perm (A1 ++ B1) ∧ Srt (ltC c) C1 ∧ P ++ (vals A1 ++ (vals B1 ++ (vals A2 ++ (vals B2 ++ D)))) = P ++ (vals C1 ++ (vals A2 ++ (vals B2 ++ D))) := ⟨A1 ++ B1, List.Perm.refl _, srt_or sA1 sB1 (by omega), by rw [vals_app, List.append_assoc]⟩; rw [e1] at S)); have lC1 := hp1.length_eq; rw [List.length_append] at lC1)
     (revert S a; refine go 5 ?_; intro a S)
     refine wgd S ?_ ?_
     · (clear S; intro h S)
       (revert S a; revert hZ Z; refine go 8 ?_; intro a S)
       refine wpc_sp S rfl ?_ ?_ <;> intro h
       · (revert S a; refine go 6 ?_; intro a S)
         (replace S : St _ _ _ _ _ _ [[(bd, .cells ⟨(P ++ vals C1) ++ (vals A2 ++ (vals B2 ++ D))⟩ T (0, 0))]] _ _ := (by rw [List.append_assoc P]; exact S); refine wpl_callOwn (Gs := [[(bd, .cells ⟨(P ++ vals C1) ++ (vals A2 ++ (vals B2 ++ D))⟩ T (0, 0))]]) (Gr := []) S rfl rfl rfl rfl rfl rfl (ih (P ++ vals C1) D A2 B2 mid (mid + pm - s) pb (by omega) (by omega) (by omega) qA2 qB2 sA2 sB2 (by rw [List.length_append, vals_len]; omega) (by rw [List.length_append, vals_len]; omega) (by rw [List.length_append, vals_len]; omega) (by omega) (by rw [List.length_append, vals_len]; omega)) rfl (by simp) ?_; clear S a; intro v219 G9 a w hv S; obtain ⟨C2, hp2, hs2, rfl⟩ := hv)
         refine wpList_nil ?_
         refine fin_end S (results0 Tryz.results157) ?_
         ((first | (have hq2 := hp2; skip) | (obtain ⟨C2, hp2, hs2, e2⟩ : ∃ C2, C2.Perm (A2 ++ B2) ∧ Srt (ltC c) C2 ∧ P ++ (vals C1 ++ (vals A2 ++ (vals B2 ++ D))) = (P ++ vals C1) ++ (vals C2 ++ D) := ⟨A2 ++ B2, List.Perm.refl _, srt_or sA2 sB2 (by omega), by rw [vals_app]; simp only [List.append_assoc]⟩; rw [e2])); have hmg := merge_le hC.ord (by rw [eA]; exact hsA) (by rw [eB]; exact hsB) f5 f6 hp1 hp2 hs1 hs2; rw [eA, eB] at hmg; exact ⟨C1 ++ C2, hmg.2, hmg.1, by rw [vals_app]; simp only [List.append_assoc, List.append_nil]⟩)
       refine wp_skip ?_
       refine fin_end S (results0 Tryz.results157) ?_
       ((first | (have hq2 := hp2; skip) | (obtain ⟨C2, hp2, hs2, e2⟩ : ∃ C2, C2.Perm (A2 ++ B2) ∧ Srt (ltC c) C2 ∧ P ++ (vals C1 ++ (vals A2 ++ (vals B2 ++ D))) = (P ++ vals C1) ++ (vals C2 ++ D) := ⟨A2 ++ B2, List.Perm.refl _, srt_or sA2 sB2 (by omega), by rw [vals_app]; simp only [List.append_assoc]⟩; rw [e2])); have hmg := merge_le hC.ord (by rw [eA]; exact hsA) (by rw [eB]; exact hsB) f5 f6 hp1 hp2 hs1 hs2; rw [eA, eB] at hmg; exact ⟨C1 ++ C2, hmg.2, hmg.1, by rw [vals_app]; simp only [List.append_assoc, List.append_nil]⟩)
     (clear S a; intro h a S)
     (revert S a; revert hZ Z; refine go 5 ?_; intro a S)
     refine wpc_false S rfl ?_
     refine wp_skip ?_
     refine fin_end S (results0 Tryz.results157) ?_
     ((first | (have hq2 := hp2; skip) | (obtain ⟨C2, hp2, hs2, e2⟩ : ∃ C2, C2.Perm (A2 ++ B2) ∧ Srt (ltC c) C2 ∧ P ++ (vals C1 ++ (vals A2 ++ (vals B2 ++ D))) = (P ++ vals C1) ++ (vals C2 ++ D) := ⟨A2 ++ B2, List.Perm.refl _, srt_or sA2 sB2 (by omega), by rw [vals_app]; simp only [List.append_assoc]⟩; rw [e2])); have hmg := merge_le hC.ord (by rw [eA]; exact hsA) (by rw [eB]; exact hsB) f5 f6 hp1 hp2 hs1 hs2; rw [eA, eB] at hmg; exact ⟨C1 ++ C2, hmg.2, hmg.1, by rw [vals_app]; simp only [List.append_assoc, List.append_nil]⟩)
   (clear S a; intro h a S)
   (revert S a; revert hZ Z; refine go 5 ?_; intro a S)
   refine wpc_false S rfl ?_
   (revert S a; revert hZ Z; refine go 3 ?_; intro Z hZ a S)
   (refine wp_seq_k ?_; intro Z hZ)
   (first | (rw [part_e eA eB (by omega)] at S) | skip)
   (revert S a; refine go 5 ?_; intro a S)
   refine wgd S ?_ ?_
   · (clear S; intro h S)
     (revert S a; revert hZ Z; refine go 8 ?_; intro a S)
     refine wpc_sp S rfl ?_ ?_ <;> intro h
     · (revert S a; refine go 6 ?_; intro a S)
       (refine wpl_callOwn (Gs := [[(bd, .cells ⟨P ++ (vals A1 ++ (vals B1 ++ (vals A2 ++ (vals B2 ++ D))))⟩ T (0, 0))]]) (Gr := []) S rfl rfl rfl rfl rfl rfl (ih P (vals A2 ++ (vals B2 ++ D)) A1 B1 pa s mid (by omega) (by omega) (by omega) qA1 qB1 sA1 sB1 ha (by omega) (by omega) (by omega) (by rw [List.length_append, List.length_append, vals_len, vals_len]; omega)) rfl (by simp) ?_; clear S a; intro v205 G9 a w hv S; obtain ⟨C1, hp1, hs1, rfl⟩ := hv)
       (revert S a; revert hZ Z; refine go 2 ?_; intro a S)
       (refine wp_seq_k ?_; intro Z hZ)
       ((first | (have hq1 := hp1; skip) | (obtain ⟨C1, hp1, hs1, e1⟩ : ∃ C1, C1.Perm (A1 ++ B1) ∧ Srt (ltC c) C1 ∧ P ++ (vals A1 ++ (vals B1 ++ (vals A2 ++ (vals B2 ++ D)))) = P ++ (vals C1 ++ (vals A2 ++ (vals B2 ++ D))) := ⟨A1 ++ B1, List.Perm.refl _, srt_or sA1 sB1 (by omega), by rw [vals_app, List.append_assoc]⟩; rw [e1] at S)); have lC1 := hp1.length_eq; rw [List.length_append] at lC1)
       (revert S a; refine go 5 ?_; intro a S)
       refine wgd S ?_ ?_
       · (clear S; intro h S)
         (revert S a; revert hZ Z; refine go 8 ?_; intro a S)
         refine wpc_sp S rfl ?_ ?_ <;> intro h
         · (revert S a; refine go 6 ?_; intro a S)
           (replace S : St _ _ _ _ _ _ [[(bd, .cells ⟨(P ++ vals C1) ++ (vals A2 ++ (vals B2 ++ D))⟩ T (0, 0))]] _ _ := (by rw [List.append_assoc P]; exact S); refine wpl_callOwn (Gs := [[(bd, .cells ⟨(P ++ vals C1) ++ (vals A2 ++ (vals B2 ++ D))⟩ T (0, 0))]]) (Gr := []) S rfl rfl rfl rfl rfl rfl (ih (P ++ vals C1) D A2 B2 mid (mid + pm - s) pb (by omega) (by omega) (by omega) qA2 qB2 sA2 sB2 (by rw [List.length_append, vals_len]; omega) (by rw [List.length_append, vals_len]; omega) (by rw [List.length_append, vals_len]; omega) (by omega) (by rw [List.length_append, vals_len]; omega)) rfl (by simp) ?_; clear S a; intro v219 G9 a w hv S; obtain ⟨C2, hp2, hs2, rfl⟩ := hv)
           refine wpList_nil ?_
           refine fin_end S (results0 Tryz.results157) ?_
           ((first | (have hq2 := hp2; skip) | (obtain ⟨C2, hp2, hs2, e2⟩ : ∃ C2, C2.Perm (A2 ++ B2) ∧ Srt (ltC c) C2 ∧ P ++ (vals C1 ++ (vals A2 ++ (vals B2 ++ D))) = (P ++ vals C1) ++ (vals C2 ++ D) := ⟨A2 ++ B2, List.Perm.refl _, srt_or sA2 sB2 (by omega), by rw [vals_app]; simp only [List.append_assoc]⟩; rw [e2])); have hmg := merge_le hC.ord (by rw [eA]; exact hsA) (by rw [eB]; exact hsB) f5 f6 hp1 hp2 hs1 hs2; rw [eA, eB] at hmg; exact ⟨C1 ++ C2, hmg.2, hmg.1, by rw [vals_app]; simp only [List.append_assoc, List.append_nil]⟩)
         refine wp_skip ?_
         refine fin_end S (results0 Tryz.results157) ?_
         ((first | (have hq2 := hp2; skip) | (obtain ⟨C2, hp2, hs2, e2⟩ : ∃ C2, C2.Perm (A2 ++ B2) ∧ Srt (ltC c) C2 ∧ P ++ (vals C1 ++ (vals A2 ++ (vals B2 ++ D))) = (P ++ vals C1) ++ (vals C2 ++ D) := ⟨A2 ++ B2, List.Perm.refl _, srt_or sA2 sB2 (by omega), by rw [vals_app]; simp only [List.append_assoc]⟩; rw [e2])); have hmg := merge_le hC.ord (by rw [eA]; exact hsA) (by rw [eB]; exact hsB) f5 f6 hp1 hp2 hs1 hs2; rw [eA, eB] at hmg; exact ⟨C1 ++ C2, hmg.2, hmg.1, by rw [vals_app]; simp only [List.append_assoc, List.append_nil]⟩)
       (clear S a; intro h a S)
       (revert S a; revert hZ Z; refine go 5 ?_; intro a S)
       refine wpc_false S rfl ?_
       refine wp_skip ?_
       refine fin_end S (results0 Tryz.results157) ?_
       ((first | (have hq2 := hp2; skip) | (obtain ⟨C2, hp2, hs2, e2⟩ : ∃ C2, C2.Perm (A2 ++ B2) ∧ Srt (ltC c) C2 ∧ P ++ (vals C1 ++ (vals A2 ++ (vals B2 ++ D))) = (P ++ vals C1) ++ (vals C2 ++ D) := ⟨A2 ++ B2, List.Perm.refl _, srt_or sA2 sB2 (by omega), by rw [vals_app]; simp only [List.append_assoc]⟩; rw [e2])); have hmg := merge_le hC.ord (by rw [eA]; exact hsA) (by rw [eB]; exact hsB) f5 f6 hp1 hp2 hs1 hs2; rw [eA, eB] at hmg; exact ⟨C1 ++ C2, hmg.2, hmg.1, by rw [vals_app]; simp only [List.append_assoc, List.append_nil]⟩)
     (revert S a; revert hZ Z; refine go 2 ?_; intro a S)
     (refine wp_seq_k ?_; intro Z hZ)
     ((first | (have hq1 := hp1; skip) | (obtain ⟨C1, hp1, hs1, e1⟩ : ∃ C1, C1.Perm (A1 ++ B1) ∧ Srt (ltC c) C1 ∧ P ++ (vals A1 ++ (vals B1 ++ (vals A2 ++ (vals B2 ++ D)))) = P ++ (vals C1 ++ (vals A2 ++ (vals B2 ++ D))) := ⟨A1 ++ B1, List.Perm.refl _, srt_or sA1 sB1 (by omega), by rw [vals_app, List.append_assoc]⟩; rw [e1] at S)); have lC1 := hp1.length_eq; rw [List.length_append] at lC1)
     (revert S a; refine go 5 ?_; intro a S)
     refine wgd S ?_ ?_
     · (clear S; intro h S)
       (revert S a; revert hZ Z; refine go 8 ?_; intro a S)
       refine wpc_sp S rfl ?_ ?_ <;> intro h
       · (revert S a; refine go 6 ?_; intro a S)
         (replace S : St _ _ _ _ _ _ [[(bd, .cells ⟨(P ++ vals C1) ++ (vals A2 ++ (vals B2 ++ D))⟩ T (0, 0))]] _ _ := (by rw [List.append_assoc P]; exact S); refine wpl_callOwn (Gs := [[(bd, .cells ⟨(P ++ vals C1) ++ (vals A2 ++ (vals B2 ++ D))⟩ T (0, 0))]]) (Gr := []) S rfl rfl rfl rfl rfl rfl (ih (P ++ vals C1) D A2 B2 mid (mid + pm - s) pb (by omega) (by omega) (by omega) qA2 qB2 sA2 sB2 (by rw [List.length_append, vals_len]; omega) (by rw [List.length_append, vals_len]; omega) (by rw [List.length_append, vals_len]; omega) (by omega) (by rw [List.length_append, vals_len]; omega)) rfl (by simp) ?_; clear S a; intro v219 G9 a w hv S; obtain ⟨C2, hp2, hs2, rfl⟩ := hv)
         refine wpList_nil ?_
         refine fin_end S (results0 Tryz.results157) ?_
         ((first | (have hq2 := hp2; skip) | (obtain ⟨C2, hp2, hs2, e2⟩ : ∃ C2, C2.Perm (A2 ++ B2) ∧ Srt (ltC c) C2 ∧ P ++ (vals C1 ++ (vals A2 ++ (vals B2 ++ D))) = (P ++ vals C1) ++ (vals C2 ++ D) := ⟨A2 ++ B2, List.Perm.refl _, srt_or sA2 sB2 (by omega), by rw [vals_app]; simp only [List.append_assoc]⟩; rw [e2])); have hmg := merge_le hC.ord (by rw [eA]; exact hsA) (by rw [eB]; exact hsB) f5 f6 hp1 hp2 hs1 hs2; rw [eA, eB] at hmg; exact ⟨C1 ++ C2, hmg.2, hmg.1, by rw [vals_app]; simp only [List.append_assoc, List.append_nil]⟩)
       refine wp_skip ?_
       refine fin_end S (results0 Tryz.results157) ?_
       ((first | (have hq2 := hp2; skip) | (obtain ⟨C2, hp2, hs2, e2⟩ : ∃ C2, C2.Perm (A2 ++ B2) ∧ Srt (ltC c) C2 ∧ P ++ (vals C1 ++ (vals A2 ++ (vals B2 ++ D))) = (P ++ vals C1) ++ (vals C2 ++ D) := ⟨A2 ++ B2, List.Perm.refl _, srt_or sA2 sB2 (by omega), by rw [vals_app]; simp only [List.append_assoc]⟩; rw [e2])); have hmg := merge_le hC.ord (by rw [eA]; exact hsA) (by rw [eB]; exact hsB) f5 f6 hp1 hp2 hs1 hs2; rw [eA, eB] at hmg; exact ⟨C1 ++ C2, hmg.2, hmg.1, by rw [vals_app]; simp only [List.append_assoc, List.append_nil]⟩)
     (clear S a; intro h a S)
     (revert S a; revert hZ Z; refine go 5 ?_; intro a S)
     refine wpc_false S rfl ?_
     refine wp_skip ?_
     refine fin_end S (results0 Tryz.results157) ?_
     ((first | (have hq2 := hp2; skip) | (obtain ⟨C2, hp2, hs2, e2⟩ : ∃ C2, C2.Perm (A2 ++ B2) ∧ Srt (ltC c) C2 ∧ P ++ (vals C1 ++ (vals A2 ++ (vals B2 ++ D))) = (P ++ vals C1) ++ (vals C2 ++ D) := ⟨A2 ++ B2, List.Perm.refl _, srt_or sA2 sB2 (by omega), by rw [vals_app]; simp only [List.append_assoc]⟩; rw [e2])); have hmg := merge_le hC.ord (by rw [eA]; exact hsA) (by rw [eB]; exact hsB) f5 f6 hp1 hp2 hs1 hs2; rw [eA, eB] at hmg; exact ⟨C1 ++ C2, hmg.2, hmg.1, by rw [vals_app]; simp only [List.append_assoc, List.append_nil]⟩)
   (clear S a; intro h a S)
   (revert S a; revert hZ Z; refine go 5 ?_; intro a S)
   refine wpc_false S rfl ?_
   refine wp_skip ?_
   (refine hZ _ _ ?_; clear hZ Z)
   (refine wp_seq_k ?_; intro Z hZ)
   ((first | (have hq1 := hp1; skip) | (obtain ⟨C1, hp1, hs1, e1⟩ : ∃ C1, C1.Perm (A1 ++ B1) ∧ Srt (ltC c) C1 ∧ P ++ (vals A1 ++ (vals B1 ++ (vals A2 ++ (vals B2 ++ D)))) = P ++ (vals C1 ++ (vals A2 ++ (vals B2 ++ D))) := ⟨A1 ++ B1, List.Perm.refl _, srt_or sA1 sB1 (by omega), by rw [vals_app, List.append_assoc]⟩; rw [e1] at S)); have lC1 := hp1.length_eq; rw [List.length_append] at lC1)
   (revert S a; refine go 5 ?_; intro a S)
   refine wgd S ?_ ?_
   · (clear S; intro h S)
     (revert S a; revert hZ Z; refine go 8 ?_; intro a S)
     refine wpc_sp S rfl ?_ ?_ <;> intro h
     · (revert S a; refine go 6 ?_; intro a S)
       (replace S : St _ _ _ _ _ _ [[(bd, .cells ⟨(P ++ vals C1) ++ (vals A2 ++ (vals B2 ++ D))⟩ T (0, 0))]] _ _ := (by rw [List.append_assoc P]; exact S); refine wpl_callOwn (Gs := [[(bd, .cells ⟨(P ++ vals C1) ++ (vals A2 ++ (vals B2 ++ D))⟩ T (0, 0))]]) (Gr := []) S rfl rfl rfl rfl rfl rfl (ih (P ++ vals C1) D A2 B2 mid (mid + pm - s) pb (by omega) (by omega) (by omega) qA2 qB2 sA2 sB2 (by rw [List.length_append, vals_len]; omega) (by rw [List.length_append, vals_len]; omega) (by rw [List.length_append, vals_len]; omega) (by omega) (by rw [List.length_append, vals_len]; omega)) rfl (by simp) ?_; clear S a; intro v219 G9 a w hv S; obtain ⟨C2, hp2, hs2, rfl⟩ := hv)
       refine wpList_nil ?_
       refine fin_end S (results0 Tryz.results157) ?_
       ((first | (have hq2 := hp2; skip) | (obtain ⟨C2, hp2, hs2, e2⟩ : ∃ C2, C2.Perm (A2 ++ B2) ∧ Srt (ltC c) C2 ∧ P ++ (vals C1 ++ (vals A2 ++ (vals B2 ++ D))) = (P ++ vals C1) ++ (vals C2 ++ D) := ⟨A2 ++ B2, List.Perm.refl _, srt_or sA2 sB2 (by omega), by rw [vals_app]; simp only [List.append_assoc]⟩; rw [e2])); have hmg := merge_le hC.ord (by rw [eA]; exact hsA) (by rw [eB]; exact hsB) f5 f6 hp1 hp2 hs1 hs2; rw [eA, eB] at hmg; exact ⟨C1 ++ C2, hmg.2, hmg.1, by rw [vals_app]; simp only [List.append_assoc, List.append_nil]⟩)
     refine wp_skip ?_
     refine fin_end S (results0 Tryz.results157) ?_
     ((first | (have hq2 := hp2; skip) | (obtain ⟨C2, hp2, hs2, e2⟩ : ∃ C2, C2.Perm (A2 ++ B2) ∧ Srt (ltC c) C2 ∧ P ++ (vals C1 ++ (vals A2 ++ (vals B2 ++ D))) = (P ++ vals C1) ++ (vals C2 ++ D) := ⟨A2 ++ B2, List.Perm.refl _, srt_or sA2 sB2 (by omega), by rw [vals_app]; simp only [List.append_assoc]⟩; rw [e2])); have hmg := merge_le hC.ord (by rw [eA]; exact hsA) (by rw [eB]; exact hsB) f5 f6 hp1 hp2 hs1 hs2; rw [eA, eB] at hmg; exact ⟨C1 ++ C2, hmg.2, hmg.1, by rw [vals_app]; simp only [List.append_assoc, List.append_nil]⟩)
   (clear S a; intro h a S)
   (revert S a; revert hZ Z; refine go 5 ?_; intro a S)
   refine wpc_false S rfl ?_
   refine wp_skip ?_
   refine fin_end S (results0 Tryz.results157) ?_
   ((first | (have hq2 := hp2; skip) | (obtain ⟨C2, hp2, hs2, e2⟩ : ∃ C2, C2.Perm (A2 ++ B2) ∧ Srt (ltC c) C2 ∧ P ++ (vals C1 ++ (vals A2 ++ (vals B2 ++ D))) = (P ++ vals C1) ++ (vals C2 ++ D) := ⟨A2 ++ B2, List.Perm.refl _, srt_or sA2 sB2 (by omega), by rw [vals_app]; simp only [List.append_assoc]⟩; rw [e2])); have hmg := merge_le hC.ord (by rw [eA]; exact hsA) (by rw [eB]; exact hsB) f5 f6 hp1 hp2 hs1 hs2; rw [eA, eB] at hmg; exact ⟨C1 ++ C2, hmg.2, hmg.1, by rw [vals_app]; simp only [List.append_assoc, List.append_nil]⟩))
  (revert S a; refine go 6 ?_; intro a S)
  refine wpc_sp S rfl ?_ ?_ <;> intro h
  · (revert S a; refine go 3 ?_; intro Z hZ a S)
    first | (refine wv S (sv_subN S rfl rfl rfl (by omega)) ?_; clear S a; intro a S) | (refine wv S (sv_sub S rfl rfl rfl (by omega)) ?_; clear S a; intro a S)
    (revert S a; revert hZ Z; refine go 7 ?_; intro a S)
    (refine hZ _ _ ?_)
    exact zzSt1
  (revert S a; refine go 9 ?_; intro a S)
  (refine hZ _ _ ?_)
  exact zzSt1
end Go.Proofs.YtbhipiepfclneaaGreatDoor
