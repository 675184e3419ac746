/- Walks. -/
import Derived.Test.YtgefmjghdijbfaaGreatDoorQ23
import Derived.Test.YtgefmjghdijbfaaGreatDoorQ18
set_option maxHeartbeats 32000000
set_option maxRecDepth 20000
namespace Go.Proofs.YtgefmjghdijbfaaGreatDoor
open Go Go.Wk Go.Un Go.De Go.Num
set_option linter.unusedSimpArgs false
set_option linter.unusedVariables false
attribute [local irreducible] Go.wpList Go.Code.wp Go.wpStill Go.Wk.wpPre Go.bodyPost Go.Calls Go.Wk.Ct Go.Wk.OwnS Go.Wk.wpG Go.Wk.wpM
def Zs (a : Ans) : Prop := a.1 ≠ 0 → a.2 = zV
theorem Zs_no (e : Int) : Zs (noA e) := fun _ => rfl
theorem Zs_yes (v : Vv) : Zs (yesA v) := fun h => absurd rfl h
theorem Zs_if {p : Prop} [Decidable p] {a b : Ans} (ha : Zs a) (hb : Zs b) : Zs (if p then a else b) := by
 by_cases hp : p
 ·rw [if_pos hp]; exact ha
 ·rw [if_neg hp]; exact hb
theorem Zs_nth : ∀ {l : List Ans} (k : Nat), (∀ a ∈ l, Zs a) → Zs (nthA l k)
 | [], _, _ => Zs_no 0
 | a :: r, 0, h => h a (List.mem_cons_self ..)
 | a :: r, k + 1, h => Zs_nth (l := r) k fun b hb => h b (List.mem_cons_of_mem _ hb)
theorem Zs_op2 {s : List UInt8} {f : Vv → Vv → Ans} (h : op2 s = some f) (x y : Vv) : Zs (f x y) := by
 unfold op2 at h
 rw [Option.map_eq_some_iff] at h
 obtain ⟨p, h1, rfl⟩ := h
 have h2 := List.mem_of_find?_eq_some h1
 unfold ops2 at h2
 simp only [List.mem_cons, List.not_mem_nil, or_false] at h2
 rcases h2 with rfl | rfl | rfl | rfl | rfl | rfl | rfl | rfl | rfl | rfl | rfl | rfl
 all_goals first
  | exact Zs_if (Zs_if (Zs_no _) (Zs_yes _)) (Zs_if (Zs_if (Zs_no _) (Zs_yes _)) (Zs_no _))
  | exact Zs_if (Zs_no _) (Zs_if (Zs_no _) (Zs_yes _))
  | exact Zs_yes _
theorem Zs_op1 (s : List UInt8) (x : Vv) : Zs (op1 s x) :=
 Zs_if (Zs_yes _) (Zs_if (Zs_if (Zs_yes _) (Zs_no _)) (Zs_if (Zs_yes _) (Zs_if (Zs_yes _) (Zs_if (Zs_yes _) (Zs_if (Zs_if (Zs_yes _) (Zs_no _)) (Zs_no _))))))
theorem Zs_parts (q : VH) (l : List Ans) : Zs (partsO q l) := Zs_if (Zs_no _) (Zs_if (Zs_no _) (Zs_if (Zs_no _) (Zs_yes _)))
theorem Zs_field (cs : List KC) (nm : List UInt8) (v : Vv) : Zs (fieldO cs nm v) := by
 unfold fieldO
 refine Zs_if (Zs_no _) ?_
 split
 ·exact Zs_no _
 ·refine Zs_if (Zs_no _) ?_
  split
  ·exact Zs_no _
  ·split
   ·exact Zs_no _
   ·exact Zs_yes _
theorem Zs_evK {cs : List KC} {vs : List Bd} {h : EH} {l : List Ans} (hl : ∀ a ∈ l, Zs a) : Zs (evK cs vs h l) := by
 unfold evK
 refine Zs_if (Zs_yes _) (Zs_if ?_ (Zs_if (Zs_parts _ _) (Zs_if ?_ (Zs_if (Zs_if (Zs_no _) (Zs_field _ _ _)) (Zs_if (Zs_if (Zs_no _) (Zs_if (Zs_nth _ hl) (Zs_nth _ hl))) (Zs_if (Zs_if (Zs_if (Zs_no _) (Zs_yes _)) (Zs_if (Zs_no _) (Zs_yes _))) (Zs_if (Zs_no _) ?_)))))))
 ·split
  ·exact Zs_no _
  ·exact Zs_yes _
 ·split
  ·exact Zs_no _
  ·exact Zs_if (Zs_no _) (Zs_parts _ _)
 ·split
  ·exact Zs_op1 _ _
  ·split
   ·rename_i f ho; exact Zs_op2 ho _ _
   ·exact Zs_no _
  ·exact Zs_no _
theorem Zs_evL {cs : List KC} {vs : List Bd} : ∀ (L : Ef), ∀ a ∈ evL cs vs L, Zs a
 | .nil, a, ha => by cases ha
 | .cons h L r, a, ha => by
  rcases List.mem_cons.1 ha with rfl | ha
  ·exact Zs_evK (Zs_evL L)
  ·exact Zs_evL r a ha
theorem evE_no {cs : List KC} {vs : List Bd} {h : EH} {L : Ef} (he : (evE cs vs h L).1 ≠ 0) : evE cs vs h L = noA (evE cs vs h L).1 := by
 have := Zs_evK (cs := cs) (vs := vs) (h := h) (Zs_evL L) he
 exact Prod.ext rfl this
def atR {α : Type} (l : Rose α) (q : α → Rose α → Bool) (k : Nat) : Bool := match l.get? k with | some x => q x.1 x.2 | none => false
theorem atR_some {α : Type} {l : Rose α} {q : α → Rose α → Bool} {k : Nat} {x : α × Rose α} (h : l.get? k = some x) : atR l q k = q x.1 x.2 := by unfold atR; rw [h]
theorem deepL_any (d : Int) : ∀ L : Ef, deepL L d = anyR (fun _ L' => deepE L' d) L
 | .nil => rfl
 | .cons h L r => by
  show ((decide (64 < d) || deepL L (d + 1)) || deepL r d) = (deepE L d || anyR (fun _ L' => deepE L' d) r)
  rw [deepL_any d r]; rfl
theorem formEL_any : ∀ L : Ef, formEL L = !anyR (fun h L' => !formE h L') L
 | .nil => rfl
 | .cons h L r => by
  show (formE h L && formEL r) = !(!formE h L || anyR (fun h L' => !formE h L') r)
  rw [formEL_any r]
  cases formE h L <;> simp
def DpC (n : Nat) : Prop := ∀ (F : Heap) (h : EH) (L : Ef) (xs : List Value) (d : Int), L.size < n → ExC F xs h L → 0 ≤ d → d ≤ 65 → Ct Tryz.prog 29 [.agg ⟨xs⟩, .int .i64 d] F [] (fun _ _ u => u = .bool (deepE L d))
theorem deep1Ct {n : Nat} (hD : DpC n) (F : Heap) (b : Nat) (d : Int) (h : EH) (L : Ef) (xs : List Value) (hb : Cel F b 0 (.int .i64 d)) (h0 : 0 ≤ d) (h1 : d ≤ 64) (hn : L.size < n) (hX : ExC F xs h L) : Ct Tryz.prog 76 ([] ++ [.agg ⟨xs⟩] ++ [ptr b]) F [] (fun _ _ u => u = .bool (deepE L (d + 1))) := by
 have hc := hD F h L xs (d + 1) hn hX (by omega) (by omega)
 obtain ⟨a1, n1, c1, ao, cap, rfl, -, -⟩ := exc_slc hX
 refine Ct.enter Tryz.func76 rfl Tryz.ntmps76 rfl fun w0 a S => ?_
 refine wp_sr fun Z hZ => ?_
 (refine wbx S ?_; clear S a; intro b2 a w S)
 (revert S a; revert hZ Z; refine go 5 ?_; intro Z hZ a S)
 (refine wv S (sv_loadF S rfl rfl hb) ?_; clear S a; intro a S)
 (revert S a; refine go 1 ?_; intro a S)
 (refine wc0 S (hc) ?_; clear S a; intro v a w hv S; subst hv)
 (revert S a; revert hZ Z; refine go 3 ?_; intro a S)
 refine wp_ret (fr1 S Tryz.results76 ?_)
 rfl
theorem zzEvL0 {p : Prop} (h : p := by (congr 1; show _ = (decide (64 < d) || deepL L (d + 1)); first | (rw [decide_eq_true (by omega)]; rfl) | (rw [decide_eq_false (by omega), Bool.false_or, deepL_any]; exact anyN_rose (fun k x hx => atR_some hx)) | trace_state)) : p := h
theorem deepCt : ∀ n, DpC n := by
 intro n
 induction n with
 | zero => intro F h L xs d hn; omega
 | succ n ih =>
 intro F eh L xs d hn hX h0 h1
 obtain ⟨a1, n1, c1, ao, cap, rfl, -, hL⟩ := exc_slc hX
 refine Ct.enter Tryz.func29 rfl Tryz.ntmps29 rfl fun w0 a S => ?_
 refine wp_sr fun Z hZ => ?_
 (refine wbx S ?_; clear S a; intro b2 a w S)
 (refine wbx S ?_; clear S a; intro b3 a w S)
 (revert S a; revert hZ Z; refine go 7 ?_; intro Z hZ a S)
 refine wgd S ?_ ?_
 ·(clear S; intro h S)
  (revert S a; refine go 6 ?_; intro a S)
  (have hd64 : d ≤ 64 := (by omega); replace S := St.pullB b3 S; have S' := frz1 S; clear S; obtain ⟨F6, hle6, hb3, S⟩ := S'; have hb3n : Cel F6 b3 0 (.int .i64 d) := ⟨_, _, _, hb3, rfl⟩; replace hL := hL.mono hle6; refine wc0 S (cfECt F6 _ _ _ hL.sq 76 [] [ptr b3] (atR L fun _ L' => deepE L' (d + 1)) (fun k cs hk hC => by obtain ⟨x, c1, u, hx, rfl, hR, hT⟩ := hC; rw [atR_some hx]; have hxs := Rose.size_get hx; exact deep1Ct ih F6 b3 d x.1 x.2 _ hb3n h0 hd64 (by omega) (exc_of hR hT))) ?_; clear S a; intro v a w hv S; subst hv)
  (revert S a; revert hZ Z; refine go 4 ?_; intro a S)
  refine wp_ret (fr1 S Tryz.results29 ?_)
  exact zzEvL0
 (clear S a; intro h a S)
 (revert S a; revert hZ Z; refine go 7 ?_; intro a S)
 refine wp_ret (fr1 S Tryz.results29 ?_)
 exact zzEvL0
theorem zzEvL1 {p : Prop} (h : p := by (rw [hfp]; first | (rw [idxF_at (by omega), if_pos (by rw [atN_some hx, decide_eq_true_eq]; assumption)]; done) | (rw [idxF_end (by omega)]; done) | trace_state)) : p := h
theorem indexS2Ct (F : Heap) (l : List (List UInt8)) (s : List UInt8) (v : Value) (h : LiM F 1 StR v l) : Ct Tryz.prog 122 [v, .string (bs s)] F [] (fun _ _ u => u = .int .i64 (idxN (atN l fun x => decide (s = x)) l.length)) := by
 obtain ⟨ao, cap, rfl, hcap, hpos⟩ := h
 refine Ct.enter Tryz.func122 rfl Tryz.ntmps122 rfl fun w0 a S => ?_
 (revert S a; refine go 12 ?_; intro Z hZ a S)
 refine wpc_loop (fun m a w' => ∃ (k : Nat), m = l.length - k ∧ k ≤ l.length ∧ idxN (atN l fun x => decide (s = x)) l.length = idxF (atN l fun x => decide (s = x)) k (l.length - k) ∧ St 19 [(0, .slice ao l.length cap), (1, .string (bs s)), (7, .int .i64 l.length), (8, .int .i64 k)] w0 F [] F [] a w') ?_ ?_
 ·(refine ⟨l.length, 0, by omega, Nat.zero_le _, rfl, ?_⟩; refine S.keep ?_; exact zk)
 (clear S; rintro m a w ⟨k, rfl, hkl, hfp, S⟩)
 (revert S a; refine go 5 ?_; intro Z hZ a S)
 refine wpc_sp S rfl ?_ ?_ <;> intro h
 ·(revert S a; revert hZ Z; refine go 9 ?_; intro Z hZ a S)
  (refine wp_seq_k ?_; intro Z hZ)
  (obtain ⟨b8, o8, rfl, x, cs1, hx, hc1, rfl⟩ := LiM.pos hpos (k := k) (by omega))
  (revert S a; refine go 5 ?_; intro a S)
  (refine wv S (sv_loadF S rfl rfl (hc1 0 _ rfl)) ?_; clear S a; intro a S)
  (revert S a; revert hZ Z; refine go 3 ?_; intro a S)
  refine wpc_sp S rfl ?_ ?_ <;> intro h
  ·(revert S a; refine go 5 ?_; intro a S)
   refine wp_ret (fr1 S Tryz.results122 ?_)
   exact zzEvL1
  (revert S a; revert hZ Z; refine go 6 ?_; intro a S)
  change ∃ m', _ ∧ _
  (refine ⟨l.length - (k + 1), by omega, k + 1, rfl, by omega, ?_, ?_⟩; rotate_left 1; (refine S.keep ?_; exact zk); rw [hfp, idxF_at (by omega), if_neg (by rw [atN_some hx, decide_eq_true_eq]; assumption)])
 (refine wp_exit ?_; conv => whnf)
 clear hZ Z
 (revert S a; revert hZ Z; refine go 5 ?_; intro a S)
 refine wp_ret (fr1 S Tryz.results122 ?_)
 exact zzEvL1
theorem containsS2Ct (F : Heap) (l : List (List UInt8)) (s : List UInt8) (v : Value) (h : LiM F 1 StR v l) : Ct Tryz.prog 77 [v, .string (bs s)] F [] (fun _ _ u => u = .bool (decide (s ∈ l))) := by
 have hc := indexS2Ct F l s v h
 obtain ⟨ao, cap, rfl, hcap, hpos⟩ := h
 refine Ct.enter Tryz.func77 rfl Tryz.ntmps77 rfl fun w0 a S => ?_
 (revert S a; refine go 7 ?_; intro Z hZ a S)
 (refine wc0 S (hc) ?_; clear S a; intro v a w hv S; subst hv)
 (revert S a; revert hZ Z; refine go 4 ?_; intro a S)
 refine wp_ret (fr1 S Tryz.results77 ?_)
 (congr 1; show anyN (atN l fun x => decide (s = x)) l.length = _; rw [anyN_list (q := fun x => decide (s = x)) (fun k x hx => atN_some hx), Bool.eq_iff_iff, List.any_eq_true, decide_eq_true_eq]; exact ⟨fun ⟨x, h1, h2⟩ => (by rw [of_decide_eq_true h2]; exact h1), fun h1 => ⟨s, h1, decide_eq_true rfl⟩⟩)
theorem fK4 {h : EH} {n : Nat} (k : h.k = 4) : formK h n = (decide (n ≠ 1) && decide (n ≤ 16)) := by unfold formK; rw [if_pos k]
theorem fK5 {h : EH} {n : Nat} (k : h.k = 5) : formK h n = true := by unfold formK; rw [if_neg (by omega), if_pos k]
theorem fK7 {h : EH} {n : Nat} (k : h.k = 7) : formK h n = decide (n = 1) := by unfold formK; rw [if_neg (by omega), if_neg (by omega), if_pos k]
theorem fK8 {h : EH} {n : Nat} (k : h.k = 8) : formK h n = decide (n = 3) := by unfold formK; rw [if_neg (by omega), if_neg (by omega), if_neg (by omega), if_pos k]
theorem fK6 {h : EH} {n : Nat} (k : h.k = 6) : formK h n = (((((op2 h.nm).isSome || decide (h.nm = sAnd)) || decide (h.nm = sOr)) && decide (n = 2)) || (decide (n = 1) && decide (h.nm ∈ ones))) := by unfold formK; rw [if_neg (by omega), if_neg (by omega), if_neg (by omega), if_neg (by omega), if_pos k]
theorem fK0 {h : EH} {n : Nat} (k : h.k ≠ 4 ∧ h.k ≠ 5 ∧ h.k ≠ 7 ∧ h.k ≠ 8 ∧ h.k ≠ 6) : formK h n = false := by unfold formK; rw [if_neg k.1, if_neg k.2.1, if_neg k.2.2.1, if_neg k.2.2.2.1, if_neg k.2.2.2.2]
theorem formE_k {h : EH} {L : Ef} (h1 : h.k ≠ 1) (h2 : h.k ≠ 2) : formE h L = (formK h L.len && formEL L) := by unfold formE; rw [if_neg h1, if_neg h2]
def FmC (n : Nat) : Prop := ∀ (F : Heap) (bm : Nat) (cs : List KC) (vs : List Bd) (h : EH) (L : Ef) (xs : List Value), L.size < n → Mac F bm cs vs → ExC F xs h L → GE h L → Ct Tryz.prog 30 [ptr bm, .agg ⟨xs⟩] F [] (fun _ _ u => u = .bool (formE h L))
theorem form1Ct {n : Nat} (hD : FmC n) (F : Heap) (b bm : Nat) (cs : List KC) (vs : List Bd) (h : EH) (L : Ef) (xs : List Value) (hb : Cel F b 0 (ptr bm)) (hM : Mac F bm cs vs) (hn : L.size < n) (hX : ExC F xs h L) (hg : GE h L) : Ct Tryz.prog 78 ([] ++ [.agg ⟨xs⟩] ++ [ptr b]) F [] (fun _ _ u => u = .bool (!formE h L)) := by
 have hc := hD F bm cs vs h L xs hn hM hX hg
 obtain ⟨a1, n1, c1, ao, cap, rfl, -, -⟩ := exc_slc hX
 refine Ct.enter Tryz.func78 rfl Tryz.ntmps78 rfl fun w0 a S => ?_
 refine wp_sr fun Z hZ => ?_
 (refine wbx S ?_; clear S a; intro b2 a w S)
 (revert S a; revert hZ Z; refine go 4 ?_; intro Z hZ a S)
 (refine wv S (sv_loadF S rfl rfl hb) ?_; clear S a; intro a S)
 (revert S a; refine go 1 ?_; intro a S)
 (refine wc0 S (hc) ?_; clear S a; intro v a w hv S; subst hv)
 (revert S a; revert hZ Z; refine go 4 ?_; intro a S)
 refine wp_ret (fr1 S Tryz.results78 ?_)
 rfl
theorem ones_lim {F : Heap} {b : Nat} {e : TypeId} {R} (h : F b = some (.cells ⟨[.string (bs sNot), .string (bs sNeg), .string (bs sLen), .string (bs sBig), .string (bs sInt)]⟩ e R)) : LiM F 1 StR (.slice (some ⟨b, 0, none⟩) 5 5) ones := by
 refine ⟨_, _, rfl, ⟨Nat.le_refl 5, show 5 ≤ _ by decide⟩, fun _ => ⟨b, 0, rfl, fun k z hz => ?_⟩⟩
 match k, hz with
 | 0, hz => cases hz; exact ⟨_, fun j u hj => ⟨_, _, _, h, by match j, hj with | 0, hj => exact hj⟩, rfl, rfl⟩
 | 1, hz => cases hz; exact ⟨_, fun j u hj => ⟨_, _, _, h, by match j, hj with | 0, hj => exact hj⟩, rfl, rfl⟩
 | 2, hz => cases hz; exact ⟨_, fun j u hj => ⟨_, _, _, h, by match j, hj with | 0, hj => exact hj⟩, rfl, rfl⟩
 | 3, hz => cases hz; exact ⟨_, fun j u hj => ⟨_, _, _, h, by match j, hj with | 0, hj => exact hj⟩, rfl, rfl⟩
 | 4, hz => cases hz; exact ⟨_, fun j u hj => ⟨_, _, _, h, by match j, hj with | 0, hj => exact hj⟩, rfl, rfl⟩
theorem ops_some {F : Heap} {es : List (List UInt8 × Value)} (h : OpsM F es ops2) (s : List UInt8) : (mGet es s).isSome = (op2 s).isSome := by
 rcases h.get s with ⟨f, u, h1, h2, -⟩ | ⟨h1, h2⟩
 ·rw [h2, show op2 s = some f from h1]; rfl
 ·rw [h2, show op2 s = none from h1]; rfl
theorem zzEvM0 {p : Prop} (h : p := by (congr 1; first | (rw [formE_k hk1 hk2, ← ht6, (by assumption : t6 = true), Bool.true_and, formEL_any, anyN_rose (q := fun h L' => !formE h L') (fun k x hx => atR_some hx)]; done) | (rw [formE_k hk1 hk2, ← ht6, (by assumption : t6 = false), Bool.false_and]; done) | (unfold formE; first | (rw [if_pos (by omega)]; rfl) | (rw [if_neg (by omega), if_pos (by omega)]; done)) | trace_state)) : p := h
theorem zzEvM1 {p : Prop} (h : p := by ((first | (refine ⟨F5, ?_⟩; apply Exists.intro; refine ⟨hle5, ?_⟩; apply And.intro) | (refine ⟨F, ?_⟩; apply Exists.intro; refine ⟨fun _ _ h => h, ?_⟩; apply And.intro)); rotate_left 1; (refine ⟨⟨by omega, by omega⟩, ?_⟩; refine S.keep ?_; exact zk); first | (rw [fK5 (by omega)]; done) | (rw [fK7 (by omega), Bool.eq_iff_iff, beq_iff_eq, decide_eq_true_eq]; omega) | (rw [fK8 (by omega), Bool.eq_iff_iff, beq_iff_eq, decide_eq_true_eq]; omega) | (rw [fK4 (by omega), decide_eq_false (show ¬ L.len ≠ 1 by omega)]; rfl) | (rw [fK4 (by omega), decide_eq_true (show L.len ≠ 1 by omega), Bool.true_and, Bool.eq_iff_iff, decide_eq_true_eq, decide_eq_true_eq]; omega) | (rw [fK0 (by omega)]; done) | (rw [fK6 (by omega), ← ht8, (by assumption : t8 = true), decide_eq_true (show L.len = 2 by omega)]; rfl) | (rw [fK6 (by omega), decide_eq_false (show ¬ L.len = 2 by omega), Bool.and_false, Bool.false_or]; first | (rw [decide_eq_true (show L.len = 1 by omega), Bool.true_and]; done) | (rw [decide_eq_false (show ¬ L.len = 1 by omega)]; rfl)) | (rw [fK6 (by omega), ← ht8, (by assumption : t8 = false), Bool.false_and, Bool.false_or]; first | (rw [decide_eq_true (show L.len = 1 by omega), Bool.true_and]; done) | (rw [decide_eq_false (show ¬ L.len = 1 by omega)]; rfl)) | trace_state)) : p := h
theorem zzEvM2 {p : Prop} (h : p := by (apply Exists.intro; apply And.intro; rotate_left 1; (refine S.keep ?_; exact zk); first | (simp only [*, Bool.true_or, Bool.false_or, Bool.or_true, decide_true, beqL]; done) | (rw [beqL, (by assumption : (op2 eh.nm).isSome = false), decide_eq_false (show ¬ eh.nm = sAnd by assumption)]; rfl) | (rw [(by assumption : (op2 eh.nm).isSome = false), decide_eq_true (show eh.nm = sAnd by assumption)]; rfl) | (rw [(by assumption : (op2 eh.nm).isSome = true)]; rfl) | trace_state)) : p := h
theorem formCt : ∀ n, FmC n := by
  intro n
  induction n with
  | zero => intro F bm cs vs h L xs hn; omega
  | succ n ih =>
  intro F bm cs vs eh L xs hn hM hX hg
  have hMc := hM
  obtain ⟨a1, n1, c1, ao, cap, rfl, hvl, hL⟩ := exc_slc hX
  obtain ⟨⟨tv, aov, capv, bt, es, hm0, hm1, hm2, hvs, hes, hops, hK⟩, hT, hEr, hGB⟩ := hM
  have hsv : eh.v.s.length ≤ 200000 := hg.1.1.2
  have hzv : eh.vl.size ≤ 5000 := hg.1.2.2
  have hck := checkVCt F eh.v eh.vl [.int .u8 (eh.v.k : Int), .int .i64 eh.v.n, .string (bs eh.v.s), .slice a1 n1 c1] (by omega) ⟨_, rfl, hvl, by omega⟩
  refine Ct.enter Tryz.func30 rfl Tryz.ntmps30 rfl fun w0 a S => ?_
  refine wp_sr fun Z hZ => ?_
  (refine wbx S ?_; clear S a; intro b2 a w S)
  (refine wbx S ?_; clear S a; intro b3 a w S)
  (revert S a; revert hZ Z; refine go 14 ?_; intro a S)
  (refine wp_seq_k ?_; intro Z hZ)
  replace hZ : ∀ (a' : Act) (w' : World), (∃ (F3 : Heap) (t : Bool), (∀ b o, F b = some o → F3 b = some o) ∧ t = formK eh L.len ∧ (eh.k ≠ 1 ∧ eh.k ≠ 2) ∧ St 86 [(2, ptr b2), (3, ptr b3), (4, .bool false), (6, .bool t)] w0 F [] F3 [[(b3, .cells ⟨[.int .u8 (eh.k : Int), .int .i64 eh.l, .int .i64 eh.c, .string (bs eh.nm), .int .u8 (eh.v.k : Int), .int .i64 eh.v.n, .string (bs eh.v.s), .slice a1 n1 c1, .slice ao L.len cap]⟩ 36 (0, 0))], [(b2, .cells ⟨[ptr bm]⟩ 71 (0, 0))]] a' w') → Z a' w' := (by
   (intro a w hM; refine hZ _ _ ?_; clear hZ Z; clear S; obtain ⟨F3, t6, hF3, ht6, ⟨hk1, hk2⟩, S⟩ := hM)
   (revert S a; refine go 3 ?_; intro Z hZ a S)
   refine wgd S ?_ ?_
   · (clear S; intro h S)
     (revert S a; refine go 6 ?_; intro a S)
     (replace S := St.pullB b2 S; have S' := frz1 S; clear S; obtain ⟨F6, hle6, hb2, S⟩ := S'; have hb2n : Cel F6 b2 0 (ptr bm) := ⟨_, _, _, hb2, rfl⟩; replace hL := (hL.mono hF3).mono hle6; refine wc0 S (cfECt F6 _ _ _ hL.sq 78 [] [ptr b2] (atR L fun h L' => !formE h L') (fun k cs' hk hC => by obtain ⟨x, c1, u, hx, rfl, hR, hT⟩ := hC; rw [atR_some hx]; have hxs := Rose.size_get hx; exact form1Ct ih F6 b2 bm cs vs x.1 x.2 _ hb2n ((hMc.mono hF3).mono hle6) (by omega) (exc_of hR hT) (GEl.get hg.2.2 hx))) ?_; clear S a; intro v a w hv S; subst hv)
     (revert S a; revert hZ Z; refine go 6 ?_; intro a S)
     refine wp_ret (fr1 S Tryz.results30 ?_)
     exact zzEvM0
   (clear S a; intro h a S)
   (revert S a; revert hZ Z; refine go 8 ?_; intro a S)
   refine wp_ret (fr1 S Tryz.results30 ?_)
   (congr 1; first | (rw [formE_k hk1 hk2, ← ht6, (by assumption : t6 = true), Bool.true_and, formEL_any, anyN_rose (q := fun h L' => !formE h L') (fun k x hx => atR_some hx)]; done) | (rw [formE_k hk1 hk2, ← ht6, (by assumption : t6 = false), Bool.false_and]; done) | (unfold formE; first | (rw [if_pos (by omega)]; rfl) | (rw [if_neg (by omega), if_pos (by omega)]; done)) | trace_state))
  (revert S a; refine go 11 ?_; intro a S)
  refine wpc_sp S rfl ?_ ?_ <;> intro h
  · (revert S a; refine go 3 ?_; intro Z hZ a S)
    (refine wc0 S (hck) ?_; clear S a; intro v a w hv S; subst hv)
    (revert S a; revert hZ Z; refine go 4 ?_; intro a S)
    refine wp_ret (fr1 S Tryz.results30 ?_)
    exact zzEvM0
  (revert S a; refine go 5 ?_; intro a S)
  refine wpc_sp S rfl ?_ ?_ <;> intro h
  · (revert S a; refine go 4 ?_; intro a S)
    refine wp_ret (fr1 S Tryz.results30 ?_)
    exact zzEvM0
  (revert S a; refine go 5 ?_; intro a S)
  refine wpc_sp S rfl ?_ ?_ <;> intro h
  · (revert S a; refine go 4 ?_; intro a S)
    refine wgd S ?_ ?_
    · (clear S; intro h S)
      (revert S a; refine go 6 ?_; intro a S)
      (refine hZ _ _ ?_)
      exact zzEvM1
    (clear S a; intro h a S)
    (revert S a; refine go 4 ?_; intro a S)
    (refine hZ _ _ ?_)
    exact zzEvM1
  (revert S a; refine go 5 ?_; intro a S)
  refine wpc_sp S rfl ?_ ?_ <;> intro h
  · (revert S a; refine go 3 ?_; intro a S)
    (refine hZ _ _ ?_)
    exact zzEvM1
  (revert S a; refine go 5 ?_; intro a S)
  refine wpc_sp S rfl ?_ ?_ <;> intro h
  · (revert S a; refine go 5 ?_; intro a S)
    (refine hZ _ _ ?_)
    exact zzEvM1
  (revert S a; refine go 5 ?_; intro a S)
  refine wpc_sp S rfl ?_ ?_ <;> intro h
  · (revert S a; refine go 5 ?_; intro a S)
    (refine hZ _ _ ?_)
    exact zzEvM1
  (revert S a; refine go 5 ?_; intro a S)
  refine wpc_sp S rfl ?_ ?_ <;> intro h
  · (refine wp_seq_k ?_; intro Z hZ)
    (refine wpc_mixM [0, 1, 2, 3, 4, 5, 6, 7, 8, 9] [0, 3, 5, 6] [] (.one 0 (.one 1 (.one 2 (.one 3 (.one 4 (.one 5 (.one 6 (.one 7 (.one 8 (.one 9 (.one 10 (.one 11 .nil)))))))))))) [b2, b3] S mixed (by kernel_rfl) ?_; clear S; intro w S)
    (revert S a; refine go 3 ?_; intro a S)
    (refine wlF S rfl (fun w' S => sv_loadF S rfl rfl hm2) ?_; clear S a; intro a S)
    (revert S a; refine go 2 ?_; intro a S)
    (refine wlF S rfl (fun w' S => sv_lookupF (enc := kS) S rfl rfl rfl hes) ?_; clear S a; intro a S)
    (rw [if_pos rfl, ops_some hops] at S; generalize (mGet es eh.nm).getD _ = gf at S)
    (revert S a; revert hZ Z; refine go 11 ?_; intro a S)
    (refine wp_seq_k ?_; intro Z hZ)
    replace hZ : ∀ (a' : Act) (w' : World), (∃ (t : Bool), t = (((op2 eh.nm).isSome || decide (eh.nm = sAnd)) || decide (eh.nm = sOr)) ∧ St 86 [(2, ptr b2), (3, ptr b3), (4, .bool false), (5, .int .i64 L.len), (8, .bool t)] w0 F [] F [[(b3, .cells ⟨[.int .u8 (eh.k : Int), .int .i64 eh.l, .int .i64 eh.c, .string (bs eh.nm), .int .u8 (eh.v.k : Int), .int .i64 eh.v.n, .string (bs eh.v.s), .slice a1 n1 c1, .slice ao L.len cap]⟩ 36 (0, 0))], [(b2, .cells ⟨[ptr bm]⟩ 71 (0, 0))]] a' w') → Z a' w' := (by
     (intro a w hM; refine hZ _ _ ?_; clear hZ Z; clear S; obtain ⟨t8, ht8, S⟩ := hM)
     (revert S a; refine go 3 ?_; intro a S)
     refine wgd S ?_ ?_
     · (clear S; intro h S)
       (revert S a; refine go 5 ?_; intro a S)
       refine wgd S ?_ ?_
       · (clear S; intro h S)
         (revert S a; refine go 5 ?_; intro a S)
         refine wgd S ?_ ?_
         · (clear S; intro h S)
           (refine wpl_buildSlice S rfl rfl rfl rfl rfl rfl (by rfl) (by simp [Value.cells, splice, splice]) rfl (by rfl) (by rfl) ?_; clear S a; intro b72 a w hown S)
           (revert S a; refine go 5 ?_; intro a S)
           (replace S := St.pullB b72 S; have S' := frz1 S; clear S; obtain ⟨F5, hle5, hb72, S⟩ := S'; refine wc0 S (containsS2Ct F5 ones eh.nm _ (ones_lim hb72)) ?_; clear S a; intro v a w hv S; subst hv)
           (revert S a; refine go 5 ?_; intro a S)
           (refine hZ _ _ ?_)
           exact zzEvM1
         (clear S a; intro h a S)
         (revert S a; refine go 8 ?_; intro a S)
         (refine hZ _ _ ?_)
         exact zzEvM1
       (clear S a; intro h a S)
       (revert S a; refine go 10 ?_; intro a S)
       (refine hZ _ _ ?_)
       exact zzEvM1
     (clear S a; intro h a S)
     (revert S a; refine go 9 ?_; intro a S)
     refine wgd S ?_ ?_
     · (clear S; intro h S)
       (refine wpl_buildSlice S rfl rfl rfl rfl rfl rfl (by rfl) (by simp [Value.cells, splice, splice]) rfl (by rfl) (by rfl) ?_; clear S a; intro b72 a w hown S)
       (revert S a; refine go 5 ?_; intro a S)
       (replace S := St.pullB b72 S; have S' := frz1 S; clear S; obtain ⟨F5, hle5, hb72, S⟩ := S'; refine wc0 S (containsS2Ct F5 ones eh.nm _ (ones_lim hb72)) ?_; clear S a; intro v a w hv S; subst hv)
       (revert S a; refine go 5 ?_; intro a S)
       (refine hZ _ _ ?_)
       exact zzEvM1
     (clear S a; intro h a S)
     (revert S a; refine go 8 ?_; intro a S)
     (refine hZ _ _ ?_)
     ((first | (refine ⟨F5, ?_⟩; apply Exists.intro; refine ⟨hle5, ?_⟩; apply And.intro) | (refine ⟨F, ?_⟩; apply Exists.intro; refine ⟨fun _ _ h => h, ?_⟩; apply And.intro)); rotate_left 1; (refine ⟨⟨by omega, by omega⟩, ?_⟩; refine S.keep ?_; exact zk); first | (rw [fK5 (by omega)]; done) | (rw [fK7 (by omega), Bool.eq_iff_iff, beq_iff_eq, decide_eq_true_eq]; omega) | (rw [fK8 (by omega), Bool.eq_iff_iff, beq_iff_eq, decide_eq_true_eq]; omega) | (rw [fK4 (by omega), decide_eq_false (show ¬ L.len ≠ 1 by omega)]; rfl) | (rw [fK4 (by omega), decide_eq_true (show L.len ≠ 1 by omega), Bool.true_and, Bool.eq_iff_iff, decide_eq_true_eq, decide_eq_true_eq]; omega) | (rw [fK0 (by omega)]; done) | (rw [fK6 (by omega), ← ht8, (by assumption : t8 = true), decide_eq_true (show L.len = 2 by omega)]; rfl) | (rw [fK6 (by omega), decide_eq_false (show ¬ L.len = 2 by omega), Bool.and_false, Bool.false_or]; first | (rw [decide_eq_true (show L.len = 1 by omega), Bool.true_and]; done) | (rw [decide_eq_false (show ¬ L.len = 1 by omega)]; rfl)) | (rw [fK6 (by omega), ← ht8, (by assumption : t8 = false), Bool.false_and, Bool.false_or]; first | (rw [decide_eq_true (show L.len = 1 by omega), Bool.true_and]; done) | (rw [decide_eq_false (show ¬ L.len = 1 by omega)]; rfl)) | trace_state))
    (revert S a; refine go 3 ?_; intro a S)
    refine wgd S ?_ ?_
    · (clear S; intro h S)
      (revert S a; refine go 7 ?_; intro a S)
      refine wgd S ?_ ?_
      · (clear S; intro h S)
        (revert S a; refine go 8 ?_; intro a S)
        (refine hZ _ _ ?_)
        exact zzEvM2
      (clear S a; intro h a S)
      (revert S a; refine go 5 ?_; intro a S)
      (refine hZ _ _ ?_)
      exact zzEvM2
    (clear S a; intro h a S)
    (revert S a; refine go 10 ?_; intro a S)
    (refine hZ _ _ ?_)
    exact zzEvM2
  refine wp_skip ?_
  (refine hZ _ _ ?_)
  exact zzEvM1
theorem evl1Ct (F : Heap) (x : Bd) (cs : List Value) (gx : GV x.2) (hf : BdR F x cs) : Ct Tryz.prog 32 ([] ++ [.agg ⟨cs⟩] ++ []) F [] (fun _ _ u => u = .bool (!mayV x.2)) := by
 obtain ⟨c, rfl, hV⟩ := hf
 have hck := checkVCt F x.2.1 x.2.2 c (Nat.le_trans gx.2.2 (by decide)) hV
 obtain ⟨a4, c4, rfl, hT4, hs4⟩ := vac_slc hV
 refine Ct.enter Tryz.func32 rfl Tryz.ntmps32 rfl fun w0 a S => ?_
 refine wp_sr fun Z hZ => ?_
 (refine wbx S ?_; clear S a; intro b1 a w S)
 (revert S a; revert hZ Z; refine go 6 ?_; intro Z hZ a S)
 (refine wc0 S (hck) ?_; clear S a; intro v a w hv S; subst hv)
 (revert S a; revert hZ Z; refine go 4 ?_; intro a S)
 refine wp_ret (fr1 S Tryz.results32 ?_)
 rfl
theorem all_any (vs : List Bd) : (vs.all fun x => mayV x.2) = !(vs.any fun x => !mayV x.2) := by
 induction vs with
 | nil => rfl
 | cons x r ih => rw [List.all_cons, List.any_cons, ih]; cases mayV x.2 <;> simp
theorem zzEvN0 {p : Prop} (h : p := by (unfold evalO; rw [all_any]; first | (rw [if_pos (by assumption)]; exact ans_no _ _) | (rw [if_neg (by rw [(by assumption : deepE L 1 = false)]; decide)]; first | (rw [if_pos (by assumption)]; exact ans_no _ _) | (rw [if_neg (by rw [hfe]; decide), if_neg (by rw [(by assumption : (vs.any fun x => !mayV x.2) = false)]; decide)]; first | (rw [hno (by assumption)]; exact ans_no _ _) | (have he0 : (evE css vs eh L).1 = 0 := (by omega); refine ⟨_, ?_, hV7⟩; rw [he0]; rfl)) | (rw [if_neg (by rw [(by assumption : formE eh L = true)]; decide), if_pos (by rw [(by assumption : (vs.any fun x => !mayV x.2) = true)]; rfl)]; exact ans_no _ _)) | trace_state)) : p := h
theorem evalCt (F : Heap) (hT : TabF F) (hE : ErrF F) (tv : Option Addr) (css : List KC) (hK : ∀ (F' : Heap) (nm : List UInt8), (∀ b o, F b = some o → F' b = some o) → Ct Tryz.prog 126 [.pointer tv, .string (bs nm)] F' [] (fun F2 _ u => ConsR F2 u (findC css nm)))
  (vs : List Bd) (vv : Value) (hvs : LiM F 5 BdR vv vs) (hGB : GVB vs) (eh : EH) (L : Ef) (xs : List Value) (hX : ExC F xs eh L) (hg : GE eh L) :
  Ct Tryz.prog 8 [.pointer tv, .agg ⟨xs⟩, vv] F [] (fun F' _ u => AnsR F' u (evalO css vs eh L)) := by
 have hXc := hX
 obtain ⟨a1, n1, c1, ao, cap, rfl, -, -⟩ := exc_slc hX
 have hvc := hvs
 obtain ⟨aov, capv, rfl, -, -⟩ := hvc
 have han : anyN (atN vs fun x => !mayV x.2) vs.length = vs.any fun x => !mayV x.2 := anyN_list (fun k x hx => atN_some hx)
 have hgv := evE_GV (cs := css) hGB hg
 have hno := evE_no (cs := css) (vs := vs) (h := eh) (L := L)
 refine Ct.enter Tryz.func8 rfl Tryz.ntmps8 rfl fun w0 a S => ?_
 refine wp_sr fun Z hZ => ?_
 (refine wbx S ?_; clear S a; intro b4 a w S)
 (refine wpl_alloc S rfl rfl rfl rfl ?_; clear S a; intro b6 a w S)
 (revert S a; revert hZ Z; refine go 6 ?_; intro Z hZ a S)
 (refine wcF S (operatorsCt F hT) ?_; clear S a; intro u9 F4 a w hv hF4 S; obtain ⟨bt, es, rfl, hes, hops⟩ := hv)
 (revert S a; refine go 1 ?_; intro a S)
 (refine wbx S ?_; clear S a; intro b15 a w S)
 (revert S a; revert hZ Z; refine go 5 ?_; intro Z hZ a S)
 (refine wp_seq_k ?_; intro Z hZ)
 (replace S := St.pullB b15 S; have S' := frz1 S; clear S; obtain ⟨F5, hle5, hb15, S⟩ := S'; have hF5 : ∀ b o, F b = some o → F5 b = some o := fun b o h => hle5 _ _ (hF4 _ _ h); have hM : Mac F5 b15 css vs := ⟨⟨tv, aov, capv, bt, es, ⟨_, _, _, hb15, rfl⟩, ⟨_, _, _, hb15, rfl⟩, ⟨_, _, _, hb15, rfl⟩, hvs.mono hF5, hle5 _ _ hes, hops.mono hle5, fun F' nm h => hK F' nm fun b o h9 => h _ _ (hF5 _ _ h9)⟩, hT.mono hF5, hE.mono hF5, hGB⟩; replace hXc := hXc.mono hF5)
 (revert S a; refine go 2 ?_; intro a S)
 (refine wc0 S (deepCt (L.size + 1) F5 eh L _ 1 (Nat.lt_succ_self _) hXc (by decide) (by decide)) ?_; clear S a; intro v a w hv S; subst hv)
 (revert S a; revert hZ Z; refine go 3 ?_; intro a S)
 refine wpc_sp S rfl ?_ ?_ <;> intro h
 ·(revert S a; refine go 2 ?_; intro Z hZ a S)
  (refine wso S rfl rfl ?_; clear S; intro w S)
  (revert S a; revert hZ Z; refine go 3 ?_; intro a S)
  refine wp_ret (fin_ret S (results2 Tryz.results8 (RV.cellO S rfl (by rfl)) (RV.tmp S rfl)) ?_)
  exact zzEvN0
 (revert S a; refine go 3 ?_; intro Z hZ a S)
 (refine wc0 S (formCt (L.size + 1) F5 b15 css vs eh L _ (Nat.lt_succ_self _) hM hXc hg) ?_; clear S a; intro v a w hv S; subst hv)
 (revert S a; revert hZ Z; refine go 4 ?_; intro a S)
 refine wpc_sp S rfl ?_ ?_ <;> intro h
 ·(revert S a; refine go 2 ?_; intro Z hZ a S)
  (refine wso S rfl rfl ?_; clear S; intro w S)
  (revert S a; revert hZ Z; refine go 3 ?_; intro a S)
  refine wp_ret (fin_ret S (results2 Tryz.results8 (RV.cellO S rfl (by rfl)) (RV.tmp S rfl)) ?_)
  exact zzEvN0
 (revert S a; refine go 2 ?_; intro Z hZ a S)
 (refine wc0 S (cfBCt F5 _ _ _ (hvs.mono hF5).sq 32 [] [] (atN vs fun x => !mayV x.2) (fun k cs hk hC => by obtain ⟨x, hx, hR⟩ := hC; rw [atN_some hx]; exact evl1Ct F5 x cs (hGB x (List.mem_of_getElem? hx)) hR)) ?_; clear S a; intro v a w hv S; subst hv; rw [han] at S)
 (revert S a; revert hZ Z; refine go 3 ?_; intro a S)
 refine wpc_sp S rfl ?_ ?_ <;> intro h
 ·(revert S a; refine go 2 ?_; intro Z hZ a S)
  (refine wso S rfl rfl ?_; clear S; intro w S)
  (revert S a; revert hZ Z; refine go 3 ?_; intro a S)
  refine wp_ret (fin_ret S (results2 Tryz.results8 (RV.cellO S rfl (by rfl)) (RV.tmp S rfl)) ?_)
  exact zzEvN0
 (revert S a; revert hZ Z; refine go 5 ?_; intro Z hZ a S)
 (have hfe : formE eh L = true := (by assumption); refine wcF S (evCt (L.size + 1) F5 b15 css vs eh L _ (Nat.lt_succ_self _) hM hXc hg hfe) ?_; clear S a; intro u8 F6 a w hv hF6 S; obtain ⟨cs6, rfl, hV6⟩ := hv; have hV6c := hV6; obtain ⟨a6, c6, rfl, hT6, hs6⟩ := vac_slc hV6)
 (revert S a; refine go 3 ?_; intro a S)
 (refine wpl_alloc S rfl rfl rfl rfl ?_; clear S a; intro b9 a w S)
 (refine wso S rfl rfl ?_; clear S; intro w S)
 (revert S a; revert hZ Z; refine go 9 ?_; intro Z hZ a S)
 refine wpc_sp S rfl ?_ ?_ <;> intro h
 ·(revert S a; refine go 3 ?_; intro Z hZ a S)
  (refine wso S rfl rfl ?_; clear S; intro w S)
  (revert S a; revert hZ Z; refine go 3 ?_; intro a S)
  refine wp_ret (fin_ret S (results2 Tryz.results8 (RV.cellO S rfl (by rfl)) (RV.tmp S rfl)) ?_)
  exact zzEvN0
 (revert S a; revert hZ Z; refine go 4 ?_; intro Z hZ a S)
 (refine wcF S (ownVCt _ F6 _ _ _ (Nat.le_refl _) (Nat.le_trans hgv.2.2 (by decide)) hV6c) ?_; clear S a; intro u7 F7 a w hv hF7 S; obtain ⟨cs7, rfl, hV7⟩ := hv; have hV7c := hV7; obtain ⟨a7, c7, rfl, hT7, hs7⟩ := vac_slc hV7)
 (refine wso S rfl rfl ?_; clear S; intro w S)
 (revert S a; revert hZ Z; refine go 3 ?_; intro a S)
 refine wp_ret (fin_ret S (results2 Tryz.results8 (RV.cellO S rfl (by rfl)) (RV.tmp S rfl)) ?_)
 exact zzEvN0
abbrev Ex := EH × Ef
def litX (v : Vv) : Ex := (⟨1, 0, 0, [], v.1, v.2⟩, .nil)
def callH (s : List UInt8) : EH := ⟨6, 0, 0, s, ⟨0, 0, []⟩, .nil⟩
def callX2 (s : List UInt8) (x y : Ex) : Ex := (callH s, .cons x.1 x.2 (.cons y.1 y.2 .nil))
def opn (k : Nat) : List UInt8 := if k = 0 then [43] else if k = 1 then [45] else if k = 2 then [42] else if k = 3 then [47] else [37]
theorem opn_op2 {k : Nat} (hk : k ≤ 4) : op2 (opn k) = some (numO k) := by
 match k, hk with
 | 0, _ => rfl
 | 1, _ => rfl
 | 2, _ => rfl
 | 3, _ => rfl
 | 4, _ => rfl
def zO (k : Nat) (a b : Int) : Int := if k = 0 then a + b else if k = 1 then a - b else if k = 2 then a * b else if k = 3 then a.tdiv b else a.tmod b
theorem tmod_in {a b : Int} (ha : in64 a) : in64 (a.tmod b) := by
 have h1 : (a.tmod b).natAbs ≤ a.natAbs := by rw [Int.natAbs_tmod]; exact Nat.mod_le _ _
 unfold in64 at *
 by_cases h0 : 0 ≤ a
 ·have := Int.tmod_nonneg b h0
  omega
 ·have h := Int.tmod_nonneg b (show 0 ≤ -a by omega)
  rw [Int.neg_tmod] at h
  omega
theorem intO_eq {k : Nat} (hk : k ≤ 4) {a b : Int} (ha : in64 a) : intO k a b = if 3 ≤ k ∧ b = 0 then (0, 81) else if in64 (zO k a b) then (zO k a b, 0) else (0, 80) := by
 match k, hk with
 | 0, _ => rfl
 | 1, _ => rfl
 | 2, _ => rfl
 | 3, _ =>
  show (if b = 0 then ((0 : Int), (81 : Int)) else if in64 (a.tdiv b) then (a.tdiv b, 0) else (0, 80)) = _
  by_cases h : b = 0
  ·rw [if_pos h, if_pos ⟨by decide, h⟩]
  ·rw [if_neg h, if_neg (show ¬ (3 ≤ 3 ∧ b = 0) from fun h9 => h h9.2)]; rfl
 | 4, _ =>
  show (if b = 0 then ((0 : Int), (81 : Int)) else (a.tmod b, 0)) = _
  by_cases h : b = 0
  ·rw [if_pos h, if_pos ⟨by decide, h⟩]
  ·rw [if_neg h, if_neg (fun h9 => h h9.2), show zO 4 a b = a.tmod b from rfl, if_pos (tmod_in ha)]
theorem numO_int (k : Nat) (a b : Int) : numO k (intV a) (intV b) = if (intO k a b).2 ≠ 0 then noA (intO k a b).2 else yesA (intV (intO k a b).1) := rfl
theorem numO_ok {k : Nat} (hk : k ≤ 4) {a b : Int} (ha : in64 a) (h : (numO k (intV a) (intV b)).1 = 0) : numO k (intV a) (intV b) = yesA (intV (zO k a b)) ∧ in64 (zO k a b) ∧ (3 ≤ k → b ≠ 0) := by
 rw [numO_int, intO_eq hk ha] at h ⊢
 by_cases h1 : 3 ≤ k ∧ b = 0
 ·rw [if_pos h1] at h; exact absurd h (by decide)
 rw [if_neg h1] at h ⊢
 by_cases h2 : in64 (zO k a b)
 ·rw [if_pos h2, if_neg (fun h : (0 : Int) ≠ 0 => h rfl)]
  exact ⟨rfl, h2, fun h3 h4 => h1 ⟨h3, h4⟩⟩
 ·rw [if_neg h2] at h; exact absurd h (by decide)
def bo2 (f : Vv → Vv → Ans) (x y : Ans) : Ans := if x.1 ≠ 0 then noA x.1 else if y.1 ≠ 0 then noA y.1 else f x.2 y.2
def bo1 (s : List UInt8) (x : Ans) : Ans := if x.1 ≠ 0 then noA x.1 else op1 s x.2
theorem b2_ok {f : Vv → Vv → Ans} {x y : Ans} (h : (bo2 f x y).1 = 0) : x.1 = 0 ∧ y.1 = 0 ∧ bo2 f x y = f x.2 y.2 ∧ (f x.2 y.2).1 = 0 := by
 unfold bo2 at h ⊢
 by_cases hx : x.1 ≠ 0
 ·rw [if_pos hx] at h; exact absurd h hx
 rw [if_neg hx] at h ⊢
 by_cases hy : y.1 ≠ 0
 ·rw [if_pos hy] at h; exact absurd h hy
 rw [if_neg hy] at h ⊢
 exact ⟨by simpa using hx, by simpa using hy, rfl, h⟩
theorem b1_ok {s : List UInt8} {x : Ans} (h : (bo1 s x).1 = 0) : x.1 = 0 ∧ bo1 s x = op1 s x.2 ∧ (op1 s x.2).1 = 0 := by
 unfold bo1 at h ⊢
 by_cases hx : x.1 ≠ 0
 ·rw [if_pos hx] at h; exact absurd h hx
 rw [if_neg hx] at h ⊢
 exact ⟨by simpa using hx, rfl, h⟩
theorem n2_ok {k : Nat} (hk : k ≤ 4) {x y : Ans} {a b : Int} (hx : x.1 = 0 → x.2 = intV a ∧ in64 a) (hy : y.1 = 0 → y.2 = intV b ∧ in64 b) (h : (bo2 (numO k) x y).1 = 0) :
  x.1 = 0 ∧ y.1 = 0 ∧ (bo2 (numO k) x y).2 = intV (zO k a b) ∧ in64 (zO k a b) ∧ (3 ≤ k → b ≠ 0) := by
 obtain ⟨h1, h2, h3, h4⟩ := b2_ok h
 obtain ⟨e1, i1⟩ := hx h1
 obtain ⟨e2, i2⟩ := hy h2
 rw [e1, e2] at h4 h3
 obtain ⟨g1, g2, g3⟩ := numO_ok hk i1 h4
 exact ⟨h1, h2, by rw [h3, g1]; rfl, g2, g3⟩
def K (x : Ans) (a : Int) : Prop := x.1 = 0 → x.2 = intV a ∧ in64 a
theorem K.lit {a : Int} (ha : in64 a) : K (yesA (intV a)) a := fun _ => ⟨rfl, ha⟩
theorem K.neg {x : Ans} {a : Int} (hx : K x a) : K (bo1 sNeg x) (0 - a) := fun h => by
 obtain ⟨h1, h2, h3⟩ := b1_ok h
 obtain ⟨e1, i1⟩ := hx h1
 rw [e1] at h2 h3
 have e : op1 sNeg (intV a) = if in64 (0 - a) then yesA (intV (0 - a)) else noA 80 := rfl
 rw [e] at h2 h3
 by_cases hi : in64 (0 - a)
 ·rw [if_pos hi] at h2
  rw [h2]
  exact ⟨rfl, hi⟩
 ·rw [if_neg hi] at h3; exact absurd h3 (by decide)
theorem K.same {x y : Ans} {a b : Int} (hx : K x a) (hy : K y b) (e : a = b) (h1 : x.1 = 0) (h2 : y.1 = 0) : x.2 = y.2 := by rw [(hx h1).1, (hy h2).1, e]
theorem K.quo {x y : Ans} {a b : Int} (hx : K x a) (hy : K y b) (h : (bo2 (numO 3) x y).1 = 0) : b ≠ 0 := (n2_ok (by decide) hx hy h).2.2.2.2 (by decide)
section
variable {a b c : Int} (ha : in64 a) (hb : in64 b) (hc : in64 c)
include ha hb
include hc
end
def KT (x : Ans) (s : List UInt8) : Prop := x.1 = 0 → x.2 = textV s
theorem KT.lit (s : List UInt8) : KT (yesA (textV s)) s := fun _ => rfl
theorem KT.len {x : Ans} {s : List UInt8} (hx : KT x s) (hl : s.length ≤ 1000000) : K (bo1 sLen x) s.length := fun h => by
 obtain ⟨h1, h2, h3⟩ := b1_ok h
 rw [hx h1] at h2 h3
 have e : op1 sLen (textV s) = yesA (intV s.length) := rfl
 rw [h2, e]
 exact ⟨rfl, by unfold in64; omega⟩
end Go.Proofs.YtgefmjghdijbfaaGreatDoor
