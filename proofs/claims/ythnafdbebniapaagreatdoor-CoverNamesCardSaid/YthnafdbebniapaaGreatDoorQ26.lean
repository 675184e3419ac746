/- Walks. -/
import Derived.Test.YthnafdbebniapaaGreatDoorQ12
import Derived.Test.YthnafdbebniapaaGreatDoorQ10
import Derived.Test.YthnafdbebniapaaGreatDoorQ17
import Derived.Test.YthnafdbebniapaaGreatDoorQ25
import Derived.Test.YthnafdbebniapaaGreatDoorQ21
import Derived.Test.YthnafdbebniapaaGreatDoorQ01
import Derived.Test.YthnafdbebniapaaGreatDoorQ08
set_option maxHeartbeats 4000000
namespace Go.Proofs.YthnafdbebniapaaGreatDoor
open Go Go.Wk Go.Un Go.De
set_option linter.unusedSimpArgs false
set_option linter.unusedVariables false
attribute [local irreducible] Go.wpList Go.Code.wp Go.wpStill Go.Wk.wpPre Go.bodyPost Go.Calls Go.Wk.Ct Go.Wk.OwnS Go.Wk.wpG Go.Wk.wpM
def TyR (F : Heap) (t : Ty) (cs : List Value) : Prop := TyC F cs t.1 t.2
instance : Mon TyR := ⟨fun hF h => TyC.mono hF h⟩
instance : OneC TyR := ⟨fun ⟨v, h1, h2⟩ => by rw [h1]; exact allc rfl (allc (slf_one h2) alln)⟩
instance : OneC (RoR 9 EhR) := ⟨fun ⟨c, v, h1, _, ⟨w, h3, h4⟩, ⟨_, _, h5, _⟩⟩ => by
 subst h1; subst h3; subst h5
 obtain ⟨_, _, rfl, -⟩ := h4
 intro u hu
 simp at hu
 rcases hu with rfl | rfl | rfl | rfl | rfl | rfl | rfl | rfl | rfl <;> rfl⟩
def SlR {α : Type} (sz : Nat) (R : Heap → α → List Value → Prop) (F : Heap) (l : List α) (cs : List Value) : Prop := ∃ u, cs = [u] ∧ LiM F sz R u l
theorem flat_at {α : Type} {l : List (List α)} {k : Nat} {x : List α} (h : l[k]? = some x) : (l.take (k + 1)).flatten = (l.take k).flatten ++ x := by
 rw [List.take_add_one, h, List.flatten_append]
 simp
theorem flat_len {α : Type} {l : List (List α)} {k : Nat} {x : List α} (h : l[k]? = some x) : (l.take k).flatten.length + x.length ≤ l.flatten.length := by
 rw [← List.length_append, ← flat_at h]
 have h9 : l.flatten = (l.take (k + 1)).flatten ++ (l.drop (k + 1)).flatten := by rw [← List.flatten_append, List.take_append_drop]
 rw [h9, List.length_append]; omega
theorem two_lim {α : Type} {F : Heap} {sz b : Nat} {e : TypeId} {R : Heap → α → List Value → Prop} {u1 u2 : Value} {l1 l2 : List α} (hb : F b = some (.cells ⟨[u1, u2]⟩ e (0, 0))) (h1 : LiM F sz R u1 l1) (h2 : LiM F sz R u2 l2) : LiM F 1 (SlR sz R) (.slice (some ⟨b, 0, none⟩) 2 2) [l1, l2] :=
 ⟨some ⟨b, 0, none⟩, 2, rfl, ⟨Nat.le_refl _, by show 2 ≤ _; omega⟩, fun _ => ⟨b, 0, rfl, fun k x hx => by
  match k, hx with
  | 0, hx => cases hx; exact ⟨[u1], fun j u hj => ⟨_, _, _, hb, by rcases j with - | j; exact hj; simp at hj⟩, rfl, u1, rfl, h1⟩
  | 1, hx => cases hx; exact ⟨[u2], fun j u hj => ⟨_, _, _, hb, by rcases j with - | j; exact hj; simp at hj⟩, rfl, u2, rfl, h2⟩
  | k + 2, hx => simp at hx⟩⟩
theorem growTCt (F : Heap) (m : Nat) (hm : m ≤ 1000000000) : Ct Tryz.prog 148 [.slice none 0 0, .int .i64 m] F [] (fun _ G' u => ∃ g, G' = [g] ∧ OwnS 49 2 u 0 [] g) := by
 refine Ct.enter Tryz.func148 rfl Tryz.ntmps148 rfl fun w0 a S => ?_
 (revert S a; refine go 10 ?_; intro Z hZ a S)
 refine wpc_split S rfl (fun h => ?_) (fun h => ?_)
 ·(skip; (try simp only [tq] at h); (exfalso; clear S; omega))
 (skip; (try simp only [tq] at h))
 (revert S a; revert hZ Z; refine go 6 ?_; intro Z hZ Z hZ a S)
 (refine wv S (sv_cap S rfl rfl) ?_; clear S a; intro a S)
 (revert S a; refine go 2 ?_; intro a S)
 first | (refine wv S (sv_subN S rfl rfl rfl (by omega)) ?_; clear S a; intro a S) | (refine wv S (sv_sub S rfl rfl rfl (by omega)) ?_; clear S a; intro a S)
 first | (refine wv S (sv_subN S rfl rfl rfl (by omega)) ?_; clear S a; intro a S) | (refine wv S (sv_sub S rfl rfl rfl (by omega)) ?_; clear S a; intro a S)
 (revert S a; revert hZ Z; refine go 8 ?_; intro a S)
 refine wpc_sp S rfl ?_ ?_ <;> intro h
 ·(revert S a; refine go 3 ?_; intro a S)
  (refine wv S (sv_cap S rfl rfl) ?_; clear S a; intro a S)
  (refine wv S (sv_sliceSl_h S rfl rfl rfl (by omega)) ?_; clear S a; intro a S)
  (revert S a; refine go 1 ?_; intro a S)
  (refine wpl_appendZ S rfl rfl rfl rfl rfl rfl (by rfl) (by omega) (by rfl) (by omega) (by omega) ?_; clear S a; intro b22 c22 a w zs hz22 hm22 hc22 S)
  (revert S a; refine go 2 ?_; intro a S)
  (refine wv S (sv_sliceSl_h S rfl rfl rfl (by omega)) ?_; clear S a; intro a S)
  (revert S a; revert hZ Z; refine go 8 ?_; intro a S)
  refine wp_ret ?_
  (first | (have h9 := hz22; skip) | (replace S := S.nilg))
  refine fin_ret S (results1 Tryz.results148 (RV.tmp S rfl)) ?_
  (first | exact ⟨_, rfl, OwnS.front hz22 hc22⟩ | exact ⟨_, rfl, OwnS.nil _ _⟩ | trace_state)
 (revert S a; revert hZ Z; refine go 7 ?_; intro a S)
 refine wp_ret ?_
 (first | (have h9 := hz22; skip) | (replace S := S.nilg))
 refine fin_ret S (results1 Tryz.results148 (RV.tmp S rfl)) ?_
 (first | exact ⟨_, rfl, OwnS.front hz22 hc22⟩ | exact ⟨_, rfl, OwnS.nil _ _⟩ | trace_state)
theorem zzCr0 {p : Prop} (h : p := by (refine ⟨ls.length - (k + 1), by omega, k + 1, rfl, by omega, ?_⟩; rw [← hao] at S; have e9 : ((ls.take (k + 1)).flatten.length : Int) = (ls.take k).flatten.length + x.length := (by rw [flat_at hx, List.length_append]; omega); rw [← e9] at S; (refine S.keep ?_; exact zk))) : p := h
theorem zzCr1 {p : Prop} (h : p := by (rw [← hao] at S; refine ⟨ls.length - (k + 1), by omega, k + 1, v, g, xs ++ ys, rfl, by omega, ?_, ?_, ?_⟩; rotate_left 2; (refine S.keep ?_; exact zk); (rw [flat_at hx, List.length_append]; exact hown); (rw [flat_at hx]; exact LiC.app hxs hys))) : p := h
theorem concatTCt (F : Heap) (v : Value) (ls : List (List (Ty))) (h : LiM F 1 (SlR 2 (TyR)) v ls) (hm : ls.flatten.length ≤ 1000000000) (hk : ls.length ≤ 1000000000) : Ct Tryz.prog 96 [v] F [] (fun _ G' u => ∃ g xs, G' = [g] ∧ OwnS 49 2 u ls.flatten.length xs g ∧ LiC F 2 (TyR) xs ls.flatten) := by
 obtain ⟨ao, cap, rfl, hcap, hpos⟩ := h
 refine Ct.enter Tryz.func96 rfl Tryz.ntmps96 rfl fun w0 a S => ?_
 (revert S a; refine go 16 ?_; intro Z hZ a S)
 refine wpc_loop (fun m a w' => ∃ (k : Nat), m = ls.length - k ∧ k ≤ ls.length ∧ St 36 [(0, .slice ao ls.length cap), (3, .int .i64 (ls.take k).flatten.length), (9, .slice ao ls.length cap), (10, .int .i64 ls.length), (11, .int .i64 k)] w0 F [] F [] a w') ?_ ?_
 ·(refine ⟨ls.length, 0, by omega, Nat.zero_le _, ?_⟩; refine S.keep ?_; exact zk)
 (clear S; rintro m a w ⟨k, rfl, hkl, S⟩)
 (revert S a; refine go 5 ?_; intro Z hZ a S)
 refine wpc_sp S rfl ?_ ?_ <;> intro h
 ·(revert S a; revert hZ Z; refine go 4 ?_; intro Z hZ a S)
  (refine wp_seq_k ?_; intro Z hZ)
  (obtain ⟨b8, o8, hao, x, cs1, hx, hc1, ⟨u1, rfl, hu1⟩⟩ := LiM.pos hpos (k := k) (by omega); rw [hao] at S; obtain ⟨ax, cx, rfl, hcx, -⟩ := hu1; replace hc1 : Cel F b8 (o8 + k * 1) _ := hc1 0 _ rfl; have hfl := flat_len hx)
  (revert S a; revert hZ Z; refine go 19 ?_; intro a S)
  refine wpc_split S rfl (fun h => ?_) (fun h => ?_)
  ·(skip; (try simp only [tq] at h); (exfalso; clear S; omega))
  (skip; (try simp only [tq] at h))
  (revert S a; revert hZ Z; refine go 6 ?_; intro a S)
  change ∃ m', _ ∧ _
  exact zzCr0
 (refine wp_exit ?_; conv => whnf)
 clear hZ Z
 (revert S a; revert hZ Z; refine go 3 ?_; intro Z hZ a S)
 (refine wpl_callNew S rfl rfl rfl rfl rfl rfl (growTCt F (ls.take k).flatten.length (by rw [List.take_of_length_le (by omega)]; exact hm)) rfl ?_; clear S a; intro v G9 a w hv S; obtain ⟨g, rfl, hown⟩ := hv; (simp only [List.singleton_append] at S))
 (revert S a; revert hZ Z; refine go 11 ?_; intro Z hZ a S)
 refine wpc_loop (fun m a w' => ∃ (k : Nat) (v : Value) (g : Grp) (xs : List Value), m = ls.length - k ∧ k ≤ ls.length ∧ OwnS 49 2 v (ls.take k).flatten.length xs g ∧ LiC F 2 (TyR) xs (ls.take k).flatten ∧ St 36 [(6, v), (25, .slice ao ls.length cap), (26, .int .i64 ls.length), (27, .int .i64 k)] w0 F [] F [g] a w') ?_ ?_
 ·(refine ⟨ls.length, 0, _, _, [], by omega, Nat.zero_le _, hown, rfl, ?_⟩; refine S.keep ?_; exact zk)
 (clear S hown; rintro m a w ⟨k, v, g, xs, rfl, hkl, hown, hxs, S⟩)
 (revert S a; refine go 5 ?_; intro Z hZ a S)
 refine wpc_sp S rfl ?_ ?_ <;> intro h
 ·(revert S a; revert hZ Z; refine go 4 ?_; intro Z hZ a S)
  (refine wp_seq_k ?_; intro Z hZ)
  (obtain ⟨b8, o8, hao, x, cs1, hx, hc1, ⟨u1, rfl, hu1⟩⟩ := LiM.pos hpos (k := k) (by omega); rw [hao] at S; obtain ⟨ax, cx, ys, rfl, hys, hyp⟩ := hu1.flat; replace hc1 : Cel F b8 (o8 + k * 1) _ := hc1 0 _ rfl; have hfl := flat_len hx)
  (revert S a; revert hZ Z; refine go 9 ?_; intro a S)
  (refine wpl_appendSl S rfl rfl rfl rfl rfl rfl hown (by rfl) (by rw [hys.len]) hyp hys.one' (by omega) (by omega) ?_; clear hown S a; intro v g a w hown S)
  (revert S a; revert hZ Z; refine go 7 ?_; intro a S)
  change ∃ m', _ ∧ _
  exact zzCr1
 (refine wp_exit ?_; conv => whnf)
 clear hZ Z
 (revert S a; revert hZ Z; refine go 6 ?_; intro a S)
 refine wp_ret (fr1 S Tryz.results96 ?_)
 (rw [List.take_of_length_le (by omega)] at hown hxs; exact ⟨_, _, rfl, hown, hxs⟩)
theorem growECt (F : Heap) (m : Nat) (hm : m ≤ 1000000000) : Ct Tryz.prog 193 [.slice none 0 0, .int .i64 m] F [] (fun _ G' u => ∃ g, G' = [g] ∧ OwnS 29 9 u 0 [] g) := by
 refine Ct.enter Tryz.func193 rfl Tryz.ntmps193 rfl fun w0 a S => ?_
 (revert S a; refine go 10 ?_; intro Z hZ a S)
 refine wpc_split S rfl (fun h => ?_) (fun h => ?_)
 ·(skip; (try simp only [tq] at h); (exfalso; clear S; omega))
 (skip; (try simp only [tq] at h))
 (revert S a; revert hZ Z; refine go 6 ?_; intro Z hZ Z hZ a S)
 (refine wv S (sv_cap S rfl rfl) ?_; clear S a; intro a S)
 (revert S a; refine go 2 ?_; intro a S)
 first | (refine wv S (sv_subN S rfl rfl rfl (by omega)) ?_; clear S a; intro a S) | (refine wv S (sv_sub S rfl rfl rfl (by omega)) ?_; clear S a; intro a S)
 first | (refine wv S (sv_subN S rfl rfl rfl (by omega)) ?_; clear S a; intro a S) | (refine wv S (sv_sub S rfl rfl rfl (by omega)) ?_; clear S a; intro a S)
 (revert S a; revert hZ Z; refine go 8 ?_; intro a S)
 refine wpc_sp S rfl ?_ ?_ <;> intro h
 ·(revert S a; refine go 3 ?_; intro a S)
  (refine wv S (sv_cap S rfl rfl) ?_; clear S a; intro a S)
  (refine wv S (sv_sliceSl_h S rfl rfl rfl (by omega)) ?_; clear S a; intro a S)
  (revert S a; refine go 1 ?_; intro a S)
  (refine wpl_appendZ S rfl rfl rfl rfl rfl rfl (by rfl) (by omega) (by rfl) (by omega) (by omega) ?_; clear S a; intro b22 c22 a w zs hz22 hm22 hc22 S)
  (revert S a; refine go 2 ?_; intro a S)
  (refine wv S (sv_sliceSl_h S rfl rfl rfl (by omega)) ?_; clear S a; intro a S)
  (revert S a; revert hZ Z; refine go 8 ?_; intro a S)
  refine wp_ret ?_
  (first | (have h9 := hz22; skip) | (replace S := S.nilg))
  refine fin_ret S (results1 Tryz.results193 (RV.tmp S rfl)) ?_
  (first | exact ⟨_, rfl, OwnS.front hz22 hc22⟩ | exact ⟨_, rfl, OwnS.nil _ _⟩ | trace_state)
 (revert S a; revert hZ Z; refine go 7 ?_; intro a S)
 refine wp_ret ?_
 (first | (have h9 := hz22; skip) | (replace S := S.nilg))
 refine fin_ret S (results1 Tryz.results193 (RV.tmp S rfl)) ?_
 (first | exact ⟨_, rfl, OwnS.front hz22 hc22⟩ | exact ⟨_, rfl, OwnS.nil _ _⟩ | trace_state)
theorem concatECt (F : Heap) (v : Value) (ls : List (List (EH × Ef))) (h : LiM F 1 (SlR 9 (RoR 9 EhR)) v ls) (hm : ls.flatten.length ≤ 1000000000) (hk : ls.length ≤ 1000000000) : Ct Tryz.prog 147 [v] F [] (fun _ G' u => ∃ g xs, G' = [g] ∧ OwnS 29 9 u ls.flatten.length xs g ∧ LiC F 9 (RoR 9 EhR) xs ls.flatten) := by
 obtain ⟨ao, cap, rfl, hcap, hpos⟩ := h
 refine Ct.enter Tryz.func147 rfl Tryz.ntmps147 rfl fun w0 a S => ?_
 (revert S a; refine go 16 ?_; intro Z hZ a S)
 refine wpc_loop (fun m a w' => ∃ (k : Nat), m = ls.length - k ∧ k ≤ ls.length ∧ St 36 [(0, .slice ao ls.length cap), (3, .int .i64 (ls.take k).flatten.length), (9, .slice ao ls.length cap), (10, .int .i64 ls.length), (11, .int .i64 k)] w0 F [] F [] a w') ?_ ?_
 ·(refine ⟨ls.length, 0, by omega, Nat.zero_le _, ?_⟩; refine S.keep ?_; exact zk)
 (clear S; rintro m a w ⟨k, rfl, hkl, S⟩)
 (revert S a; refine go 5 ?_; intro Z hZ a S)
 refine wpc_sp S rfl ?_ ?_ <;> intro h
 ·(revert S a; revert hZ Z; refine go 4 ?_; intro Z hZ a S)
  (refine wp_seq_k ?_; intro Z hZ)
  (obtain ⟨b8, o8, hao, x, cs1, hx, hc1, ⟨u1, rfl, hu1⟩⟩ := LiM.pos hpos (k := k) (by omega); rw [hao] at S; obtain ⟨ax, cx, rfl, hcx, -⟩ := hu1; replace hc1 : Cel F b8 (o8 + k * 1) _ := hc1 0 _ rfl; have hfl := flat_len hx)
  (revert S a; revert hZ Z; refine go 19 ?_; intro a S)
  refine wpc_split S rfl (fun h => ?_) (fun h => ?_)
  ·(skip; (try simp only [tq] at h); (exfalso; clear S; omega))
  (skip; (try simp only [tq] at h))
  (revert S a; revert hZ Z; refine go 6 ?_; intro a S)
  change ∃ m', _ ∧ _
  exact zzCr0
 (refine wp_exit ?_; conv => whnf)
 clear hZ Z
 (revert S a; revert hZ Z; refine go 3 ?_; intro Z hZ a S)
 (refine wpl_callNew S rfl rfl rfl rfl rfl rfl (growECt F (ls.take k).flatten.length (by rw [List.take_of_length_le (by omega)]; exact hm)) rfl ?_; clear S a; intro v G9 a w hv S; obtain ⟨g, rfl, hown⟩ := hv; (simp only [List.singleton_append] at S))
 (revert S a; revert hZ Z; refine go 11 ?_; intro Z hZ a S)
 refine wpc_loop (fun m a w' => ∃ (k : Nat) (v : Value) (g : Grp) (xs : List Value), m = ls.length - k ∧ k ≤ ls.length ∧ OwnS 29 9 v (ls.take k).flatten.length xs g ∧ LiC F 9 (RoR 9 EhR) xs (ls.take k).flatten ∧ St 36 [(6, v), (25, .slice ao ls.length cap), (26, .int .i64 ls.length), (27, .int .i64 k)] w0 F [] F [g] a w') ?_ ?_
 ·(refine ⟨ls.length, 0, _, _, [], by omega, Nat.zero_le _, hown, rfl, ?_⟩; refine S.keep ?_; exact zk)
 (clear S hown; rintro m a w ⟨k, v, g, xs, rfl, hkl, hown, hxs, S⟩)
 (revert S a; refine go 5 ?_; intro Z hZ a S)
 refine wpc_sp S rfl ?_ ?_ <;> intro h
 ·(revert S a; revert hZ Z; refine go 4 ?_; intro Z hZ a S)
  (refine wp_seq_k ?_; intro Z hZ)
  (obtain ⟨b8, o8, hao, x, cs1, hx, hc1, ⟨u1, rfl, hu1⟩⟩ := LiM.pos hpos (k := k) (by omega); rw [hao] at S; obtain ⟨ax, cx, ys, rfl, hys, hyp⟩ := hu1.flat; replace hc1 : Cel F b8 (o8 + k * 1) _ := hc1 0 _ rfl; have hfl := flat_len hx)
  (revert S a; revert hZ Z; refine go 9 ?_; intro a S)
  (refine wpl_appendSl S rfl rfl rfl rfl rfl rfl hown (by rfl) (by rw [hys.len]) hyp hys.one' (by omega) (by omega) ?_; clear hown S a; intro v g a w hown S)
  (revert S a; revert hZ Z; refine go 7 ?_; intro a S)
  change ∃ m', _ ∧ _
  exact zzCr1
 (refine wp_exit ?_; conv => whnf)
 clear hZ Z
 (revert S a; revert hZ Z; refine go 6 ?_; intro a S)
 refine wp_ret (fr1 S Tryz.results147 ?_)
 (rw [List.take_of_length_le (by omega)] at hown hxs; exact ⟨_, _, rfl, hown, hxs⟩)
end Go.Proofs.YthnafdbebniapaaGreatDoor
namespace Go.Wk
open Go
set_option linter.unusedSimpArgs false
set_option linter.unusedVariables false
section
variable {P : Program} {ops : Array Oper} {Q : Exit → Act → World → Prop} {rest : List Oper} {n : Sz} {L : List (Nat × Value)} {w0 : World} {F0 : Heap} {K0 : List Nat} {F : Heap} {G : List Grp} {a : Act} {w : World} {o : Oper}
theorem sv_shr4 {x y : Operand} {p : Nat} {t yt : TypeId} (S : St n L w0 F0 K0 F G a w) (ho : o.op = .binOp .shr t x y yt) (hx : ev L x = some (.int .u8 (p : Int))) (hy : ev L y = some (.int .u64 4)) : SV P o a w (.int .u8 ((p / 16 : Nat) : Int)) := by
 have h1 : (eqGuard .shr t x y (.int .u8 (p : Int)) (.int .u64 4)).run P w = .ok () w := by unfold eqGuard; rfl
 unfold SV execOp
 rw [ho]
 simp [S.fr.eval hx, S.fr.eval hy, h1, binOp_shr, shift_shr_u8]
theorem sv_and15 {x y : Operand} {p : Nat} {t yt : TypeId} (S : St n L w0 F0 K0 F G a w) (ho : o.op = .binOp .and t x y yt) (hx : ev L x = some (.int .u8 (p : Int))) (hy : ev L y = some (.int .u8 15)) (hp : p ≤ 255) : SV P o a w (.int .u8 ((p % 16 : Nat) : Int)) := by
 have h1 : (eqGuard .and t x y (.int .u8 (p : Int)) (.int .u8 15)).run P w = .ok () w := by unfold eqGuard; rfl
 have h2 : ∀ q, q ≤ 255 → (Op.intBits .and .u8 ((q : Nat) : Int) 15).run P w = .ok (.int .u8 ((q % 16 : Nat) : Int)) w := by
  have : ∀ q, q < 256 → (Op.intBits .and .u8 ((q : Nat) : Int) 15) = pure (.int .u8 ((q % 16 : Nat) : Int)) := by
   intro q hq
   have e : ((BitVec.ofInt 8 (q : Int)) &&& (BitVec.ofInt 8 15)).toNat = q % 16 := by
    rw [BitVec.toNat_and]
    simp only [BitVec.toNat_ofInt]
    have e1 : ((q : Int) % ((2 ^ 8 : Nat) : Int)).toNat = q := by omega
    rw [e1]
    show q &&& 15 = _
    exact Nat.and_two_pow_sub_one_eq_mod q 4
   show (pure (.int .u8 (IntKind.u8.wrap ((((BitVec.ofInt 8 (q : Int)) &&& (BitVec.ofInt 8 15)).toNat : Nat) : Int))) : Sem Value) = _
   rw [e, IntWalk.u8_in _ (by omega)]
  intro q hq; rw [this q (by omega)]; rfl
 unfold SV execOp
 rw [ho]
 simp [S.fr.eval hx, S.fr.eval hy, h1, binOp, h2 p hp]
end
end Go.Wk
namespace Go.Proofs.YthnafdbebniapaaGreatDoor
open Go Go.Wk
set_option linter.unusedSimpArgs false
set_option linter.unusedVariables false
attribute [local irreducible] Go.wpList Go.Code.wp Go.wpStill Go.Wk.wpPre Go.bodyPost Go.Calls Go.Wk.Ct Go.Wk.OwnS Go.Wk.wpG Go.Wk.wpM
def BdO (b : Nat) (l : List UInt8) (p v : Value) (g : Grp) : Prop := bldP b p ∧ OwnS 5 1 v l.length (u8c l) g
theorem wbCt (b : Nat) (p v : Value) (l : List UInt8) (c : UInt8) (g : Grp) (F : Heap) (h : BdO b l p v g) (hk : l.length ≤ 1000000000) :
  Ct Tryz.prog 195 [.pointer (some ⟨b, 0, none⟩), .int .u8 c.toNat] F [g, bldG b p v] (fun _ G' _ => ∃ p' v' g', G' = [g', bldG b p' v'] ∧ BdO b (l ++ [c]) p' v' g') :=
 Ct.mono (writeByteCt b p v l.length l c g F h.1 h.2 hk) fun _ _ _ ⟨v', g', h1, h2⟩ => ⟨_, v', g', h1, .inr rfl, by rw [List.length_append]; exact h2⟩
theorem wsCt (b : Nat) (p v : Value) (l s : List UInt8) (g : Grp) (F : Heap) (h : BdO b l p v g) (hk : l.length ≤ 1000000000) (hs : s.length ≤ 100000000) (h0 : 0 < s.length) :
  Ct Tryz.prog 196 [.pointer (some ⟨b, 0, none⟩), .string (bs s)] F [g, bldG b p v] (fun _ G' _ => ∃ p' v' g', G' = [g', bldG b p' v'] ∧ BdO b (l ++ s) p' v' g') :=
 Ct.mono (writeStringCt b p v l.length l s g F h.1 h.2 (by omega) hs h0) fun _ _ _ ⟨v', g', h1, h2⟩ => ⟨_, v', g', h1, .inr rfl, by rw [List.length_append]; exact h2⟩
def hexL : List UInt8 := [48, 49, 50, 51, 52, 53, 54, 55, 56, 57, 97, 98, 99, 100, 101, 102]
def hexD (n : Nat) : UInt8 := (hexL[n]?).getD 0
theorem hex_at (n : Nat) : hexD n = hexL.getD n 0 := by unfold hexD; rw [List.getD_eq_getElem?_getD]
def escB (c : UInt8) : List UInt8 := if c.toNat = 34 ∨ c.toNat = 92 then [92, c] else if c.toNat = 10 then [92, 110] else if c.toNat = 9 then [92, 116] else if 32 ≤ c.toNat ∧ c.toNat ≤ 126 then [c] else [92, 120] ++ [hexD (c.toNat / 16)] ++ [hexD (c.toNat % 16)]
def quoteS (s : List UInt8) : List UInt8 := [34] ++ s.flatMap escB ++ [34]
theorem BdO.cast {b : Nat} {l m : List UInt8} {p v : Value} {g : Grp} (h : BdO b l p v g) (e : l = m) : BdO b m p v g := by rw [← e]; exact h
theorem esc1 {c : UInt8} (h : c.toNat = 34 ∨ c.toNat = 92) : escB c = [92] ++ [c] := by unfold escB; rw [if_pos h]; rfl
theorem esc2 {c : UInt8} (h : c.toNat = 10) : escB c = [92, 110] := by unfold escB; rw [if_neg (by omega), if_pos h]
theorem esc3 {c : UInt8} (h : c.toNat = 9) : escB c = [92, 116] := by unfold escB; rw [if_neg (by omega), if_neg (by omega), if_pos h]
theorem esc4 {c : UInt8} (h : 32 ≤ c.toNat ∧ c.toNat ≤ 126 ∧ c.toNat ≠ 34 ∧ c.toNat ≠ 92) : escB c = [c] := by unfold escB; rw [if_neg (by omega), if_neg (by omega), if_neg (by omega), if_pos (by omega)]
theorem esc5 {c : UInt8} (h : ¬ (32 ≤ c.toNat ∧ c.toNat ≤ 126) ∧ c.toNat ≠ 9 ∧ c.toNat ≠ 10) : escB c = [92, 120] ++ [hexD (c.toNat / 16)] ++ [hexD (c.toNat % 16)] := by unfold escB; rw [if_neg (by omega), if_neg (by omega), if_neg (by omega), if_neg (by omega)]
theorem esc_at {s : List UInt8} {i : Nat} (h : i < s.length) : (s.take (i + 1)).flatMap escB = (s.take i).flatMap escB ++ escB (s.getD i 0) := by
 rw [List.take_add_one, List.flatMap_append, List.getD_eq_getElem?_getD, List.getElem?_eq_getElem h]
 simp
theorem escB_len (c : UInt8) : (escB c).length ≤ 4 := by
 unfold escB
 by_cases h1 : c.toNat = 34 ∨ c.toNat = 92
 ·rw [if_pos h1]; exact (by decide : 2 ≤ 4)
 ·rw [if_neg h1]
  by_cases h2 : c.toNat = 10
  ·rw [if_pos h2]; decide
  ·rw [if_neg h2]
   by_cases h3 : c.toNat = 9
   ·rw [if_pos h3]; decide
   ·rw [if_neg h3]
    by_cases h4 : 32 ≤ c.toNat ∧ c.toNat ≤ 126
    ·rw [if_pos h4]; exact (by decide : 1 ≤ 4)
    ·rw [if_neg h4]; simp
theorem esc_len : ∀ s : List UInt8, (s.flatMap escB).length ≤ 4 * s.length
 | [] => Nat.le_refl _
 | c :: s => by
  have := escB_len c
  have := esc_len s
  rw [List.flatMap_cons, List.length_append, List.length_cons]
  omega
theorem zzQt0 {p : Prop} (h : p := by (refine ⟨s.length - (i + 1), by omega, i + 1, p1, v1, g1, rfl, by omega, hown.cast ?_, ?_⟩; rotate_left 1; (refine S.keep ?_; exact zk); (rw [esc_at (by omega)]; first | rw [esc1 (by omega)] | rw [esc2 (by omega)] | rw [esc3 (by omega)] | rw [esc4 (by omega)] | rw [esc5 (by omega)]); simp only [List.append_assoc])) : p := h
theorem quoteCt (b : Nat) (p v : Value) (l s : List UInt8) (g : Grp) (F : Heap) (h : BdO b l p v g) (hk : l.length ≤ 100000000) (hs : s.length ≤ 100000000) :
  Ct Tryz.prog 200 [.pointer (some ⟨b, 0, none⟩), .string (bs s)] F [g, bldG b p v] (fun _ G' _ => ∃ p' v' g', G' = [g', bldG b p' v'] ∧ BdO b (l ++ quoteS s) p' v' g') := by
 refine Ct.enter Tryz.func200 rfl Tryz.ntmps200 rfl fun w0 a S => ?_
 (revert S a; refine go 2 ?_; intro Z hZ a S)
 (refine wpl_callOwn (Gs := [g, bldG b p v]) (Gr := []) S rfl rfl rfl rfl rfl rfl (wbCt b p v l 34 g F h (by omega)) rfl (by simp) ?_; clear S a; intro u G1 a w hv1 S; obtain ⟨p0, v0, g0, rfl, hown⟩ := hv1; (simp only [List.append_nil] at S))
 (revert S a; revert hZ Z; refine go 10 ?_; intro Z hZ a S)
 refine wpc_loop (fun m a w' => ∃ (i : Nat) (p1 v1 : Value) (g1 : Grp), m = s.length - i ∧ i ≤ s.length ∧ BdO b (l ++ ([34] ++ (s.take i).flatMap escB)) p1 v1 g1 ∧ St 63 [(0, .pointer (some ⟨b, 0, none⟩)), (1, .string (bs s)), (9, .int .i64 s.length), (10, .int .i64 i)] w0 F (keys [g, bldG b p v]) F [g1, bldG b p1 v1] a w') ?_ ?_
 ·(refine ⟨s.length, 0, p0, v0, g0, by omega, Nat.zero_le _, hown, ?_⟩; refine S.keep ?_; exact zk)
 (clear S; rintro m a w ⟨i, p1, v1, g1, rfl, hil, hown, S⟩)
 (revert S a; refine go 5 ?_; intro Z hZ a S)
 refine wpc_sp S rfl ?_ ?_ <;> intro h
 ·(revert S a; revert hZ Z; refine go 4 ?_; intro Z hZ a S)
  (refine wp_seq_k ?_; intro Z hZ)
  (have hq := esc_len (s.take i); rw [List.length_take] at hq)
  (revert S a; revert hZ Z; refine go 8 ?_; intro Z hZ a S)
  first | (refine wv S (sv_indexSN S rfl rfl rfl (by first | omega | (simp only [List.length_append, List.length_cons, List.length_nil]; omega))) ?_; clear S a; intro a S) | (refine wv S (sv_indexS S rfl rfl rfl (by first | omega | (simp only [List.length_append, List.length_cons, List.length_nil]; omega))) ?_; clear S a; intro a S)
  (revert S a; revert hZ Z; refine go 8 ?_; intro Z hZ a S)
  refine wgd S ?_ ?_
  ·(clear S; intro h S)
   (revert S a; revert hZ Z; refine go 7 ?_; intro a S)
   refine wpc_sp S rfl ?_ ?_ <;> intro h
   ·(revert S a; refine go 2 ?_; intro Z hZ a S)
    (refine wpl_callOwn (Gs := [g1, bldG b p1 v1]) (Gr := []) S rfl rfl rfl rfl rfl rfl (wbCt b p1 v1 _ (92) g1 F hown (by simp only [List.length_append, List.length_cons, List.length_nil]; omega)) rfl (by simp) ?_; clear S a hown; intro u G1 a w hv1 S; obtain ⟨p1, v1, g1, rfl, hown⟩ := hv1; (simp only [List.append_nil] at S))
    (revert S a; revert hZ Z; refine go 5 ?_; intro a S)
    (refine wpl_callOwn (Gs := [g1, bldG b p1 v1]) (Gr := []) S rfl rfl rfl rfl rfl rfl (wbCt b p1 v1 _ (s.getD i 0) g1 F hown (by simp only [List.length_append, List.length_cons, List.length_nil]; omega)) rfl (by simp) ?_; clear S a hown; intro u G1 a w hv1 S; obtain ⟨p1, v1, g1, rfl, hown⟩ := hv1; (simp only [List.append_nil] at S))
    (revert S a; revert hZ Z; refine go 6 ?_; intro a S)
    change ∃ m', _ ∧ _
    exact zzQt0
   (revert S a; refine go 6 ?_; intro a S)
   refine wpc_sp S rfl ?_ ?_ <;> intro h
   ·(revert S a; refine go 2 ?_; intro a S)
    (refine wpl_callOwn (Gs := [g1, bldG b p1 v1]) (Gr := []) S rfl rfl rfl rfl rfl rfl (wsCt b p1 v1 _ [92, 110] g1 F hown (by simp only [List.length_append, List.length_cons, List.length_nil]; omega) (by decide) (by decide)) rfl (by simp) ?_; clear S a hown; intro u G1 a w hv1 S; obtain ⟨p1, v1, g1, rfl, hown⟩ := hv1; (simp only [List.append_nil] at S))
    (revert S a; revert hZ Z; refine go 6 ?_; intro a S)
    change ∃ m', _ ∧ _
    exact zzQt0
   (revert S a; refine go 6 ?_; intro a S)
   refine wpc_sp S rfl ?_ ?_ <;> intro h
   ·(revert S a; refine go 2 ?_; intro a S)
    (refine wpl_callOwn (Gs := [g1, bldG b p1 v1]) (Gr := []) S rfl rfl rfl rfl rfl rfl (wsCt b p1 v1 _ [92, 116] g1 F hown (by simp only [List.length_append, List.length_cons, List.length_nil]; omega) (by decide) (by decide)) rfl (by simp) ?_; clear S a hown; intro u G1 a w hv1 S; obtain ⟨p1, v1, g1, rfl, hown⟩ := hv1; (simp only [List.append_nil] at S))
    (revert S a; revert hZ Z; refine go 6 ?_; intro a S)
    change ∃ m', _ ∧ _
    exact zzQt0
   (revert S a; refine go 4 ?_; intro Z hZ a S)
   refine wgd S ?_ ?_
   ·(clear S; intro h S)
    (revert S a; revert hZ Z; refine go 7 ?_; intro a S)
    refine wpc_sp S rfl ?_ ?_ <;> intro h
    ·(revert S a; refine go 3 ?_; intro a S)
     (refine wpl_callOwn (Gs := [g1, bldG b p1 v1]) (Gr := []) S rfl rfl rfl rfl rfl rfl (wbCt b p1 v1 _ (s.getD i 0) g1 F hown (by simp only [List.length_append, List.length_cons, List.length_nil]; omega)) rfl (by simp) ?_; clear S a hown; intro u G1 a w hv1 S; obtain ⟨p1, v1, g1, rfl, hown⟩ := hv1; (simp only [List.append_nil] at S))
     (revert S a; revert hZ Z; refine go 6 ?_; intro a S)
     change ∃ m', _ ∧ _
     exact zzQt0
    (revert S a; refine go 2 ?_; intro Z hZ a S)
    (refine wpl_callOwn (Gs := [g1, bldG b p1 v1]) (Gr := []) S rfl rfl rfl rfl rfl rfl (wsCt b p1 v1 _ [92, 120] g1 F hown (by simp only [List.length_append, List.length_cons, List.length_nil]; omega) (by decide) (by decide)) rfl (by simp) ?_; clear S a hown; intro u G1 a w hv1 S; obtain ⟨p1, v1, g1, rfl, hown⟩ := hv1; (simp only [List.append_nil] at S))
    (revert S a; revert hZ Z; refine go 5 ?_; intro Z hZ a S)
    (refine wv S (sv_shr4 S rfl rfl rfl) ?_; clear S a; intro a S)
    (refine wv S (sv_indexSN (s := hexL) S rfl rfl rfl (by have := (s.getD i 0).toNat_lt; show _ < 16; omega)) ?_; clear S a; intro a S; rw [← hex_at] at S)
    (refine wpl_callOwn (Gs := [g1, bldG b p1 v1]) (Gr := []) S rfl rfl rfl rfl rfl rfl (wbCt b p1 v1 _ (hexD ((s.getD i 0).toNat / 16)) g1 F hown (by simp only [List.length_append, List.length_cons, List.length_nil]; omega)) rfl (by simp) ?_; clear S a hown; intro u G1 a w hv1 S; obtain ⟨p1, v1, g1, rfl, hown⟩ := hv1; (simp only [List.append_nil] at S))
    (revert S a; revert hZ Z; refine go 5 ?_; intro a S)
    (refine wv S (sv_and15 S rfl rfl rfl (by have := (s.getD i 0).toNat_lt; omega)) ?_; clear S a; intro a S)
    (refine wv S (sv_indexSN (s := hexL) S rfl rfl rfl (by show _ < 16; omega)) ?_; clear S a; intro a S; rw [← hex_at] at S)
    (refine wpl_callOwn (Gs := [g1, bldG b p1 v1]) (Gr := []) S rfl rfl rfl rfl rfl rfl (wbCt b p1 v1 _ (hexD ((s.getD i 0).toNat % 16)) g1 F hown (by simp only [List.length_append, List.length_cons, List.length_nil]; omega)) rfl (by simp) ?_; clear S a hown; intro u G1 a w hv1 S; obtain ⟨p1, v1, g1, rfl, hown⟩ := hv1; (simp only [List.append_nil] at S))
    (revert S a; revert hZ Z; refine go 6 ?_; intro a S)
    change ∃ m', _ ∧ _
    exact zzQt0
   (clear S a; intro h a S)
   (revert S a; revert hZ Z; refine go 5 ?_; intro a S)
   refine wpc_false S rfl ?_
   (revert S a; refine go 2 ?_; intro Z hZ a S)
   (refine wpl_callOwn (Gs := [g1, bldG b p1 v1]) (Gr := []) S rfl rfl rfl rfl rfl rfl (wsCt b p1 v1 _ [92, 120] g1 F hown (by simp only [List.length_append, List.length_cons, List.length_nil]; omega) (by decide) (by decide)) rfl (by simp) ?_; clear S a hown; intro u G1 a w hv1 S; obtain ⟨p1, v1, g1, rfl, hown⟩ := hv1; (simp only [List.append_nil] at S))
   (revert S a; revert hZ Z; refine go 5 ?_; intro Z hZ a S)
   (refine wv S (sv_shr4 S rfl rfl rfl) ?_; clear S a; intro a S)
   (refine wv S (sv_indexSN (s := hexL) S rfl rfl rfl (by have := (s.getD i 0).toNat_lt; show _ < 16; omega)) ?_; clear S a; intro a S; rw [← hex_at] at S)
   (refine wpl_callOwn (Gs := [g1, bldG b p1 v1]) (Gr := []) S rfl rfl rfl rfl rfl rfl (wbCt b p1 v1 _ (hexD ((s.getD i 0).toNat / 16)) g1 F hown (by simp only [List.length_append, List.length_cons, List.length_nil]; omega)) rfl (by simp) ?_; clear S a hown; intro u G1 a w hv1 S; obtain ⟨p1, v1, g1, rfl, hown⟩ := hv1; (simp only [List.append_nil] at S))
   (revert S a; revert hZ Z; refine go 5 ?_; intro a S)
   (refine wv S (sv_and15 S rfl rfl rfl (by have := (s.getD i 0).toNat_lt; omega)) ?_; clear S a; intro a S)
   (refine wv S (sv_indexSN (s := hexL) S rfl rfl rfl (by show _ < 16; omega)) ?_; clear S a; intro a S; rw [← hex_at] at S)
   (refine wpl_callOwn (Gs := [g1, bldG b p1 v1]) (Gr := []) S rfl rfl rfl rfl rfl rfl (wbCt b p1 v1 _ (hexD ((s.getD i 0).toNat % 16)) g1 F hown (by simp only [List.length_append, List.length_cons, List.length_nil]; omega)) rfl (by simp) ?_; clear S a hown; intro u G1 a w hv1 S; obtain ⟨p1, v1, g1, rfl, hown⟩ := hv1; (simp only [List.append_nil] at S))
   (revert S a; revert hZ Z; refine go 6 ?_; intro a S)
   change ∃ m', _ ∧ _
   exact zzQt0
  (clear S a; intro h a S)
  (revert S a; revert hZ Z; refine go 5 ?_; intro a S)
  refine wpc_true S rfl ?_
  (revert S a; refine go 2 ?_; intro Z hZ a S)
  (refine wpl_callOwn (Gs := [g1, bldG b p1 v1]) (Gr := []) S rfl rfl rfl rfl rfl rfl (wbCt b p1 v1 _ (92) g1 F hown (by simp only [List.length_append, List.length_cons, List.length_nil]; omega)) rfl (by simp) ?_; clear S a hown; intro u G1 a w hv1 S; obtain ⟨p1, v1, g1, rfl, hown⟩ := hv1; (simp only [List.append_nil] at S))
  (revert S a; revert hZ Z; refine go 5 ?_; intro a S)
  (refine wpl_callOwn (Gs := [g1, bldG b p1 v1]) (Gr := []) S rfl rfl rfl rfl rfl rfl (wbCt b p1 v1 _ (s.getD i 0) g1 F hown (by simp only [List.length_append, List.length_cons, List.length_nil]; omega)) rfl (by simp) ?_; clear S a hown; intro u G1 a w hv1 S; obtain ⟨p1, v1, g1, rfl, hown⟩ := hv1; (simp only [List.append_nil] at S))
  (revert S a; revert hZ Z; refine go 6 ?_; intro a S)
  change ∃ m', _ ∧ _
  exact zzQt0
 (refine wp_exit ?_; conv => whnf)
 clear hZ Z
 (refine hZ _ _ ?_; clear hZ Z)
 (have hq := esc_len (s.take i); rw [List.length_take] at hq)
 (revert S a; refine go 2 ?_; intro a S)
 (refine wpl_callOwn (Gs := [g1, bldG b p1 v1]) (Gr := []) S rfl rfl rfl rfl rfl rfl (wbCt b p1 v1 _ (34) g1 F hown (by simp only [List.length_append, List.length_cons, List.length_nil]; omega)) rfl (by simp) ?_; clear S a hown; intro u G1 a w hv1 S; obtain ⟨p1, v1, g1, rfl, hown⟩ := hv1; (simp only [List.append_nil] at S))
 refine wpList_nil ?_
 refine fin_end S (results0 Tryz.results200) ?_
 exact ⟨_, _, _, rfl, hown.cast (by rw [List.take_of_length_le (by omega)]; unfold quoteS; simp only [List.append_assoc])⟩
end Go.Proofs.YthnafdbebniapaaGreatDoor
