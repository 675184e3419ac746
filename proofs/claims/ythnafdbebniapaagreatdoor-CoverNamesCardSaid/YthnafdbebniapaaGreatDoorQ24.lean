/- Walks. -/
import Derived.Test.YthnafdbebniapaaGreatDoorQ23
import Derived.Test.YthnafdbebniapaaGreatDoorQ04
import Derived.Test.YthnafdbebniapaaGreatDoorQ21
import Derived.Test.YthnafdbebniapaaGreatDoorQ14
import Derived.Test.YthnafdbebniapaaGreatDoorQ22
set_option maxHeartbeats 16000000
set_option maxRecDepth 20000
namespace Go.Proofs.YthnafdbebniapaaGreatDoor
open Go Go.Wk Go.Un Go.De
set_option linter.unusedSimpArgs false
set_option linter.unusedVariables false
attribute [local irreducible] Go.wpList Go.Code.wp Go.wpStill Go.Wk.wpPre Go.bodyPost Go.Calls Go.Wk.Ct Go.Wk.OwnS Go.Wk.wpG Go.Wk.wpM
section
variable {P : Program} {n : Sz} {L : List (Nat × Value)} {w0 : World} {F0 : Heap} {K0 : List Nat} {F : Heap} {G : List Grp} {a : Act} {w : World} {o : Oper}
theorem sv_nePtr {x y : Operand} {t yt e : TypeId} {ad : Option Addr} [ht : Und P t (.pointer e)] (S : St n L w0 F0 K0 F G a w) (ho : o.op = .binOp .neq t x y yt) (hx : ev L x = some (.pointer ad)) (hy : ev L y = some (.pointer none)) : SV P o a w (.bool (!ad.isNone)) := by
 unfold SV execOp
 rw [ho]
 have h1 : (eqGuard .neq t x y (.pointer ad) (.pointer none)).run P w = .ok () w := rfl
 have hp : P.pointee t = e := by simp [Program.pointee, ht.h]
 have h2 := run_neq_pointer_nil (P := P) w t ad (by rw [hp]; exact ht.h)
 simp only [S.fr.eval hx, S.fr.eval hy, Sem.run_bind, h1, Result.andThen_ok, h2, Sem.run_pure]
end
theorem zzDfB0 {p : Prop} (h : p := by (congr 1; unfold wellT; first | (rw [decide_eq_true (by assumption), Bool.true_and]; done) | (rw [decide_eq_false (by assumption), Bool.false_and]; done) | trace_state)) : p := h
theorem wellUCt (F : Heap) (tb m1 m2 m3 : Nat) (ts : List TD) (css : List KC) (rs : List RD) (hT : TabS F tb m1 m2 m3 ts css rs) (t : Ty) (cs : List Value) (hsz : depthL t.2 ≤ 100000000) (h : TyC F cs t.1 t.2) :
  Ct Tryz.prog 72 [.pointer (some ⟨tb, 0, none⟩), .agg ⟨cs⟩] F [] (fun _ _ u => u = .bool (wellT ts t)) := by
 obtain ⟨nm, ar⟩ := t
 replace h : TyC F cs nm ar := h
 have h0 := h
 obtain ⟨v, rfl, hs⟩ := h
 obtain ⟨ao, cap, rfl, hcap, -⟩ := hs
 refine Ct.enter Tryz.func72 rfl Tryz.ntmps72 rfl fun w0 a S => ?_
 refine wp_sr fun Z hZ => ?_
 (refine wbx S ?_; clear S a; intro b3 a w S)
 (revert S a; revert hZ Z; refine go 5 ?_; intro Z hZ a S)
 (refine wv S (sv_lit (c := true) (sv_nePtr S rfl rfl rfl) (by rfl)) ?_; clear S a; intro a S)
 (revert S a; refine go 6 ?_; intro a S)
 (refine wc0 S (useCt F tb m1 ts hT.ty nm ar _ hsz h0) ?_; clear S a; intro v a w hv S; subst hv)
 (revert S a; refine go 4 ?_; intro a S)
 refine wgd S ?_ ?_
 ·(clear S; intro h S)
  (revert S a; refine go 2 ?_; intro a S)
  (refine wc0 S (openCt F nm ar _ h0) ?_; clear S a; intro v a w hv S; subst hv)
  (revert S a; revert hZ Z; refine go 6 ?_; intro a S)
  refine wp_ret (fr1 S Tryz.results72 ?_)
  exact zzDfB0
 (clear S a; intro h a S)
 (revert S a; revert hZ Z; refine go 6 ?_; intro a S)
 refine wp_ret (fr1 S Tryz.results72 ?_)
 exact zzDfB0
theorem zzDfB1 {p : Prop} (h : p := by (congr 1; unfold isF; first | (rw [(by assumption : wellT ts t = true), Bool.true_and]; first | (rw [decide_eq_true (by assumption), Bool.true_and]; done) | (rw [decide_eq_false (by assumption), Bool.false_and]; done)) | (rw [(by assumption : wellT ts t = false), Bool.false_and]; done) | trace_state)) : p := h
theorem isUCt (F : Heap) (tb m1 m2 m3 : Nat) (ts : List TD) (css : List KC) (rs : List RD) (hT : TabS F tb m1 m2 m3 ts css rs) (hK : KThin css) (vh : VH) (L : Vf) (cs : List Value) (hV : VaC F cs vh L) (t : Ty) (cs2 : List Value) (hsz : depthL t.2 ≤ 100000000) (hth : ThinT t) (h : TyC F cs2 t.1 t.2) :
  Ct Tryz.prog 127 [.pointer (some ⟨tb, 0, none⟩), .agg ⟨cs⟩, .agg ⟨cs2⟩] F [] (fun _ _ u => u = .bool (isF ts css vh L t)) := by
 have hV0 := hV
 obtain ⟨v, rfl, hL, hsb⟩ := hV
 have hLc := hL
 obtain ⟨ao, cap, rfl, hcap, -⟩ := hLc
 have h0 := h
 obtain ⟨v2, rfl, har⟩ := h
 have harc := har
 obtain ⟨aa, ca, rfl, -, -⟩ := harc
 refine Ct.enter Tryz.func127 rfl Tryz.ntmps127 rfl fun w0 a S => ?_
 refine wp_sr fun Z hZ => ?_
 (refine wbx S ?_; clear S a; intro b4 a w S)
 (refine wbx S ?_; clear S a; intro b5 a w S)
 (revert S a; revert hZ Z; refine go 6 ?_; intro Z hZ a S)
 (refine wc0 S (wellUCt F tb m1 m2 m3 ts css rs hT t _ hsz h0) ?_; clear S a; intro v a w hv S; subst hv)
 (revert S a; refine go 1 ?_; intro a S)
 refine wgd S ?_ ?_
 ·(clear S; intro h S)
  (revert S a; refine go 2 ?_; intro a S)
  (refine wc0 S (checkUCt F vh L _ hV0) ?_; clear S a; intro v a w hv S; subst hv)
  (revert S a; refine go 4 ?_; intro a S)
  refine wgd S ?_ ?_
  ·(clear S; intro h S)
   (revert S a; refine go 6 ?_; intro a S)
   (refine wc0 S (isDCt F tb m1 m2 m3 ts css rs hT hK (L.size + 1) F vh L t _ _ (Nat.lt_succ_self _) (fun _ _ h => h) hV0 h0 hth) ?_; clear S a; intro v a w hv S; subst hv)
   (revert S a; revert hZ Z; refine go 4 ?_; intro a S)
   refine wp_ret (fr1 S Tryz.results127 ?_)
   exact zzDfB1
  (clear S a; intro h a S)
  (revert S a; revert hZ Z; refine go 7 ?_; intro a S)
  refine wp_ret (fr1 S Tryz.results127 ?_)
  exact zzDfB1
 (clear S a; intro h a S)
 (revert S a; revert hZ Z; refine go 12 ?_; intro a S)
 refine wp_ret (fr1 S Tryz.results127 ?_)
 exact zzDfB1
def SlN (n : Nat) (u : Value) : Prop := ∃ ao c, u = .slice ao n c
theorem cloneS0 (F : Heap) (v : Value) (l : List (List UInt8)) (h : LiM F 1 StR v l) (hl : l.length ≤ 1000000) : Ct Tryz.prog 48 [v] F [] (fun _ _ u => SlN l.length u) :=
 Ct.mono (cloneSCt F v l h hl) fun F' G' u ⟨g, xs, _, h1, _⟩ => by obtain ⟨a, c, h2, _⟩ := h1.at; exact ⟨a, c, h2⟩
def KSz (css : List KC) : Prop := ∀ c ∈ css, c.ps.length ≤ 1000000 ∧ c.fs.length ≤ 1000000 ∧ FThin c.fs
theorem KSz.of {css : List KC} {s : List UInt8} {x : KC} (hK : KSz css) (h : findC css s = some x ∨ findC css s = none ∧ x = zKC) : x.ps.length ≤ 1000000 ∧ x.fs.length ≤ 1000000 ∧ FThin x.fs := by
 rcases h with h | ⟨-, rfl⟩
 ·exact hK x (findC_mem h)
 ·exact ⟨Nat.zero_le _, Nat.zero_le _, fun y hy => by cases hy⟩
theorem TSz.of {ts : List TD} {s : List UInt8} {x : TD} (hK : TSz ts) (h : findT ts s = some x ∨ findT ts s = none ∧ x = zTD) : x.cs.length ≤ 1000000 ∧ x.ps.length ≤ 1000000 ∧ ∀ c ∈ x.cs, FSz c.fs ∧ c.fs.length ≤ 1000000 := by
 rcases h with h | ⟨-, rfl⟩
 ·exact hK x (List.mem_of_find?_eq_some h)
 ·exact ⟨Nat.zero_le _, Nat.zero_le _, fun y hy => by cases hy⟩
end Go.Proofs.YthnafdbebniapaaGreatDoor
namespace Go.Wk
open Go
set_option linter.unusedVariables false
theorem tr_add_le {w0 : World} {F0 : Heap} {K0 : List Nat} {w : World} {F : Heap} {g : Grp} (h : Tr w0 F0 K0 w F ([] ++ g :: [])) : ∀ b o, F b = some o → F.add g b = some o := fun b o e => by
 rw [Heap.add_none (fun hm => ?_)]
 ·exact e
 ·obtain ⟨p, hp, rfl⟩ := List.mem_map.1 hm
  have := (h.own p (by simp only [List.nil_append, List.flatten_cons]; exact List.mem_append_left _ hp)).2.1
  rw [this] at e; cases e
theorem ct_frz {P : Program} {f : FuncId} {args : List Value} {F : Heap} {Post : Heap → Grp → Value → Prop} {Post' : Heap → Value → Prop} (h : Ct P f args F [] (fun F' G' u => ∃ g, G' = [g] ∧ Post F' g u)) (hp : ∀ F' g u, (∀ b o, F' b = some o → F'.add g b = some o) → Post F' g u → Post' (F'.add g) u) : Ct P f args F [] (fun F' _ u => Post' F' u) := by
 intro w hw
 refine (h w hw).mono fun e w' ⟨v, F', G', h1, h2, g, h3, h4⟩ => ?_
 subst h3
 have h2' : Tr w F (keys []) w' F' ([] ++ g :: []) := h2
 have hle : ∀ b o, F' b = some o → F'.add g b = some o := tr_add_le h2'
 exact ⟨v, F'.add g, [], h1, h2'.freeze, hp F' g v hle h4⟩
theorem ct_le {P : Program} {f : FuncId} {args : List Value} {F : Heap} {G : List Grp} {Post : Heap → List Grp → Value → Prop} (h : Ct P f args F G Post) : Ct P f args F G (fun F' G' u => Post F' G' u ∧ ∀ b o, F b = some o → F' b = some o) := fun w hw =>
 (h w hw).mono fun _ _ ⟨v, F', G', h1, h2, h3⟩ => ⟨v, F', G', h1, h2, h3, h2.ext⟩
end Go.Wk
namespace Go.Proofs.YthnafdbebniapaaGreatDoor
open Go Go.Wk Go.Un Go.De Go.Cv
set_option linter.unusedSimpArgs false
set_option linter.unusedVariables false
attribute [local irreducible] Go.wpList Go.Code.wp Go.wpStill Go.Wk.wpPre Go.bodyPost Go.Calls Go.Wk.Ct Go.Wk.OwnS Go.Wk.wpG Go.Wk.wpM
def IntV (es : List (List UInt8 × Value)) : Prop := ∀ p ∈ es, ∃ n : Int, p.2 = .int .i64 n
theorem IntV.set : ∀ {es : List (List UInt8 × Value)} (k : List UInt8) (n : Int), IntV es → IntV (mSet es k (.int .i64 n))
 | [], k, n, _ => fun p hp => by rw [show mSet [] k (.int .i64 n) = [(k, .int .i64 n)] from rfl, List.mem_singleton] at hp; subst hp; exact ⟨n, rfl⟩
 | (a, u) :: r, k, n, h => by
  unfold mSet
  split
  ·intro p hp
   rcases List.mem_cons.1 hp with rfl | hp
   ·exact ⟨n, rfl⟩
   ·exact h p (List.mem_cons_of_mem _ hp)
  ·intro p hp
   rcases List.mem_cons.1 hp with rfl | hp
   ·exact h _ (List.mem_cons_self ..)
   ·exact IntV.set (es := r) k n (fun q hq => h q (List.mem_cons_of_mem _ hq)) p hp
theorem IntV.get {es : List (List UInt8 × Value)} (h : IntV es) (s : List UInt8) : ∃ n : Int, (mGet es s).getD (.int .i64 0) = .int .i64 n := by
 unfold mGet
 cases e : es.find? (fun p => decide (s = p.1)) with
 | none => exact ⟨0, rfl⟩
 | some p => obtain ⟨n, hn⟩ := h p (List.mem_of_find?_eq_some e); exact ⟨n, hn⟩
theorem arityCt (F : Heap) : Ct Tryz.prog 155 [] F [] (fun F' _ u => ∃ b es, u = .map (some b) ∧ F' b = some (mObj kS es) ∧ IntV es) := by
 refine Ct.enter Tryz.func155 rfl Tryz.ntmps155 rfl fun w0 a S => ?_
 (revert S a; refine go 5 ?_; intro Z hZ a S)
 (refine wpl_makeMap kS S rfl rfl rfl rfl ?_; clear S a; intro b4 a w S)
 iterate 5 (refine wpl_mapIns (enc := kS) S rfl rfl rfl rfl rfl rfl ?_; clear S; intro w S)
 (revert S a; revert hZ Z; refine go 6 ?_; intro Z hZ Z hZ a S)
 (refine wpl_buildSlice S rfl rfl rfl rfl rfl rfl (by rfl) (by simp [Value.cells, splice, splice]) rfl (by rfl) (by rfl) ?_; clear S a; intro b6 a w hown S)
 (replace S := St.pullB b6 S; have S' := frz1 S; clear S; obtain ⟨F5, hle5, hb6, S⟩ := S'; have hw6 : ∀ k, k < 14 → ∃ s, Cel F5 b6 (0 + k * 1) (.string (bs s)) := (by intro k hk; have h14 : k = 0 ∨ k = 1 ∨ k = 2 ∨ k = 3 ∨ k = 4 ∨ k = 5 ∨ k = 6 ∨ k = 7 ∨ k = 8 ∨ k = 9 ∨ k = 10 ∨ k = 11 ∨ k = 12 ∨ k = 13 := (by omega); rcases h14 with rfl | rfl | rfl | rfl | rfl | rfl | rfl | rfl | rfl | rfl | rfl | rfl | rfl | rfl <;> exact ⟨_, ⟨_, _, _, hb6, rfl⟩⟩))
 (revert S a; revert hZ Z; refine go 5 ?_; intro a S)
 refine wpc_loop (fun m a w' => ∃ (k : Nat) (es : List (List UInt8 × Value)), m = 14 - k ∧ k ≤ 14 ∧ IntV es ∧ St 16 [(1, .map (some b4)), (6, .slice (some ⟨b6, 0, none⟩) 14 14), (7, .int .i64 ((14 : Nat) : Int)), (8, .int .i64 (k : Int))] w0 F [] F5 [[(b4, mObj kS es)]] a w') ?_ ?_
 ·(refine ⟨14, 0, ?_, by omega, Nat.zero_le _, ?_, ?_⟩; rotate_left 2; (refine S.keep ?_; exact zk); (repeat (refine IntV.set _ _ ?_)); (intro p hp; cases hp))
 (clear S; rintro m a w ⟨k, es, rfl, hkl, hI, S⟩)
 (revert S a; refine go 5 ?_; intro Z hZ a S)
 refine wpc_sp S rfl ?_ ?_ <;> intro h
 ·(revert S a; revert hZ Z; refine go 4 ?_; intro Z hZ a S)
  (refine wp_seq_k ?_; intro Z hZ)
  (obtain ⟨s9, hs9⟩ := hw6 k (by omega))
  (revert S a; revert hZ Z; refine go 9 ?_; intro a S)
  (refine wpl_mapSet (enc := kS) S rfl rfl rfl rfl rfl rfl ?_; clear S; intro w S)
  (revert S a; revert hZ Z; refine go 6 ?_; intro a S)
  change ∃ m', _ ∧ _
  (refine ⟨14 - (k + 1), by omega, k + 1, mSet es s9 (.int .i64 2), rfl, by omega, hI.set s9 2, ?_⟩; (refine S.keep ?_; exact zk))
 (refine wp_exit ?_; conv => whnf)
 clear hZ Z
 (revert S a; revert hZ Z; refine go 6 ?_; intro a S)
 refine wp_ret ?_
 (have S' := frz1 S; clear S; obtain ⟨F6, hle6, hb4, S⟩ := S')
 refine fin_ret S (results1 Tryz.results155 (RV.tmp S rfl)) ?_
 exact ⟨_, _, rfl, hb4, hI⟩
def depZ : Ef → Int
 | .nil => 0
 | .cons h L r => max (IntKind.i64.wrap (1 + depZ L)) (depZ r)
theorem depZ_cons (h : EH) (L r : Ef) : depZ (.cons h L r) = max (IntKind.i64.wrap (1 + depZ L)) (depZ r) := rfl
theorem depZ_pos : ∀ l : Ef, 0 ≤ depZ l
 | .nil => Int.le_refl _
 | .cons h L r => by rw [depZ_cons]; have := depZ_pos r; omega
def DepD (n : Nat) : Prop := ∀ (F : Heap) (h : EH) (L : Ef) (cs : List Value), L.size < n → PxC F cs h L → Ct Tryz.prog 56 [.agg ⟨cs⟩] F [] (fun _ _ u => u = .int .i64 (IntKind.i64.wrap (1 + depZ L)))
theorem deepestCt {n : Nat} (hD : DepD n) (F : Heap) (L : Ef) (v : Value) (hn : L.size ≤ n) (hv : TrS F 9 EhR v L) : Ct Tryz.prog 101 [v, .func (.func 56) ⟨[]⟩ ⟨[]⟩] F [] (fun _ _ u => u = .int .i64 (depZ L)) := by
 obtain ⟨ao, cap, rfl, hcap, hpos⟩ := hv
 refine Ct.enter Tryz.func101 rfl Tryz.ntmps101 rfl fun w0 a S => ?_
 (revert S a; refine go 16 ?_; intro Z hZ a S)
 refine wpc_loop (fun m a w' => ∃ (k : Nat) (p : Int), m = L.len - k ∧ k ≤ L.len ∧ max p (depZ (L.drop k)) = depZ L ∧ 0 ≤ p ∧ St 21 [(1, .func (.func 56) ⟨[]⟩ ⟨[]⟩), (5, .int .i64 p), (8, .slice ao L.len cap), (9, .int .i64 L.len), (10, .int .i64 k)] w0 F [] F [] a w') ?_ ?_
 ·(refine ⟨L.len, 0, 0, by omega, Nat.zero_le _, (by have := depZ_pos L; show max 0 (depZ L) = _; omega), Int.le_refl _, ?_⟩; refine S.keep ?_; exact zk)
 (clear S; rintro m a w ⟨k, p, rfl, hkl, hp, hp0, S⟩)
 (revert S a; refine go 5 ?_; intro Z hZ a S)
 refine wpc_sp S rfl ?_ ?_ <;> intro h
 ·(revert S a; revert hZ Z; refine go 4 ?_; intro Z hZ a S)
  (refine wp_seq_k ?_; intro Z hZ)
  (obtain ⟨b8, o8, hao, x, cs1, v1, hx, hc1, hR1, hT1⟩ := TrM.pos hpos (k := k) (by omega); rw [hao] at S; have hxs := Rose.size_get hx; have hdr := Rose.drop_get hx; obtain ⟨w1, rfl, h2w⟩ := hR1; have h2x := h2w; have hTx := hT1; obtain ⟨a1, c1, rfl, -⟩ := h2w; obtain ⟨a2, c2, rfl, -⟩ := hT1; (simp only [List.cons_append, List.nil_append] at hc1))
  (revert S a; refine go 3 ?_; intro a S)
  (refine wpl_alloc S rfl rfl rfl rfl ?_; clear S a; intro b7 a w S)
  (refine wso S rfl rfl ?_; clear S; intro w S)
  (revert S a; revert hZ Z; refine go 6 ?_; intro a S)
  (refine wc0 S (hD F x.1 x.2 _ (by omega) ⟨_, _, _, _, _, rfl, h2x, hTx⟩) ?_; clear S a; intro v a w hv S; subst hv)
  (refine wv S (sv_maxI S rfl rfl rfl) ?_; clear S a; intro a S)
  (revert S a; revert hZ Z; refine go 7 ?_; intro a S)
  change ∃ m', _ ∧ _
  (rw [← hao] at S; replace S := S.drop1; refine ⟨L.len - (k + 1), by omega, k + 1, max p (IntKind.i64.wrap (1 + depZ x.2)), rfl, by omega, ?_, by omega, ?_⟩; rotate_left 1; (refine S.keep ?_; exact zk); rw [← hp, hdr, depZ_cons]; omega)
 (refine wp_exit ?_; conv => whnf)
 clear hZ Z
 (revert S a; revert hZ Z; refine go 6 ?_; intro a S)
 refine wp_ret (fr1 S Tryz.results101 ?_)
 (congr 1; rw [← hp, Rose.drop_len (by omega)]; show p = max p 0; omega)
theorem depthPCt : ∀ n, DepD n := by
 intro n
 induction n with
 | zero => intro F h L cs hn; omega
 | succ n ih =>
 intro F h L cs hn hX
 obtain ⟨a1, n1, c1, ao, cap, rfl, -, hL⟩ := hX
 have hd := deepestCt ih F L _ (by omega) hL
 refine Ct.enter Tryz.func56 rfl Tryz.ntmps56 rfl fun w0 a S => ?_
 refine wp_sr fun Z hZ => ?_
 (refine wbx S ?_; clear S a; intro b1 a w S)
 (revert S a; revert hZ Z; refine go 6 ?_; intro Z hZ a S)
 (refine wc0 S (hd) ?_; clear S a; intro v a w hv S; subst hv)
 (refine wv S (sv_addW S rfl rfl rfl) ?_; clear S a; intro a S)
 (revert S a; revert hZ Z; refine go 3 ?_; intro a S)
 refine wp_ret (fr1 S Tryz.results56 ?_)
 rfl
def midQ (h : EH) (n : Nat) : Bool := if h.k = 2 then varS h.nm && decide (n = 0) else if h.k = 3 then decide (h.nm = []) && decide (n = 0) else if h.k = 4 then decide (h.nm = []) && decide (n ≠ 1 ∧ n ≤ 16) else if h.k = 5 then longS h.nm && decide (n ≤ 8) else false
theorem midQ_2 {h : EH} {n : Nat} (e : h.k = 2) : midQ h n = (varS h.nm && decide (n = 0)) := by unfold midQ; rw [if_pos e]
theorem midQ_3 {h : EH} {n : Nat} (e : h.k = 3) : midQ h n = (decide (h.nm = []) && decide (n = 0)) := by unfold midQ; rw [if_neg (by omega), if_pos e]
theorem midQ_4 {h : EH} {n : Nat} (e : h.k = 4) : midQ h n = (decide (h.nm = []) && decide (n ≠ 1 ∧ n ≤ 16)) := by unfold midQ; rw [if_neg (by omega), if_neg (by omega), if_pos e]
theorem midQ_5 {h : EH} {n : Nat} (e : h.k = 5) : midQ h n = (longS h.nm && decide (n ≤ 8)) := by unfold midQ; rw [if_neg (by omega), if_neg (by omega), if_neg (by omega), if_pos e]
theorem midQ_0 {h : EH} {n : Nat} (e : ¬ h.k = 2 ∧ ¬ h.k = 3 ∧ ¬ h.k = 4 ∧ ¬ h.k = 5) : midQ h n = false := by unfold midQ; rw [if_neg e.1, if_neg e.2.1, if_neg e.2.2.1, if_neg e.2.2.2]
theorem good_1 {h : EH} {L : Ef} (h1 : h.k = 1) : (goodH h L.len && goodL L) = (((decide (1 ≤ h.v.k ∧ h.v.k ≤ 4) && decide (checkV h.v h.vl = 0)) && decide (L.len = 0)) && decide (h.nm = [])) := by
 unfold goodH
 rw [if_pos h1]
 cases L with
 | nil => exact Bool.and_true _
 | cons a b c => simp [Rose.len]
theorem good_n {h : EH} {L : Ef} (h1 : ¬ h.k = 1) : goodH h L.len = (midQ h L.len && zeroV (h.v, h.vl)) := by
 unfold goodH midQ
 rw [if_neg h1]
def GoodD (n : Nat) : Prop := ∀ (F : Heap) (h : EH) (L : Ef) (cs : List Value), L.size < n → MaxF F → BndH h → BndL L → PxC F cs h L → Ct Tryz.prog 102 [.agg ⟨cs⟩, .bool true] F [] (fun _ _ u => u = .bool (goodH h L.len && goodL L))
theorem good1Ct {n : Nat} (hG : GoodD n) (F : Heap) (hM : MaxF F) (bp : Nat) (hbp : Cel F bp 0 (.bool true)) (h : EH) (L : Ef) (cs : List Value) (hn : L.size < n) (hb : BndH h) (hbl : BndL L) (hX : PxC F cs h L) :
  Ct Tryz.prog 159 ([] ++ [.agg ⟨cs⟩] ++ [.pointer (some ⟨bp, 0, none⟩)]) F [] (fun _ _ u => u = .bool (goodH h L.len && goodL L)) := by
 have hg := hG F h L cs hn hM hb hbl hX
 obtain ⟨a1, n1, c1, ao, cap, rfl, -, -⟩ := hX
 refine Ct.enter Tryz.func159 rfl Tryz.ntmps159 rfl fun w0 a S => ?_
 refine wp_sr fun Z hZ => ?_
 (refine wbx S ?_; clear S a; intro b2 a w S)
 (revert S a; revert hZ Z; refine go 5 ?_; intro Z hZ a S)
 (refine wv S (sv_loadF S rfl rfl hbp) ?_; clear S a; intro a S)
 (refine wc0 S (hg) ?_; clear S a; intro v a w hv S; subst hv)
 (revert S a; revert hZ Z; refine go 3 ?_; intro a S)
 refine wp_ret (fr1 S Tryz.results159 ?_)
 rfl
theorem zzTh0 {p : Prop} (h : p := by (congr 1; first | (rw [good_1 (h := eh) (by omega), Bool.eq_iff_iff]; simp only [Bool.and_eq_true, decide_eq_true_eq, beq_iff_eq, Bool.false_eq_true, false_iff]; first | exact ⟨fun h9 => ⟨⟨⟨⟨by omega, by omega⟩, by assumption⟩, by omega⟩, h9⟩, fun h9 => h9.2⟩ | (rintro ⟨⟨⟨⟨h1, h2⟩, h3⟩, h4⟩, h5⟩; omega)) | (rw [good_n hk1, ← hq, ← allR_good]; simp_all; done) | trace_state)) : p := h
theorem zzTh1 {p : Prop} (h : p := by (apply Exists.intro; apply Exists.intro; refine ⟨?_, ?_, ?_, ?_⟩; rotate_left 3; (refine S.keep ?_; exact zk); (first | exact fun _ _ h => h | assumption); omega; (clear S hZ Z; (first | rw [midQ_2 (h := eh) (by omega)] | rw [midQ_3 (h := eh) (by omega)] | rw [midQ_4 (h := eh) (by omega)] | rw [midQ_5 (h := eh) (by omega)] | rw [midQ_0 (h := eh) (by omega)]); first | done | rfl | (rw [Bool.eq_iff_iff]; simp only [Bool.and_eq_true, decide_eq_true_eq, beq_iff_eq, Bool.false_eq_true, false_iff]; first | exact ⟨fun h9 => ⟨by assumption, by omega⟩, fun h9 => by omega⟩ | exact ⟨fun h9 => ⟨by assumption, by omega, by omega⟩, fun h9 => by omega⟩ | (rintro ⟨h1, h2⟩; first | omega | exact absurd h1 (by assumption) | (rw [(by assumption : varS eh.nm = false)] at h1; cases h1) | (rw [(by assumption : longS eh.nm = false)] at h1; cases h1)))))) : p := h
theorem goodCt : ∀ n, GoodD n := by
  intro n
  induction n with
  | zero => intro F h L cs hn; omega
  | succ n ih =>
  intro F eh L cs hn hM hb hbl hX
  obtain ⟨a1, n1, c1, ao, cap, rfl, hv, hL⟩ := hX
  have hLc := hL
  obtain ⟨-, -, -, hcap, -⟩ := hLc
  refine Ct.enter Tryz.func102 rfl Tryz.ntmps102 rfl fun w0 a S => ?_
  refine wp_sr fun Z hZ => ?_
  (refine wbx S ?_; clear S a; intro b2 a w S)
  (refine wbx S ?_; clear S a; intro b3 a w S)
  (revert S a; revert hZ Z; refine go 14 ?_; intro a S)
  (refine wp_seq_k ?_; intro Z hZ)
  replace hZ : ∀ (a' : Act) (w' : World), (∃ (F1 : Heap) (q : Bool), (∀ b o, F b = some o → F1 b = some o) ∧ ¬ eh.k = 1 ∧ q = midQ eh L.len ∧ St 138 [(2, ptr b2), (3, ptr b3), (6, .bool q)] w0 F [] F1 [[(b3, .cells ⟨[.bool true]⟩ 4 (0, 0))], [(b2, .cells ⟨[.int .u8 (eh.k : Int), .int .i64 eh.l, .int .i64 eh.c, .string (bs eh.nm), .int .u8 (eh.v.k : Int), .int .i64 eh.v.n, .string (bs eh.v.s), .slice a1 n1 c1, .slice ao L.len cap]⟩ 29 (0, 0))]] a' w') → Z a' w' := (by
   (intro a w hM; refine hZ _ _ ?_; clear hZ Z; clear S; obtain ⟨F1, q, hF1, hk1, hq, S⟩ := hM)
   (revert S a; refine go 3 ?_; intro Z hZ a S)
   refine wgd S ?_ ?_
   · (clear S; intro h S)
     (revert S a; refine go 4 ?_; intro a S)
     (refine wc0 S (tzeroCt F1 eh.v eh.vl _ ⟨_, rfl, hv.mono hF1, hb.2⟩) ?_; clear S a; intro v a w hv9 S; subst hv9)
     (revert S a; refine go 2 ?_; intro a S)
     refine wgd S ?_ ?_
     · (clear S; intro h S)
       (revert S a; refine go 6 ?_; intro a S)
       (replace S := St.pullB b3 S; have S' := frz1 S; clear S; obtain ⟨F5, hle5, hb3, S⟩ := S'; refine wc0 S (allECt F5 L _ (hL.mono fun b o h => hle5 _ _ (hF1 _ _ h)) 159 [] [.pointer (some ⟨b3, 0, none⟩)] (fun h L => goodH h L.len && goodL L) (fun F' k x cs hF' hx hX => by have hg := hbl.get hx; have hsz := Rose.size_get hx; exact good1Ct ih F' (hM.mono fun b o h => hF' _ _ (hle5 _ _ (hF1 _ _ h))) b3 (Cel.mono hF' ⟨_, _, _, hb3, rfl⟩) x.1 x.2 cs (by omega) hg.1 hg.2 hX)) ?_; clear S a; intro v a w hv9 S; subst hv9)
       (revert S a; revert hZ Z; refine go 4 ?_; intro a S)
       refine wp_ret (fr1 S Tryz.results102 ?_)
       exact zzTh0
     (clear S a; intro h a S)
     (revert S a; revert hZ Z; refine go 7 ?_; intro a S)
     refine wp_ret (fr1 S Tryz.results102 ?_)
     exact zzTh0
   (clear S a; intro h a S)
   (revert S a; revert hZ Z; refine go 12 ?_; intro a S)
   refine wp_ret (fr1 S Tryz.results102 ?_)
   (congr 1; first | (rw [good_1 (h := eh) (by omega), Bool.eq_iff_iff]; simp only [Bool.and_eq_true, decide_eq_true_eq, beq_iff_eq, Bool.false_eq_true, false_iff]; first | exact ⟨fun h9 => ⟨⟨⟨⟨by omega, by omega⟩, by assumption⟩, by omega⟩, h9⟩, fun h9 => h9.2⟩ | (rintro ⟨⟨⟨⟨h1, h2⟩, h3⟩, h4⟩, h5⟩; omega)) | (rw [good_n hk1, ← hq, ← allR_good]; simp_all; done) | trace_state))
  (revert S a; refine go 11 ?_; intro a S)
  refine wpc_sp S rfl ?_ ?_ <;> intro h
  · (revert S a; refine go 11 ?_; intro Z hZ a S)
    refine wgd S ?_ ?_
    · (clear S; intro h S)
      (revert S a; refine go 5 ?_; intro a S)
      refine wgd S ?_ ?_
      · (clear S; intro h S)
        (revert S a; refine go 4 ?_; intro a S)
        (refine wc0 S (checkUCt F eh.v eh.vl _ ⟨_, rfl, hv, hb.2⟩) ?_; clear S a; intro v a w hv9 S; subst hv9)
        (revert S a; refine go 4 ?_; intro a S)
        refine wgd S ?_ ?_
        · (clear S; intro h S)
          (revert S a; refine go 5 ?_; intro a S)
          refine wgd S ?_ ?_
          · (clear S; intro h S)
            (revert S a; revert hZ Z; refine go 9 ?_; intro a S)
            refine wp_ret (fr1 S Tryz.results102 ?_)
            exact zzTh0
          (clear S a; intro h a S)
          (revert S a; revert hZ Z; refine go 6 ?_; intro a S)
          refine wp_ret (fr1 S Tryz.results102 ?_)
          exact zzTh0
        (clear S a; intro h a S)
        (revert S a; revert hZ Z; refine go 10 ?_; intro a S)
        refine wp_ret (fr1 S Tryz.results102 ?_)
        exact zzTh0
      (clear S a; intro h a S)
      (revert S a; revert hZ Z; refine go 16 ?_; intro a S)
      refine wp_ret (fr1 S Tryz.results102 ?_)
      exact zzTh0
    (clear S a; intro h a S)
    (revert S a; revert hZ Z; refine go 20 ?_; intro a S)
    refine wp_ret (fr1 S Tryz.results102 ?_)
    exact zzTh0
  (revert S a; refine go 5 ?_; intro a S)
  refine wpc_sp S rfl ?_ ?_ <;> intro h
  · (revert S a; refine go 3 ?_; intro a S)
    (refine wc0 S (tvarCt F eh.nm hb.1) ?_; clear S a; intro v a w hv9 S; subst hv9)
    (revert S a; refine go 1 ?_; intro a S)
    refine wgd S ?_ ?_
    · (clear S; intro h S)
      (revert S a; refine go 6 ?_; intro a S)
      (refine hZ _ _ ?_)
      exact zzTh1
    (clear S a; intro h a S)
    (revert S a; refine go 4 ?_; intro a S)
    (refine hZ _ _ ?_)
    exact zzTh1
  (revert S a; refine go 5 ?_; intro a S)
  refine wpc_sp S rfl ?_ ?_ <;> intro h
  · (revert S a; refine go 2 ?_; intro a S)
    skip
    (revert S a; refine go 9 ?_; intro a S)
    refine wgd S ?_ ?_
    · (clear S; intro h S)
      (revert S a; refine go 6 ?_; intro a S)
      (refine hZ _ _ ?_)
      exact zzTh1
    (clear S a; intro h a S)
    (revert S a; refine go 4 ?_; intro a S)
    (refine hZ _ _ ?_)
    exact zzTh1
  (revert S a; refine go 5 ?_; intro a S)
  refine wpc_sp S rfl ?_ ?_ <;> intro h
  · (revert S a; refine go 5 ?_; intro a S)
    refine wgd S ?_ ?_
    · (clear S; intro h S)
      (revert S a; refine go 5 ?_; intro a S)
      refine wgd S ?_ ?_
      · (clear S; intro h S)
        (revert S a; refine go 6 ?_; intro a S)
        (refine hZ _ _ ?_)
        exact zzTh1
      (clear S a; intro h a S)
      (revert S a; refine go 4 ?_; intro a S)
      (refine hZ _ _ ?_)
      exact zzTh1
    (clear S a; intro h a S)
    (revert S a; refine go 8 ?_; intro a S)
    (refine hZ _ _ ?_)
    exact zzTh1
  (revert S a; refine go 5 ?_; intro a S)
  refine wpc_sp S rfl ?_ ?_ <;> intro h
  · (revert S a; refine go 3 ?_; intro a S)
    (refine wc0 S (tlongCt F hM eh.nm hb.1) ?_; clear S a; intro v a w hv9 S; subst hv9)
    (revert S a; refine go 1 ?_; intro a S)
    refine wgd S ?_ ?_
    · (clear S; intro h S)
      (revert S a; refine go 6 ?_; intro a S)
      (refine hZ _ _ ?_)
      exact zzTh1
    (clear S a; intro h a S)
    (revert S a; refine go 4 ?_; intro a S)
    (refine hZ _ _ ?_)
    exact zzTh1
  (revert S a; refine go 5 ?_; intro a S)
  refine wpc_sp S rfl ?_ ?_ <;> intro h
  · (refine wp_seq_k ?_; intro Z hZ)
    (refine wpc_mixM [1, 2] [2] [] (.one 1 (.one 2 (.one 0 (.one 3 (.one 4 .nil))))) [b2] S mixed (by kernel_rfl) ?_; clear S; intro w S)
    (revert S a; refine go 3 ?_; intro a S)
    (refine wcF S (arityCt F) ?_; clear S a; intro u9 F9 a w hu9 hF9 S; obtain ⟨b9, es9, rfl, hb9, hI9⟩ := hu9; obtain ⟨n9, hn9⟩ := hI9.get eh.nm)
    (revert S a; refine go 2 ?_; intro a S)
    (refine wv S (sv_lookupF (enc := kS) S rfl rfl rfl hb9) ?_; clear S a; intro a S)
    (rw [if_neg Bool.false_ne_true, hn9] at S)
    (revert S a; revert hZ Z; refine go 8 ?_; intro a S)
    skip
    (revert S a; refine go 12 ?_; intro a S)
    (refine hZ _ _ ?_)
    exact zzTh1
  (revert S a; refine go 5 ?_; intro a S)
  refine wpc_sp S rfl ?_ ?_ <;> intro h
  · (revert S a; refine go 2 ?_; intro a S)
    skip
    (revert S a; refine go 12 ?_; intro a S)
    (refine hZ _ _ ?_)
    exact zzTh1
  (revert S a; refine go 5 ?_; intro a S)
  refine wpc_sp S rfl ?_ ?_ <;> intro h
  · (revert S a; refine go 2 ?_; intro a S)
    skip
    (revert S a; refine go 12 ?_; intro a S)
    (refine hZ _ _ ?_)
    exact zzTh1
  refine wp_skip ?_
  (refine hZ _ _ ?_)
  exact zzTh1
def patZ (h : EH) (L : Ef) : Bool := decide (IntKind.i64.wrap (1 + depZ L) ≤ 64) && (goodH h L.len && goodL L)
theorem patternCt (F : Heap) (h : EH) (L : Ef) (cs : List Value) (hM : MaxF F) (hb : BndH h) (hbl : BndL L) (hX : PxC F cs h L) : Ct Tryz.prog 57 [.agg ⟨cs⟩] F [] (fun _ _ u => u = .bool (goodH h L.len && goodL L)) := by
 have hg := goodCt (L.size + 1) F h L cs (Nat.lt_succ_self _) hM hb hbl hX
 obtain ⟨a1, n1, c1, ao, cap, rfl, -, -⟩ := hX
 refine Ct.enter Tryz.func57 rfl Tryz.ntmps57 rfl fun w0 a S => ?_
 refine wp_sr fun Z hZ => ?_
 (refine wbx S ?_; clear S a; intro b1 a w S)
 (revert S a; revert hZ Z; refine go 5 ?_; intro Z hZ a S)
 (refine wc0 S (hg) ?_; clear S a; intro v a w hv S; subst hv)
 (revert S a; revert hZ Z; refine go 3 ?_; intro a S)
 refine wp_ret (fr1 S Tryz.results57 ?_)
 rfl
theorem zzTh2 {p : Prop} (h : p := by (congr 1; unfold patZ; first | (rw [decide_eq_true (by assumption), Bool.true_and]; done) | (rw [decide_eq_false (by assumption), Bool.false_and]; done))) : p := h
theorem PatternCt (F : Heap) (h : EH) (L : Ef) (cs : List Value) (hM : MaxF F) (hb : BndH h) (hbl : BndL L) (hX : PxC F cs h L) : Ct Tryz.prog 34 [.agg ⟨cs⟩] F [] (fun _ _ u => u = .bool (patZ h L)) := by
 have hg := patternCt F h L cs hM hb hbl hX
 have hd := depthPCt (L.size + 1) F h L cs (Nat.lt_succ_self _) hX
 obtain ⟨a1, n1, c1, ao, cap, rfl, -, -⟩ := hX
 refine Ct.enter Tryz.func34 rfl Tryz.ntmps34 rfl fun w0 a S => ?_
 refine wp_sr fun Z hZ => ?_
 (refine wbx S ?_; clear S a; intro b1 a w S)
 (revert S a; revert hZ Z; refine go 5 ?_; intro Z hZ a S)
 (refine wc0 S (hd) ?_; clear S a; intro v a w hv S; subst hv)
 (revert S a; refine go 2 ?_; intro a S)
 refine wgd S ?_ ?_
 ·(clear S; intro h S)
  (revert S a; refine go 2 ?_; intro a S)
  (refine wc0 S (hg) ?_; clear S a; intro v a w hv S; subst hv)
  (revert S a; revert hZ Z; refine go 4 ?_; intro a S)
  refine wp_ret (fr1 S Tryz.results34 ?_)
  exact zzTh2
 (clear S a; intro h a S)
 (revert S a; revert hZ Z; refine go 5 ?_; intro a S)
 refine wp_ret (fr1 S Tryz.results34 ?_)
 exact zzTh2
theorem cloneS1 (F : Heap) (v : Value) (l : List (List UInt8)) (h : LiM F 1 StR v l) (hl : l.length ≤ 1000000) : Ct Tryz.prog 48 [v] F [] (fun F' _ u => LiM F' 1 StR u l) :=
 ct_frz (Post := fun F' g u => (∃ xs, OwnS 9 1 u l.length xs g ∧ LiC F 1 StR xs l) ∧ ∀ b o, F b = some o → F' b = some o) (Ct.mono (ct_le (cloneSCt F v l h hl)) fun F' G' u ⟨⟨g, xs, h1, h2, h3⟩, h4⟩ => ⟨g, h1, ⟨xs, h2, h3⟩, h4⟩) fun F' g u hle ⟨⟨xs, h1, h2⟩, h3⟩ => LiC.lim h1 (h2.mono h3) rfl hle (by omega)
theorem consMCt (F : Heap) (tb m1 m2 m3 : Nat) (ts : List TD) (css : List KC) (rs : List RD) (hT : TabS F tb m1 m2 m3 ts css rs) (hK : KSz css) (s : List UInt8) :
  Ct Tryz.prog 128 [.pointer (some ⟨tb, 0, none⟩), .string (bs s)] F [] (fun F' _ u => ∃ (x : KC) (a1 : Option Addr) (n1 c1 : Nat) (a4 : Option Addr) (c4 : Nat), u = .tuple ⟨[.agg ⟨[.string (bs x.ty), .slice a1 n1 c1, .int .i64 x.pl, .slice a4 x.fs.length c4]⟩, .bool (findC css s).isSome]⟩ ∧ (findC css s = some x ∨ findC css s = none ∧ x = zKC) ∧ LiM F' 1 StR (.slice a1 n1 c1) x.ps ∧ LiM F' 3 FdR (.slice a4 x.fs.length c4) x.fs) := by
 have hcc : Cel F tb 1 (.map (some m2)) := hT.c 1 _ rfl
 obtain ⟨es, hes, hmm⟩ := hT.k
 refine Ct.enter Tryz.func128 rfl Tryz.ntmps128 rfl fun w0 a S => ?_
 refine wp_sr fun Z hZ => ?_
 (refine wpl_alloc S rfl rfl rfl rfl ?_; clear S a; intro b4 a w S)
 (revert S a; revert hZ Z; refine go 6 ?_; intro Z hZ Z hZ a S)
 (refine wv S (sv_lit (c := false) (sv_eqPtrSome S rfl rfl rfl) (by rfl)) ?_; clear S a; intro a S)
 (revert S a; revert hZ Z; refine go 2 ?_; intro a S)
 refine wpc_false S rfl ?_
 (revert S a; revert hZ Z; refine go 6 ?_; intro Z hZ a S)
 (refine wv S (sv_loadF S rfl rfl hcc) ?_; clear S a; intro a S)
 (revert S a; refine go 1 ?_; intro a S)
 (refine wv S (sv_lookupF (enc := kS) S rfl rfl rfl hes) ?_; clear S a; intro a S)
 (obtain ⟨y, ap, cp, ac, cc, hgd, hps, hfs, hy, his⟩ := get_kc hmm s; obtain ⟨hy1, hy2, hy3⟩ := hK.of hy; rw [if_pos rfl, hgd, his] at S)
 (revert S a; refine go 3 ?_; intro a S)
 (refine wpl_alloc S rfl rfl rfl rfl ?_; clear S a; intro b6 a w S)
 (refine wso S rfl rfl ?_; clear S; intro w S)
 (revert S a; revert hZ Z; refine go 3 ?_; intro a S)
 (refine wp_seq_k ?_; intro Z hZ)
 (refine wpc_mixM [0, 1, 3, 4, 6, 8] [1, 4] [7, 9] (.one 0 (.one 1 (.one 3 (.one 4 (.one 2 (.one 6 (.one 5 (.one 7 (.one 8 (.one 9 .nil)))))))))) [b6] S mixed (by kernel_rfl) ?_; clear S; intro w S)
 (revert S a; refine go 5 ?_; intro a S)
 (refine wcF S (cloneS1 F _ y.ps hps hy1) ?_; clear S a; intro u9 F5 a w hv hF5 S; have hvc := hv; obtain ⟨a22, c22, rfl, -, -⟩ := hvc)
 (revert S a; refine go 3 ?_; intro a S)
 (refine wcF S (ownedCt F5 y.fs _ (hfs.mono hF5) hy2 hy3) ?_; clear S a; intro u8 F6 a w hv6 hF6 S; have hvd := hv6; obtain ⟨a25, c25, rfl, -, -⟩ := hvd)
 (revert S a; refine go 2 ?_; intro a S)
 (refine wpl_store1 S rfl rfl rfl rfl rfl rfl (by first | (simp; done) | (simp [Value.cells]; done) | exact Nat.le_of_ble_eq_true rfl) ?_; clear S; intro w S)
 (revert S a; refine go 2 ?_; intro a S)
 refine wpm_eff rfl rfl (fun h => absurd h (by decide)) ?_
 (refine wpl_store1 S rfl rfl rfl rfl rfl rfl (by first | (simp; done) | (simp [Value.cells]; done) | exact Nat.le_of_ble_eq_true rfl) ?_; clear S; intro w S)
 refine wpList_nil ?_
 refine wpm_nil (fun h => absurd h (by decide)) ?_
 (revert S a; revert hZ Z; refine go 4 ?_; intro Z hZ a S)
 (refine wso S rfl rfl ?_; clear S; intro w S)
 (revert S a; revert hZ Z; refine go 3 ?_; intro a S)
 refine wp_ret (fin_ret S (results2 Tryz.results128 (RV.cellO S rfl (by rfl)) (RV.tmp S rfl)) ?_)
 exact ⟨y, _, _, _, _, _, rfl, hy, hv.mono hF6, hv6⟩
def foOf : List Ty → Fo
 | [] => .nil
 | t :: r => .cons t.1 t.2 (foOf r)
theorem foOf_len : ∀ l : List Ty, (foOf l).len = l.length
 | [] => rfl
 | t :: r => by show (foOf r).len + 1 = _; rw [foOf_len r]; rfl
theorem foOf_app : ∀ l m : List Ty, foOf (l ++ m) = (foOf l).app (foOf m)
 | [], m => rfl
 | t :: r, m => by show Fo.cons t.1 t.2 (foOf (r ++ m)) = _; rw [foOf_app r m]; rfl
theorem tys_fo : ∀ l : List Ty, tysOf (foOf l) = l
 | [] => rfl
 | t :: r => by show (t.1, t.2) :: tysOf (foOf r) = _; rw [tys_fo r]
theorem fo_tys : ∀ l : Fo, foOf (tysOf l) = l
 | .nil => rfl
 | .cons nm ar r => by show Fo.cons nm ar (foOf (tysOf r)) = _; rw [fo_tys r]
theorem cputCt (F : Heap) (x : KC) (t : Ty) (vp va : Value) (ac : Option Addr) (cc : Nat) (hps : LiM F 1 StR vp x.ps) (hfs : LiM F 3 FdR (.slice ac x.fs.length cc) x.fs) (hva : SlF F va t.2) (hp1 : x.ps.length ≤ 1000000) (hf1 : x.fs.length ≤ 1000000) (hth : FThin x.fs) (hth2 : Thin t.2) :
  Ct Tryz.prog 129 [.agg ⟨[.string (bs x.ty), vp, .int .i64 x.pl, .slice ac x.fs.length cc]⟩, .agg ⟨[.string (bs t.1), va]⟩] F [] (fun F' _ u => SlF F' u (foOf (x.fs.map fun f => putT x.ps t.2 (f.tn, f.ta)))) := by
 have hfs0 := hfs
 obtain ⟨_, _, e9, hcap, hpos⟩ := hfs
 cases e9
 have hpsc := hps
 obtain ⟨ap, cp, rfl, -, -⟩ := hpsc
 have hvac := hva
 obtain ⟨aa, ca, rfl, -, -⟩ := hvac
 refine Ct.enter Tryz.func129 rfl Tryz.ntmps129 rfl fun w0 a S => ?_
 refine wp_sr fun Z hZ => ?_
 (refine wbx S ?_; clear S a; intro b2 a w S)
 (refine wbx S ?_; clear S a; intro b3 a w S)
 (revert S a; revert hZ Z; refine go 16 ?_; intro Z hZ a S)
 refine wpc_loop (fun m a w' => ∃ (i : Nat) (v : Value) (g : Grp) (xs : List Value) (F3 : Heap), m = x.fs.length - i ∧ i ≤ x.fs.length ∧ (∀ b o, F b = some o → F3 b = some o) ∧ OwnS 49 2 v i xs g ∧ FoC F3 xs (foOf ((x.fs.take i).map fun f => putT x.ps t.2 (f.tn, f.ta))) ∧ St 27 [(2, ptr b2), (3, ptr b3), (5, v), (9, .slice ac x.fs.length cc), (10, .int .i64 x.fs.length), (11, .int .i64 i)] w0 F [] F3 (g :: [(b3, .cells ⟨[.string (bs t.1), .slice aa t.2.len ca]⟩ 49 (0, 0))] :: [(b2, .cells ⟨[.string (bs x.ty), .slice ap x.ps.length cp, .int .i64 x.pl, .slice ac x.fs.length cc]⟩ 207 (0, 0))] :: []) a w') ?_ ?_
 ·(replace S := S.nilg; refine ⟨x.fs.length, 0, .slice none 0 0, [], [], F, by omega, Nat.zero_le _, fun _ _ h => h, OwnS.nil _ _, trivial, ?_⟩; refine S.keep ?_; exact zk)
 (clear S; rintro m a w ⟨i, v, g, xs, F3, rfl, hil, hF3, hown, hfc, S⟩)
 (revert S a; refine go 5 ?_; intro Z hZ a S)
 refine wpc_sp S rfl ?_ ?_ <;> intro h
 ·(revert S a; revert hZ Z; refine go 4 ?_; intro Z hZ a S)
  (refine wp_seq_k ?_; intro Z hZ)
  (obtain ⟨b8, o8, hao, y, cs1, hx, hc1, ⟨v1, rfl, hT1⟩⟩ := LiM.pos hpos (k := i) (by omega); rw [hao] at S; replace hc1 := Cels.mono hF3 hc1; replace hT1 := hT1.mono hF3; have hT1c := hT1; obtain ⟨a91, c91, rfl, -⟩ := hT1c; obtain ⟨hx40, hxth⟩ := hth y (List.mem_of_getElem? hx))
  (revert S a; refine go 3 ?_; intro a S)
  (refine wpl_alloc S rfl rfl rfl rfl ?_; clear S a; intro b7 a w S)
  (refine wso S rfl rfl ?_; clear S; intro w S)
  (revert S a; revert hZ Z; refine go 2 ?_; intro a S)
  (obtain ⟨aoK, capK, rfl, -⟩ := hown.at)
  (revert S a; refine go 8 ?_; intro a S)
  (refine wcF S (putCt F3 x.ps _ t.2 _ (lim_sl (hps.mono hF3)) (by omega) (hva.mono hF3) hth2 (y.ta.size + 1) F3 y.tn y.ta _ (Nat.lt_succ_self _) (fun _ _ h => h) ⟨_, rfl, hT1⟩ hx40 hxth) ?_; clear S a; intro u9 F9 a w hv hF9 S; obtain ⟨a9, q9, c9, rfl, hs9⟩ := hv)
  (refine wpl_append S rfl rfl rfl rfl rfl rfl rfl rfl rfl rfl rfl (fun _ => rfl) hown (by rfl) (by simp [Value.cells, splice, splice]) (by simp [Value.cells, Value.oneCell', splice, splice]) rfl (by rfl) (by rfl) rfl (by omega) (by omega) ?_; clear hown S a; intro v u g a w hown S)
  (revert S a; revert hZ Z; refine go 7 ?_; intro a S)
  change ∃ m', _ ∧ _
  (rw [← hao] at S; replace S := S.drop1; refine ⟨x.fs.length - (i + 1), by omega, i + 1, _, _, _, F9, rfl, by omega, fun b o h => hF9 _ _ (hF3 _ _ h), hown, ?_, ?_⟩; rotate_left 1; (refine S.keep ?_; exact zk); (rw [List.take_add_one, hx, List.map_append, foOf_app]; exact FoC.app (hfc.mono hF9) (FoC.one hs9)))
 (refine wp_exit ?_; conv => whnf)
 clear hZ Z
 (revert S a; revert hZ Z; refine go 6 ?_; intro a S)
 refine wp_ret ?_
 (have hii : i = x.fs.length := (by omega); have h9 := hown; have hle := add_le (G1 := []) S; replace S := St.freeze (G1 := []) S; (simp only [List.nil_append] at S hle))
 refine fin_ret S (results1 Tryz.results129 (RV.tmp S rfl)) ?_
 (rw [List.take_of_length_le (by omega)] at hfc; exact FoC.slf hown hfc (by rw [foOf_len, List.length_map]; omega) hle (by omega))
end Go.Proofs.YthnafdbebniapaaGreatDoor
