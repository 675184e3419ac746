/- Walks. -/
import Derived.Test.YthnafdbebniapaaGreatDoorQ09
import Derived.Test.YthnafdbebniapaaGreatDoorQ08
import Derived.Test.YthnafdbebniapaaGreatDoorQTy
set_option maxHeartbeats 8000000
set_option maxRecDepth 20000
namespace Go.De
open Go Go.Wk Go.Un
set_option linter.unusedSimpArgs false
set_option linter.unusedVariables false
abbrev Ty := List UInt8 × Fo
def idxOf (l : List (List UInt8)) (s : List UInt8) : Int := if s ∈ l then (l.idxOf s : Int) else -1
def parS (s : List UInt8) : Bool := decide (s.take 1 = [39])
theorem parS_ref (s : List UInt8) : parS s = (decide (s ≠ []) && decide ((s.getD 0 0).toNat = 39)) := by
 cases s with
 | nil => rfl
 | cons x r =>
  unfold parS
  rw [Bool.eq_iff_iff]
  simp
  constructor
  ·intro h; subst h; rfl
  ·intro h; exact UInt8.toNat_inj.1 h
def sBool : List UInt8 := [98, 111, 111, 108]
def sInt : List UInt8 := [105, 110, 116]
def sBig : List UInt8 := [98, 105, 103]
def sText : List UInt8 := [116, 101, 120, 116]
def sTuple : List UInt8 := [116, 117, 112, 108, 101]
def plainS (s : List UInt8) : Bool := decide (s = sBool) || decide (s = sInt) || decide (s = sBig) || decide (s = sText)
def putA (vs : List (List UInt8)) (L : Fo) (nm : List UInt8) : Option Ty := if parS nm = true ∧ 0 ≤ idxOf vs nm ∧ idxOf vs nm < L.len then L.get? (idxOf vs nm).toNat else none
def putL (vs : List (List UInt8)) (L : Fo) : Fo → Fo
 | .nil => .nil
 | .cons nm ar r => .cons ((putA vs L nm).getD (nm, putL vs L ar)).1 ((putA vs L nm).getD (nm, putL vs L ar)).2 (putL vs L r)
def putT (vs : List (List UInt8)) (L : Fo) (a : Ty) : Ty := (putA vs L a.1).getD (a.1, putL vs L a.2)
theorem putL_cons (vs : List (List UInt8)) (L : Fo) (nm : List UInt8) (ar r : Fo) : putL vs L (.cons nm ar r) = .cons (putT vs L (nm, ar)).1 (putT vs L (nm, ar)).2 (putL vs L r) := rfl
theorem putL_len (vs : List (List UInt8)) (L : Fo) : ∀ l : Fo, (putL vs L l).len = l.len
 | .nil => rfl
 | .cons nm ar r => by rw [putL_cons]; simp only [Fo.len, putL_len vs L r]
def Thin : Fo → Prop
 | .nil => True
 | .cons _ ar r => ar.len * 40 ≤ 140737488355328 ∧ Thin ar ∧ Thin r
theorem Thin.get : ∀ {l : Fo} {k : Nat} {x : Ty}, Thin l → l.get? k = some x → x.2.len * 40 ≤ 140737488355328 ∧ Thin x.2
 | .cons nm ar r, 0, x, ⟨h1, h2, _⟩, h => by cases h; exact ⟨h1, h2⟩
 | .cons nm ar r, k + 1, x, ⟨_, _, h3⟩, h => Thin.get h3 h
def ThinT (a : Ty) : Prop := a.2.len * 40 ≤ 140737488355328 ∧ Thin a.2
theorem putA_get {vs : List (List UInt8)} {L : Fo} {nm : List UInt8} {t : Ty} (h : putA vs L nm = some t) : ∃ k, L.get? k = some t := by
 unfold putA at h
 split at h
 ·exact ⟨_, h⟩
 ·cases h
theorem Thin.put {vs : List (List UInt8)} {L : Fo} (hL : Thin L) : ∀ {l : Fo}, Thin l → Thin (putL vs L l)
 | .nil, _ => trivial
 | .cons nm ar r, ⟨h1, h2, h3⟩ => by
  rw [putL_cons]
  have h4 : ThinT (putT vs L (nm, ar)) := by
   unfold putT
   cases hp : putA vs L nm with
   | none => exact ⟨by show (putL vs L ar).len * 40 ≤ _; rw [putL_len]; exact h1, Thin.put hL h2⟩
   | some t => obtain ⟨k, hk⟩ := putA_get hp; exact hL.get hk
  exact ⟨h4.1, h4.2, Thin.put hL h3⟩
theorem ThinT.put {vs : List (List UInt8)} {L : Fo} (hL : Thin L) {a : Ty} (h : ThinT a) : ThinT (putT vs L a) := by
 have := Thin.put (vs := vs) hL (l := .cons a.1 a.2 .nil) ⟨h.1, h.2, trivial⟩
 rw [putL_cons] at this
 exact ⟨this.1, this.2.1⟩
def depthL : Fo → Nat
 | .nil => 0
 | .cons nm ar r => max (depthL ar + 1) (depthL r)
def depthT (a : Ty) : Nat := depthL a.2 + 1
theorem depthL_le : ∀ l : Fo, depthL l ≤ l.size
 | .nil => Nat.le_refl _
 | .cons nm ar r => by have := depthL_le ar; have := depthL_le r; simp only [depthL, Fo.size]; omega
theorem depthL_get : ∀ {l : Fo} {k : Nat} {x : Ty}, l.get? k = some x → depthL x.2 + 1 ≤ depthL l
 | .cons nm ar r, 0, x, h => by cases h; simp only [depthL]; omega
 | .cons nm ar r, k + 1, x, h => by have := depthL_get (l := r) h; simp only [depthL]; omega
def anyF (p : Ty → Bool) : Fo → Bool
 | .nil => false
 | .cons nm ar r => p (nm, ar) || anyF p r
theorem anyF_cons (p : Ty → Bool) (nm : List UInt8) (ar r : Fo) : anyF p (.cons nm ar r) = (p (nm, ar) || anyF p r) := rfl
def wiL (p : Ty → Bool) : Fo → Bool
 | .nil => false
 | .cons nm ar r => (p (nm, ar) || wiL p ar) || wiL p r
def wiT (p : Ty → Bool) (a : Ty) : Bool := p a || wiL p a.2
theorem anyF_wi (p : Ty → Bool) : ∀ l : Fo, anyF (wiT p) l = wiL p l
 | .nil => rfl
 | .cons nm ar r => by rw [anyF_cons, anyF_wi p r]; rfl
def openT (a : Ty) : Bool := wiT (fun y => parS y.1) a
def findT (ts : List TD) (s : List UInt8) : Option TD := ts.find? fun x => decide (s = x.nm)
def declS (ts : List TD) (s : List UInt8) : Bool := (findT ts s).isSome
def parN (ts : List TD) (s : List UInt8) : Nat := match findT ts s with | some x => x.ps.length | none => 0
def countsT (ts : List TD) (a : Ty) : Bool := if plainS a.1 = true ∨ parS a.1 = true then decide (a.2.len = 0) else if a.1 = sTuple then decide (a.2.len ≠ 1) && decide (a.2.len ≤ 16) else decide (a.2.len = parN ts a.1)
def nameT (ts : List TD) (y : Ty) : Bool := !plainS y.1 && !parS y.1 && !decide (y.1 = sTuple) && !declS ts y.1
def growT (ts : List TD) (y : Ty) : Bool := declS ts y.1 && anyF (fun z => !parS z.1 && openT z) y.2
def useT (ts : List TD) (a : Ty) : Int := if 64 < depthT a then 65 else if wiT (nameT ts) a = true then 63 else if wiT (fun y => !countsT ts y) a = true then 70 else if wiT (growT ts) a = true then 72 else 0
theorem fo_app_nil : ∀ l : Fo, l.app .nil = l
 | .nil => rfl
 | .cons nm ar r => by show Fo.cons nm ar (r.app .nil) = _; rw [fo_app_nil r]
theorem fo_app_assoc : ∀ (l m k : Fo), (l.app m).app k = l.app (m.app k)
 | .nil, m, k => rfl
 | .cons nm ar r, m, k => by show Fo.cons nm ar ((r.app m).app k) = Fo.cons nm ar (r.app (m.app k)); rw [fo_app_assoc r m k]
def strs (l : List (List UInt8)) : List Value := l.map fun s => Value.string (bs s)
theorem st_nil2 {n : Sz} {L : List (Nat × Value)} {w0 : World} {F0 : Heap} {K0 : List Nat} {F : Heap} {g : Grp} {G : List Grp} {a : Act} {w : World} (S : St n L w0 F0 K0 F (g :: G) a w) : St n L w0 F0 K0 F (g :: [] :: G) a w :=
 ⟨S.fr, S.tr.perm (by rw [List.flatten_cons, List.flatten_cons, List.flatten_cons, List.nil_append])⟩
theorem _root_.Go.Wk.St.rotG {n : Sz} {L : List (Nat × Value)} {w0 : World} {F0 : Heap} {K0 : List Nat} {F : Heap} {A B : List Grp} {a : Act} {w : World} (S : St n L w0 F0 K0 F (A ++ B) a w) : St n L w0 F0 K0 F (B ++ A) a w :=
 ⟨S.fr, S.tr.perm (by rw [List.flatten_append, List.flatten_append]; exact List.perm_append_comm)⟩
theorem ct_nil {P : Program} {F : Heap} {f : FuncId} {args : List Value} {G : List Grp} {Post : Heap → Value → Prop} (C : Ct P f args F G (fun F' _ v => Post F' v)) : Ct P f args F G (fun F' G' v => Post F' v ∧ G' = []) := fun w hw =>
 (C w hw).mono fun e w' ⟨v, F', G', he, ht, hp⟩ => ⟨v, F', [], he, ht.sub (List.nil_sublist _), hp, rfl⟩
end Go.De
namespace Go.Proofs.YthnafdbebniapaaGreatDoor
open Go Go.Wk Go.Un Go.De
set_option linter.unusedSimpArgs false
set_option linter.unusedVariables false
attribute [local irreducible] Go.wpList Go.Code.wp Go.wpStill Go.Wk.wpPre Go.bodyPost Go.Calls Go.Wk.Ct Go.Wk.OwnS Go.Wk.wpG Go.Wk.wpM
theorem FoM.pos {F : Heap} {ao : Option Addr} {l : Fo} {k : Nat} (hpos : 0 < l.len → ∃ b o, ao = some ⟨b, o, none⟩ ∧ FoM F l b o) (hk : k < l.len) : ∃ b o, ao = some ⟨b, o, none⟩ ∧ ∃ x v, l.get? k = some x ∧ Cels F b (o + k * 2) [.string (bs x.1), v] ∧ SlF F v x.2 := by
 obtain ⟨b, o, e, h⟩ := hpos (by omega)
 obtain ⟨x, hx⟩ := Fo.get_lt hk
 obtain ⟨cs, h1, h2, v, rfl, h3⟩ := h.at hx
 exact ⟨b, o, e, x, v, hx, h1, h3⟩
section
variable {P : Program} {n : Sz} {L : List (Nat × Value)} {w0 : World} {F0 : Heap} {K0 : List Nat} {F : Heap} {G : List Grp} {a : Act} {w : World} {o : Oper}
theorem sv_addW {x y : Operand} {p q : Int} {t yt : TypeId} (S : St n L w0 F0 K0 F G a w) (ho : o.op = .binOp .add t x y yt) (hx : ev L x = some (.int .i64 p)) (hy : ev L y = some (.int .i64 q)) : SV P o a w (.int .i64 (IntKind.i64.wrap (p + q))) :=
 run_intOp S ho hx hy (by simp [binOp, Op.intArith])
theorem sv_field1 {x : Operand} {vs : List Value} {t : TypeId} {fs : List (Nat × TypeId)} {i fo : Nat} {ft : TypeId} {u : Value} [ht : Flds P t fs] (S : St n L w0 F0 K0 F G a w) (ho : o.op = .field t x i) (hx : ev L x = some (.agg ⟨vs⟩))
  (hf : fs[i]? = some (fo, ft)) (he : One P ft) (hv : vs[fo]? = some u) : SV P o a w u := by
 obtain ⟨fields, h1, h2⟩ := ht.h
 rw [← h2, List.getElem?_map] at hf
 obtain ⟨f, hf', e⟩ := Option.map_eq_some_iff.1 hf
 simp only [Prod.mk.injEq] at e
 obtain ⟨rfl, rfl⟩ := e
 have hf2 : fields[i]? = some f := by simpa using hf'
 have h3 : (part f.type ⟨vs⟩ f.offset).run P w = .ok u w := by
  simp [part, isAgg_notAgg he, hv]
 unfold SV execOp
 rw [ho]
 simp [S.fr.eval hx, Instr.field, run_underlying h1, hf2, asAgg, h3]
end
theorem zzDeB0 {p : Prop} (h : p := by (unfold parS; congr 1; first | (rw [Bool.eq_iff_iff, beq_iff_eq, decide_eq_true_eq]; exact Iff.rfl) | (have h0 : s = [] := List.length_eq_zero_iff.1 (by have h9 : s.length < 1 := h; omega); subst h0; rfl))) : p := h
theorem hasPrefix0Ct (F : Heap) (s : List UInt8) : Ct Tryz.prog 227 [.string (bs s), .string (bs [39])] F [] (fun _ _ u => u = .bool (parS s)) := by
 refine Ct.enter Tryz.func227 rfl Tryz.ntmps227 rfl fun w0 a S => ?_
 (revert S a; refine go 11 ?_; intro Z hZ a S)
 refine wgd S ?_ ?_
 ·(clear S; intro h S)
  (revert S a; refine go 6 ?_; intro a S)
  (refine wv S (sv_sliceS_hi S rfl rfl rfl (by first | omega | (simp only [List.length_append, List.length_cons, List.length_nil]; omega))) ?_; clear S a; intro a S)
  (revert S a; revert hZ Z; refine go 8 ?_; intro a S)
  refine wp_ret (fr1 S Tryz.results227 ?_)
  exact zzDeB0
 (clear S a; intro h a S)
 (revert S a; revert hZ Z; refine go 9 ?_; intro a S)
 refine wp_ret (fr1 S Tryz.results227 ?_)
 exact zzDeB0
theorem hasPrefixCt (F : Heap) (s : List UInt8) : Ct Tryz.prog 185 [.string (bs s), .string (bs [39])] F [] (fun _ _ u => u = .bool (parS s)) := by
 refine Ct.enter Tryz.func185 rfl Tryz.ntmps185 rfl fun w0 a S => ?_
 (revert S a; refine go 7 ?_; intro Z hZ a S)
 (refine wc0 S (hasPrefix0Ct F s) ?_; clear S a; intro v a w hv S; subst hv)
 (revert S a; revert hZ Z; refine go 3 ?_; intro a S)
 refine wp_ret (fr1 S Tryz.results185 ?_)
 rfl
theorem paramCt (F : Heap) (s : List UInt8) : Ct Tryz.prog 137 [.string (bs s)] F [] (fun _ _ u => u = .bool (parS s)) := by
 refine Ct.enter Tryz.func137 rfl Tryz.ntmps137 rfl fun w0 a S => ?_
 (revert S a; refine go 6 ?_; intro Z hZ a S)
 (refine wc0 S (hasPrefixCt F s) ?_; clear S a; intro v a w hv S; subst hv)
 (revert S a; revert hZ Z; refine go 3 ?_; intro a S)
 refine wp_ret (fr1 S Tryz.results137 ?_)
 rfl
theorem refParamCt (F : Heap) (s : List UInt8) : Ct Tryz.prog 118 [.string (bs s)] F [] (fun _ _ u => u = .bool (parS s)) := by
 refine Ct.enter Tryz.func118 rfl Tryz.ntmps118 rfl fun w0 a S => ?_
 (revert S a; refine go 8 ?_; intro Z hZ a S)
 refine wgd S ?_ ?_
 ·(clear S; intro h S)
  (revert S a; refine go 2 ?_; intro a S)
  (refine wv S (sv_indexSN (i := 0) S rfl rfl rfl (by first | omega | (have h9 : 0 < s.length := List.length_pos_iff.2 (by assumption); omega))) ?_; clear S a; intro a S)
  (revert S a; revert hZ Z; refine go 6 ?_; intro a S)
  refine wp_ret (fr1 S Tryz.results118 ?_)
  (rw [parS_ref]; congr 1; rw [Bool.eq_iff_iff]; simp [*]; try omega)
 (clear S a; intro h a S)
 (revert S a; revert hZ Z; refine go 6 ?_; intro a S)
 refine wp_ret (fr1 S Tryz.results118 ?_)
 (rw [parS_ref]; congr 1; rw [Bool.eq_iff_iff]; simp [*]; try omega)
theorem plainCt (F : Heap) (s : List UInt8) : Ct Tryz.prog 136 [.string (bs s)] F [] (fun _ _ u => u = .bool (plainS s)) := by
 refine Ct.enter Tryz.func136 rfl Tryz.ntmps136 rfl fun w0 a S => ?_
 (revert S a; refine go 8 ?_; intro Z hZ a S)
 refine wgd S ?_ ?_
 ·(clear S; intro h S)
  (revert S a; refine go 5 ?_; intro a S)
  refine wgd S ?_ ?_
  ·(clear S; intro h S)
   (revert S a; refine go 5 ?_; intro a S)
   refine wgd S ?_ ?_
   ·(clear S; intro h S)
    (revert S a; revert hZ Z; refine go 7 ?_; intro a S)
    refine wp_ret (fr1 S Tryz.results136 ?_)
    (congr 1; rw [Bool.eq_iff_iff]; simp [plainS, sBool, sInt, sBig, sText, *]; try exact decide_eq_true_iff.symm)
   (clear S a; intro h a S)
   (revert S a; revert hZ Z; refine go 5 ?_; intro a S)
   refine wp_ret (fr1 S Tryz.results136 ?_)
   (congr 1; rw [Bool.eq_iff_iff]; simp [plainS, sBool, sInt, sBig, sText, *]; try exact decide_eq_true_iff.symm)
  (clear S a; intro h a S)
  (revert S a; revert hZ Z; refine go 9 ?_; intro a S)
  refine wp_ret (fr1 S Tryz.results136 ?_)
  (congr 1; rw [Bool.eq_iff_iff]; simp [plainS, sBool, sInt, sBig, sText, *]; try exact decide_eq_true_iff.symm)
 (clear S a; intro h a S)
 (revert S a; revert hZ Z; refine go 13 ?_; intro a S)
 refine wp_ret (fr1 S Tryz.results136 ?_)
 (congr 1; rw [Bool.eq_iff_iff]; simp [plainS, sBool, sInt, sBig, sText, *]; try exact decide_eq_true_iff.symm)
theorem zzDeB1 {p : Prop} (h : p := by (first | (have he : s = x := (by first | assumption | simpa using h); subst he; have hm : s ∈ l := List.mem_of_getElem? hx; have hi : l.idxOf s = k := (by have h1 := List.idxOf_lt_length_iff.2 hm; rcases Nat.lt_trichotomy (l.idxOf s) k with h2 | h2 | h2; exact absurd (List.getElem_idxOf h1) (hall _ _ h2 (List.getElem?_eq_getElem h1)); exact h2; (exfalso; have h3 := List.not_of_lt_findIdx (p := (· == s)) (xs := l) h2; rw [(List.getElem?_eq_some_iff.1 hx).2] at h3; simp at h3)); unfold idxOf; rw [if_pos hm, hi]) | (have hm : ¬ s ∈ l := (by intro hm; obtain ⟨j, hj⟩ := List.mem_iff_getElem?.1 hm; exact hall j s (by have := (List.getElem?_eq_some_iff.1 hj).1; omega) hj rfl); unfold idxOf; rw [if_neg hm]) | trace_state)) : p := h
theorem indexSCt (F : Heap) (l : List (List UInt8)) (s : List UInt8) (v : Value) (h : SlC F v l.length (strs l)) (hl : l.length ≤ 9223372036854775807) : Ct Tryz.prog 189 [v, .string (bs s)] F [] (fun _ _ u => u = .int .i64 (idxOf l s)) := by
 obtain ⟨ao, cap, rfl, hcap, hpos⟩ := h
 refine Ct.enter Tryz.func189 rfl Tryz.ntmps189 rfl fun w0 a S => ?_
 (revert S a; refine go 12 ?_; intro Z hZ a S)
 refine wpc_loop (fun m a w' => ∃ (k : Nat), m = l.length - k ∧ k ≤ l.length ∧ (∀ j x, j < k → l[j]? = some x → x ≠ s) ∧ St 19 [(0, .slice ao l.length cap), (1, .string (bs s)), (7, .int .i64 l.length), (8, .int .i64 k)] w0 F [] F [] a w') ?_ ?_
 ·(refine ⟨l.length, 0, by omega, Nat.zero_le _, fun j x h => absurd h (Nat.not_lt_zero _), ?_⟩; refine S.keep ?_; exact zk)
 (clear S; rintro m a w ⟨k, rfl, hkl, hall, S⟩)
 (revert S a; refine go 5 ?_; intro Z hZ a S)
 refine wpc_sp S rfl ?_ ?_ <;> intro h
 ·(revert S a; revert hZ Z; refine go 9 ?_; intro Z hZ a S)
  (refine wp_seq_k ?_; intro Z hZ)
  (obtain ⟨x, hx⟩ : ∃ x, l[k]? = some x := ⟨_, List.getElem?_eq_getElem (by omega)⟩; obtain ⟨b8, o8, hao, hcs⟩ := hpos (by omega); rw [hao] at S; have hc1 : Cel F b8 (o8 + k * 1) (.string (bs x)) := (by rw [Nat.mul_one]; exact hcs k _ (by rw [strs, List.getElem?_map, hx]; rfl)))
  (revert S a; revert hZ Z; refine go 9 ?_; intro a S)
  refine wpc_sp S rfl ?_ ?_ <;> intro h
  ·(revert S a; refine go 5 ?_; intro a S)
   refine wp_ret (fr1 S Tryz.results189 ?_)
   exact zzDeB1
  (revert S a; revert hZ Z; refine go 6 ?_; intro a S)
  change ∃ m', _ ∧ _
  (rw [← hao] at S; refine ⟨l.length - (k + 1), by omega, k + 1, rfl, by omega, ?_, ?_⟩; rotate_left 1; (refine S.keep ?_; exact zk); intro j y h7 h8; rcases Nat.lt_or_eq_of_le (Nat.le_of_lt_succ h7) with h6 | h6; exact hall j y h6 h8; subst h6; rw [hx] at h8; cases h8; have hne : ¬ s = x := (by first | assumption | simpa using h); exact fun e => hne e.symm)
 (refine wp_exit ?_; conv => whnf)
 clear hZ Z
 (revert S a; revert hZ Z; refine go 5 ?_; intro a S)
 refine wp_ret (fr1 S Tryz.results189 ?_)
 exact zzDeB1
def OwnD (m : Nat) : Prop := ∀ (F : Heap) (nm : List UInt8) (ar : Fo) (cs : List Value), ar.size < m → TyC F cs nm ar → ar.len * 40 ≤ 140737488355328 → Thin ar →
 Ct Tryz.prog 80 [.agg ⟨cs⟩] F [] (fun F' _ u => ∃ (ao : Option Addr) (q c : Nat), u = .agg ⟨[.string (bs nm), .slice ao q c]⟩ ∧ SlF F' (.slice ao q c) ar)
theorem drop_app {pre : Fo} {l : Fo} {k : Nat} {x : Ty} (h : pre.app (l.drop k) = l) (hx : l.get? k = some x) : (pre.app (.cons x.1 x.2 .nil)).app (l.drop (k + 1)) = l := by
 conv => rhs; rw [← h, Fo.drop_get hx]
 rw [fo_app_assoc]; rfl
theorem ownDCt : ∀ m, OwnD m := by
 intro m
 induction m with
 | zero => intro F nm ar cs hm; omega
 | succ m ih =>
 intro F nm ar cs hm hT hln hthin
 obtain ⟨v, rfl, ao, cap, rfl, hcap, hpos⟩ := hT
 refine Ct.enter Tryz.func80 rfl Tryz.ntmps80 rfl fun w0 a S => ?_
 refine wp_sr fun Z hZ => ?_
 (refine wbx S ?_; clear S a; intro b1 a w S)
 (refine wpl_alloc S rfl rfl rfl rfl ?_; clear S a; intro b2 a w S)
 (revert S a; revert hZ Z; refine go 6 ?_; intro Z hZ a S)
 (refine wpl_alloc S rfl rfl rfl rfl ?_; clear S a; intro b3 a w S)
 (refine wso S rfl rfl ?_; clear S; intro w S)
 (revert S a; revert hZ Z; refine go 11 ?_; intro Z hZ a S)
 refine wpc_loop (fun m a w' => ∃ (i : Nat) (v : Value) (g : Grp) (xs : List Value) (pre : Fo) (F3 : Heap), m = ar.len - i ∧ i ≤ ar.len ∧ (∀ b o, F b = some o → F3 b = some o) ∧ OwnS 49 2 v i xs g ∧ FoC F3 xs pre ∧ pre.len = i ∧ pre.app (ar.drop i) = ar ∧ St 25 [(2, ptr b2), (3, ptr b3), (10, .slice ao ar.len cap), (11, .int .i64 ar.len), (12, .int .i64 i)] w0 F [] F3 ([(b3, .cells ⟨[.string (bs nm), v]⟩ 49 (0, 0))] :: g :: [(b2, .cells ⟨[.string (bs []), .slice none 0 0]⟩ 49 (0, 0))] :: [(b1, .cells ⟨[.string (bs nm), .slice ao ar.len cap]⟩ 49 (0, 0))] :: []) a w') ?_ ?_
 ·(replace S := st_nil2 S; refine ⟨ar.len, 0, .slice none 0 0, [], [], .nil, F, by omega, Nat.zero_le _, fun _ _ h => h, OwnS.nil _ _, trivial, rfl, rfl, ?_⟩; refine S.keep ?_; exact zk)
 (clear S; rintro m a w ⟨i, v, g, xs, pre, F3, rfl, hil, hF3, hown, hfc, hpre, happ, S⟩)
 (revert S a; refine go 5 ?_; intro Z hZ a S)
 refine wpc_sp S rfl ?_ ?_ <;> intro h
 ·(revert S a; revert hZ Z; refine go 4 ?_; intro Z hZ a S)
  (refine wp_seq_k ?_; intro Z hZ)
  (obtain ⟨b8, o8, hao, x, v1, hx, hc1, hT1⟩ := FoM.pos hpos (k := i) (by omega); rw [hao] at S; replace hc1 := Cels.mono hF3 hc1; replace hT1 := hT1.mono hF3; have hT1c := hT1; obtain ⟨a91, c91, rfl, -⟩ := hT1c; obtain ⟨hx40, hxth⟩ := hthin.get hx; have hxs := Fo.size_get hx)
  (revert S a; refine go 3 ?_; intro a S)
  (refine wpl_alloc S rfl rfl rfl rfl ?_; clear S a; intro b5 a w S)
  (refine wso S rfl rfl ?_; clear S; intro w S)
  (revert S a; revert hZ Z; refine go 2 ?_; intro a S)
  (refine wpc_mixM [0, 1, 2, 6] [1, 2] [7] (.one 0 (.one 1 (.one 2 (.one 3 (.one 4 (.one 5 (.one 6 (.one 7 .nil)))))))) [b3, b5] S mixed (by kernel_rfl) ?_; clear S; intro w S)
  (revert S a; refine go 4 ?_; intro a S)
  (refine wpl_call (Gs := []) (Gr := [[(b5, _)], [(b3, _)], g, [(b2, _)], [(b1, _)]]) S rfl rfl rfl rfl rfl rfl (ih F3 x.1 x.2 _ (by omega) ⟨_, rfl, hT1⟩ hx40 hxth) rfl (by exact List.Perm.refl _) ?_; clear S a; intro u9 F4 G4 a w hv hF4 S; obtain ⟨a4, q4, c4, rfl, hs4⟩ := hv; replace S : St _ _ _ _ _ F4 ([(b5, _)] :: [(b3, _)] :: g :: [(b2, _)] :: [(b1, _)] :: []) _ _ := ⟨S.fr, S.tr.sub (by rw [List.flatten_append]; exact List.sublist_append_right _ _)⟩)
  (revert S a; refine go 2 ?_; intro a S)
  (refine wpl_buildSlice S rfl rfl rfl rfl rfl rfl (by rfl) (by simp [Value.cells, splice, splice]) rfl (by rfl) (by rfl) ?_; clear S a; intro b20 a w hown2 S)
  (revert S a; refine go 2 ?_; intro a S)
  (refine wpl_appendOwn S rfl rfl rfl rfl rfl rfl hown hown2 (by rfl) (by simp [Value.cells, Value.oneCell', splice, splice]) (by omega) (by omega) ?_; clear hown S a; intro v g a w hown S)
  (revert S a; refine go 3 ?_; intro a S)
  (refine wpl_store1 S rfl rfl rfl rfl rfl hown.oneCell (by first | (simp; done) | (simp [Value.cells]; done) | exact Nat.le_of_ble_eq_true rfl) ?_; clear S; intro w S)
  refine wpList_nil ?_
  refine wpm_nil (fun h => absurd h (by decide)) ?_
  (revert S a; revert hZ Z; refine go 5 ?_; intro a S)
  change ∃ m', _ ∧ _
  (rw [← hao] at S; replace S := S.drop1; refine ⟨ar.len - (i + 1), by omega, i + 1, _, _, _, pre.app (.cons x.1 x.2 .nil), F4, rfl, by omega, fun b o h => hF4 _ _ (hF3 _ _ h), hown, FoC.app (hfc.mono hF4) (FoC.one hs4), by rw [Fo.len_app, hpre]; rfl, drop_app happ hx, ?_⟩; refine S.keep ?_; exact zk)
 (refine wp_exit ?_; conv => whnf)
 clear hZ Z
 (refine hZ _ _ ?_; clear hZ Z)
 (refine wp_seq_k ?_; intro Z hZ)
 (obtain ⟨aoK, capK, rfl, -⟩ := hown.at)
 (revert S a; refine go 2 ?_; intro a S)
 (refine wso S rfl rfl ?_; clear S; intro w S)
 (revert S a; revert hZ Z; refine go 2 ?_; intro a S)
 refine wp_ret ?_
 (have S0 := S; have hii : i = ar.len := (by omega); replace S := S.drop1; have hle := add_le (G1 := []) S; replace S := St.freeze (G1 := []) S; (simp only [List.nil_append] at S hle); replace S := S.drop1.drop1)
 refine fin_ret S (results1 Tryz.results80 (RV.cellO S0 rfl (by rfl))) ?_
 (have hdl : ar.drop i = .nil := Fo.drop_len (by omega); rw [hdl, fo_app_nil] at happ; rw [happ] at hfc hpre; exact ⟨_, _, _, rfl, FoC.slf hown hfc (by omega) hle (by omega)⟩)
theorem zzDeG0 {p : Prop} (h : p := by (first | (have hpf : p x = true := (by assumption); have e9 : anyF p l = true := (by rw [hfp, Fo.drop_get hx]; rw [anyF_cons]; rw [show p (x.1, x.2) = true from hpf, Bool.true_or]); rw [e9]; exact ⟨_, rfl, by simp⟩) | (have e9 : anyF p l = false := (by rw [hfp, Fo.drop_len (by omega)]; rfl); rw [e9]; exact ⟨_, rfl, by simp⟩) | trace_state)) : p := h
theorem indexTCt (F : Heap) (l : Fo) (v : Value) (h : SlF F v l) (fid : FuncId) (fi ca : List Value) [hfn : HasFn Tryz.prog fid] (p : Ty → Bool)
  (hcl : ∀ k x v1, l.get? k = some x → SlF F v1 x.2 → Ct Tryz.prog fid (fi ++ [.agg ⟨[.string (bs x.1), v1]⟩] ++ ca) F [] (fun _ _ u => u = .bool (p x))) :
  Ct Tryz.prog 145 [v, .func (.func fid) ⟨fi⟩ ⟨ca⟩] F [] (fun _ _ u => ∃ i : Int, u = .int .i64 i ∧ decide (0 ≤ i) = anyF p l) := by
 obtain ⟨ao, cap, rfl, hcap, hpos⟩ := h
 refine Ct.enter Tryz.func145 rfl Tryz.ntmps145 rfl fun w0 a S => ?_
 (revert S a; refine go 12 ?_; intro Z hZ a S)
 refine wpc_loop (fun m a w' => ∃ (k : Nat), m = l.len - k ∧ k ≤ l.len ∧ anyF p l = anyF p (l.drop k) ∧ St 19 [(0, .slice ao l.len cap), (1, .func (.func fid) ⟨fi⟩ ⟨ca⟩), (7, .int .i64 l.len), (8, .int .i64 k)] w0 F [] F [] a w') ?_ ?_
 ·(refine ⟨l.len, 0, by omega, Nat.zero_le _, rfl, ?_⟩; refine S.keep ?_; exact zk)
 (clear S; rintro m a w ⟨k, rfl, hkl, hfp, S⟩)
 (revert S a; refine go 5 ?_; intro Z hZ a S)
 refine wpc_sp S rfl ?_ ?_ <;> intro h
 ·(revert S a; revert hZ Z; refine go 9 ?_; intro Z hZ a S)
  (refine wp_seq_k ?_; intro Z hZ)
  (obtain ⟨b8, o8, rfl, x, v1, hx, hc1, hT1⟩ := FoM.pos hpos (k := k) (by omega))
  (revert S a; refine go 6 ?_; intro a S)
  (refine wc0 S (hcl k x v1 hx hT1) ?_; clear S a; intro v a w hv S; subst hv)
  (revert S a; revert hZ Z; refine go 2 ?_; intro a S)
  refine wpc_sp S rfl ?_ ?_ <;> intro h
  ·(revert S a; refine go 5 ?_; intro a S)
   refine wp_ret (fr1 S Tryz.results145 ?_)
   exact zzDeG0
  (revert S a; revert hZ Z; refine go 6 ?_; intro a S)
  change ∃ m', _ ∧ _
  (refine ⟨l.len - (k + 1), by omega, k + 1, rfl, by omega, ?_, ?_⟩; rotate_left 1; (refine S.keep ?_; exact zk); rw [hfp, Fo.drop_get hx]; rw [anyF_cons, (by assumption : p x = false), Bool.false_or])
 (refine wp_exit ?_; conv => whnf)
 clear hZ Z
 (revert S a; revert hZ Z; refine go 5 ?_; intro a S)
 refine wp_ret (fr1 S Tryz.results145 ?_)
 exact zzDeG0
theorem containsTCt (F : Heap) (l : Fo) (v : Value) (h : SlF F v l) (fid : FuncId) (fi ca : List Value) [hfn : HasFn Tryz.prog fid] (p : Ty → Bool)
  (hcl : ∀ k x v1, l.get? k = some x → SlF F v1 x.2 → Ct Tryz.prog fid (fi ++ [.agg ⟨[.string (bs x.1), v1]⟩] ++ ca) F [] (fun _ _ u => u = .bool (p x))) :
  Ct Tryz.prog 89 [v, .func (.func fid) ⟨fi⟩ ⟨ca⟩] F [] (fun _ _ u => u = .bool (anyF p l)) := by
 have hc := indexTCt F l v h fid fi ca p hcl
 obtain ⟨ao, cap, rfl, hcap, hpos⟩ := h
 refine Ct.enter Tryz.func89 rfl Tryz.ntmps89 rfl fun w0 a S => ?_
 (revert S a; refine go 7 ?_; intro Z hZ a S)
 (refine wc0 S hc ?_; clear S a; intro v a w hv S; obtain ⟨i9, rfl, hi9⟩ := hv)
 (revert S a; revert hZ Z; refine go 4 ?_; intro a S)
 refine wp_ret (fr1 S Tryz.results89 ?_)
 (rw [← hi9])
def CbT (F : Heap) (fid : FuncId) (fi ca : List Value) (p : Ty → Bool) : Prop := ∀ (F' : Heap) (x : Ty) (cs : List Value), (∀ b o, F b = some o → F' b = some o) → TyC F' cs x.1 x.2 → Ct Tryz.prog fid (fi ++ [.agg ⟨cs⟩] ++ ca) F' [] (fun _ _ u => u = .bool (p x))
theorem CbT.mono {F F' : Heap} {fid : FuncId} {fi ca : List Value} {p : Ty → Bool} (h : CbT F fid fi ca p) (hF : ∀ b o, F b = some o → F' b = some o) : CbT F' fid fi ca p := fun F2 x cs h2 => h F2 x cs fun b o hb => h2 _ _ (hF _ _ hb)
def WithinD (F : Heap) (fid : FuncId) (fi ca : List Value) (p : Ty → Bool) (m : Nat) : Prop := ∀ (F' : Heap) (nm : List UInt8) (ar : Fo) (cs : List Value), ar.size < m → (∀ b o, F b = some o → F' b = some o) → TyC F' cs nm ar →
 Ct Tryz.prog 177 [.agg ⟨cs⟩, .func (.func fid) ⟨fi⟩ ⟨ca⟩] F' [] (fun _ _ u => u = .bool (wiT p (nm, ar)))
theorem within1Ct (F : Heap) (fid : FuncId) [hfn : HasFn Tryz.prog fid] (fi ca : List Value) (p : Ty → Bool) (m : Nat) (ih : WithinD F fid fi ca p m) (F' : Heap) (hF : ∀ b o, F b = some o → F' b = some o) (bc : Nat) (hbc : Cel F' bc 0 (.func (.func fid) ⟨fi⟩ ⟨ca⟩)) (nm : List UInt8) (ar : Fo) (v1 : Value) (hm : ar.size < m) (hs : SlF F' v1 ar) :
  Ct Tryz.prog 223 ([] ++ [.agg ⟨[.string (bs nm), v1]⟩] ++ [.pointer (some ⟨bc, 0, none⟩)]) F' [] (fun _ _ u => u = .bool (wiT p (nm, ar))) := by
 have hs0 := hs
 obtain ⟨ao, cap, rfl, -, -⟩ := hs
 refine Ct.enter Tryz.func223 rfl Tryz.ntmps223 rfl fun w0 a S => ?_
 refine wp_sr fun Z hZ => ?_
 (refine wbx S ?_; clear S a; intro b2 a w S)
 (revert S a; revert hZ Z; refine go 5 ?_; intro Z hZ a S)
 (refine wv S (sv_loadF S rfl rfl hbc) ?_; clear S a; intro a S)
 (refine wc0 S (ih F' nm ar _ hm hF ⟨_, rfl, hs0⟩) ?_; clear S a; intro v a w hv S; subst hv)
 (revert S a; revert hZ Z; refine go 3 ?_; intro a S)
 refine wp_ret (fr1 S Tryz.results223 ?_)
 rfl
theorem zzDeG1 {p : Prop} (h : p := by (congr 1; show _ = (p (nm, ar) || wiL p ar); rw [← anyF_wi]; first | (rw [(by assumption : p (nm, ar) = false), Bool.false_or]) | (rw [(by assumption : p (nm, ar) = true), Bool.true_or]) | trace_state)) : p := h
theorem withinCt (F : Heap) (fid : FuncId) [hfn : HasFn Tryz.prog fid] (fi ca : List Value) (p : Ty → Bool) (hcb : CbT F fid fi ca p) : ∀ m, WithinD F fid fi ca p m := by
 intro m
 induction m with
 | zero => intro F' nm ar cs hm; omega
 | succ m ih =>
 intro F' nm ar cs hm hF hT
 have hT0 := hT
 obtain ⟨v, rfl, hs⟩ := hT
 have hs0 := hs
 obtain ⟨ao, cap, rfl, -, -⟩ := hs
 refine Ct.enter Tryz.func177 rfl Tryz.ntmps177 rfl fun w0 a S => ?_
 refine wp_sr fun Z hZ => ?_
 (refine wbx S ?_; clear S a; intro b2 a w S)
 (refine wbx S ?_; clear S a; intro b3 a w S)
 (revert S a; revert hZ Z; refine go 6 ?_; intro Z hZ a S)
 (refine wc0 S (hcb F' (nm, ar) _ hF hT0) ?_; clear S a; intro v a w hv S; subst hv)
 (revert S a; refine go 1 ?_; intro a S)
 refine wgd S ?_ ?_
 ·(clear S; intro h S)
  (revert S a; refine go 6 ?_; intro a S)
  (have hle := add_le (G1 := []) S; replace S := St.freeze (G1 := []) S; (simp only [List.nil_append] at S hle); have hb3 : Cel (F'.add [(b3, .cells ⟨[.func (.func fid) ⟨fi⟩ ⟨ca⟩]⟩ 144 (0, 0))]) b3 0 (.func (.func fid) ⟨fi⟩ ⟨ca⟩) := ⟨_, _, _, Heap.add_new (p := (b3, _)) (List.mem_singleton.2 rfl) (by simp), rfl⟩; replace S : St _ _ _ _ _ (F'.add [(b3, .cells ⟨[.func (.func fid) ⟨fi⟩ ⟨ca⟩]⟩ 144 (0, 0))]) _ _ _ := S; replace hle : ∀ b o, F' b = some o → (F'.add [(b3, .cells ⟨[.func (.func fid) ⟨fi⟩ ⟨ca⟩]⟩ 144 (0, 0))]) b = some o := hle; generalize (F'.add [(b3, .cells ⟨[.func (.func fid) ⟨fi⟩ ⟨ca⟩]⟩ 144 (0, 0))]) = F2 at S hle hb3; refine wc0 S (containsTCt F2 ar _ (hs0.mono hle) 223 [] [.pointer (some ⟨b3, 0, none⟩)] (wiT p) (fun k x v1 hx hs1 => within1Ct F fid fi ca p m ih F2 (fun b o h => hle _ _ (hF _ _ h)) b3 hb3 x.1 x.2 v1 (by have := Fo.size_get hx; omega) hs1)) ?_; clear S a; intro v a w hv S; subst hv)
  (revert S a; revert hZ Z; refine go 4 ?_; intro a S)
  refine wp_ret (fr1 S Tryz.results177 ?_)
  exact zzDeG1
 (clear S a; intro h a S)
 (revert S a; revert hZ Z; refine go 7 ?_; intro a S)
 refine wp_ret (fr1 S Tryz.results177 ?_)
 exact zzDeG1
theorem open1Ct (F : Heap) : CbT F 182 [] [] (fun y => parS y.1) := by
 unfold CbT
 intro F' x cs hF hT
 obtain ⟨v, rfl, hs⟩ := hT
 obtain ⟨ao, cap, rfl, -, -⟩ := hs
 refine Ct.enter Tryz.func182 rfl Tryz.ntmps182 rfl fun w0 a S => ?_
 refine wp_sr fun Z hZ => ?_
 (refine wbx S ?_; clear S a; intro b1 a w S)
 (revert S a; revert hZ Z; refine go 6 ?_; intro Z hZ a S)
 (refine wc0 S (paramCt F' x.1) ?_; clear S a; intro v a w hv S; subst hv)
 (revert S a; revert hZ Z; refine go 3 ?_; intro a S)
 refine wp_ret (fr1 S Tryz.results182 ?_)
 rfl
theorem openCt (F : Heap) (nm : List UInt8) (ar : Fo) (cs : List Value) (h : TyC F cs nm ar) : Ct Tryz.prog 126 [.agg ⟨cs⟩] F [] (fun _ _ u => u = .bool (openT (nm, ar))) := by
 have h0 := h
 obtain ⟨v, rfl, hs⟩ := h
 obtain ⟨ao, cap, rfl, -, -⟩ := hs
 refine Ct.enter Tryz.func126 rfl Tryz.ntmps126 rfl fun w0 a S => ?_
 refine wp_sr fun Z hZ => ?_
 (refine wbx S ?_; clear S a; intro b1 a w S)
 (revert S a; revert hZ Z; refine go 5 ?_; intro Z hZ a S)
 (refine wc0 S (withinCt F 182 [] [] _ (open1Ct F) (ar.size + 1) F nm ar _ (Nat.lt_succ_self _) (fun _ _ h => h) h0) ?_; clear S a; intro v a w hv S; subst hv)
 (revert S a; revert hZ Z; refine go 3 ?_; intro a S)
 refine wp_ret (fr1 S Tryz.results126 ?_)
 rfl
theorem depthCt (F : Heap) : ∀ (n : Nat) (nm : List UInt8) (ar : Fo) (cs : List Value), ar.size ≤ n → depthL ar ≤ 1000000000 → TyC F cs nm ar → Ct Tryz.prog 176 [.agg ⟨cs⟩] F [] (fun _ _ u => u = .int .i64 (depthT (nm, ar) : Nat)) := by
 intro n
 induction n using Nat.strongRecOn with
 | _ n ih =>
 intro nm ar cs hn hb h
 obtain ⟨v, rfl, ao, cap, rfl, hcap, hpos⟩ := h
 refine Ct.enter Tryz.func176 rfl Tryz.ntmps176 rfl fun w0 a S => ?_
 refine wp_sr fun Z hZ => ?_
 (refine wbx S ?_; clear S a; intro b1 a w S)
 (revert S a; revert hZ Z; refine go 16 ?_; intro Z hZ a S)
 refine wpc_loop (fun m a w' => ∃ (k p : Nat), m = ar.len - k ∧ k ≤ ar.len ∧ max p (depthL (ar.drop k)) = depthL ar ∧ p ≤ depthL ar ∧ St 20 [(1, ptr b1), (3, .int .i64 (p : Int)), (7, .slice ao ar.len cap), (8, .int .i64 ar.len), (9, .int .i64 k)] w0 F [] F [[(b1, .cells ⟨[.string (bs nm), .slice ao ar.len cap]⟩ 49 (0, 0))]] a w') ?_ ?_
 ·(refine ⟨ar.len, 0, 0, by omega, Nat.zero_le _, by rw [Nat.zero_max]; rfl, Nat.zero_le _, ?_⟩; refine S.keep ?_; exact zk)
 (clear S; rintro m a w ⟨k, p, rfl, hkl, hs, hp, S⟩)
 (revert S a; refine go 5 ?_; intro Z hZ a S)
 refine wpc_sp S rfl ?_ ?_ <;> intro h
 ·(revert S a; revert hZ Z; refine go 4 ?_; intro Z hZ a S)
  (refine wp_seq_k ?_; intro Z hZ)
  (obtain ⟨b8, o8, hao, x, v1, hx, hc1, hT1⟩ := FoM.pos hpos (k := k) (by omega); rw [hao] at S; have hxs := Fo.size_get hx; have hdd := depthL_get hx; have hdr := Fo.drop_get hx; have hT1c := hT1; obtain ⟨a91, c91, rfl, -⟩ := hT1c)
  (revert S a; refine go 3 ?_; intro a S)
  (refine wpl_alloc S rfl rfl rfl rfl ?_; clear S a; intro b5 a w S)
  (refine wso S rfl rfl ?_; clear S; intro w S)
  (revert S a; revert hZ Z; refine go 5 ?_; intro a S)
  (refine wc0 S (ih x.2.size (by omega) x.1 x.2 _ (Nat.le_refl _) (by omega) ⟨_, rfl, hT1⟩) ?_; clear S a; intro v a w hv S; subst hv)
  first | (refine wv S (sv_maxN S rfl rfl rfl) ?_; clear S a; intro a S) | (refine wv S (sv_max0 S rfl rfl rfl) ?_; clear S a; intro a S)
  (revert S a; revert hZ Z; refine go 7 ?_; intro a S)
  change ∃ m', _ ∧ _
  (rw [← hao] at S; replace S := S.drop1; refine ⟨ar.len - (k + 1), by omega, k + 1, max p (depthT x), rfl, by omega, ?_, ?_, ?_⟩; rotate_left 2; (refine S.keep ?_; exact zk); (rw [← hs, hdr]; unfold depthT; simp only [depthL]; omega); (unfold depthT; omega))
 (refine wp_exit ?_; conv => whnf)
 clear hZ Z
 (revert S a; revert hZ Z; refine go 7 ?_; intro a S)
 refine wp_ret (fr1 S Tryz.results176 ?_)
 (have hz : depthL (ar.drop k) = 0 := (by rw [Fo.drop_len (by omega)]; rfl); congr 1; unfold depthT; show (p : Int) + 1 = ((depthL ar + 1 : Nat) : Int); omega)
end Go.Proofs.YthnafdbebniapaaGreatDoor
