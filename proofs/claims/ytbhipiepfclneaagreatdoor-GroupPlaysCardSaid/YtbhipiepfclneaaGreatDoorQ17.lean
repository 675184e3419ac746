/- Walks. -/
import Derived.Test.YtbhipiepfclneaaGreatDoorQ16
set_option maxHeartbeats 4000000
namespace Go.Proofs.YtbhipiepfclneaaGreatDoor
open Go Go.Wk Go.Un Go.De Go.Num
set_option linter.unusedSimpArgs false
set_option linter.unusedVariables false
attribute [local irreducible] Go.wpList Go.Code.wp Go.wpStill Go.Wk.q26 Go.bodyPost Go.Calls Go.Wk.Ct Go.Wk.q0u Go.Wk.wpG Go.Wk.wpM
theorem qni (a b : Int) : -1 ≤ cI a b ∧ cI a b ≤ 1 := by unfold cI; split <;> (try split) <;> omega
theorem qlv (a b : List UInt8) : -1 ≤ cS a b ∧ cS a b ≤ 1 := by unfold cS; split <;> (try split) <;> omega
theorem qat {a b : Int} (h : -1 ≤ a ∧ a ≤ 1) (h2 : -1 ≤ b ∧ b ≤ 1) : -1 ≤ or2 a b ∧ or2 a b ≤ 1 := by unfold or2; split <;> omega
theorem qg8 : ∀ (n : Nat) (s t : List UInt8), -1 ≤ qap n s t ∧ qap n s t ≤ 1
 | 0, _, _ => (by decide : -1 ≤ (0 : Int) ∧ (0 : Int) ≤ 1)
 | n + 1, s, t => by
  unfold qap
  split
  ·exact qg8 n _ _
  ·split
   ·decide
   ·split
    ·decide
    ·exact qat (qni _ _) (qlv _ _)
theorem qhb : ∀ l m : Vf, -1 ≤ cmpL l m ∧ cmpL l m ≤ 1
 | .nil, .nil => ⟨by decide, by decide⟩
 | .nil, .cons _ _ _ => (by decide : -1 ≤ (-1 : Int) ∧ (-1 : Int) ≤ 1)
 | .cons _ _ _, .nil => (by decide : -1 ≤ (1 : Int) ∧ (1 : Int) ≤ 1)
 | .cons h L r, .cons h2 L2 r2 => by
  rw [cmpL]
  refine qat ?_ (qhb r r2)
  split
  ·exact qni _ _
  ·split
   ·exact qg8 _ _ _
   ·split
    ·exact qlv _ _
    ·exact qat (qni _ _) (qat (qlv _ _) (qhb L L2))
theorem qsr (x y : Vv) : -1 ≤ q40 x y ∧ q40 x y ≤ 1 := by
 unfold q40
 split
 ·unfold qan
  split
  ·exact qni _ _
  ·split
   ·exact qg8 _ _ _
   ·split
    ·exact qlv _ _
    ·exact qat (qni _ _) (qat (qlv _ _) (qhb _ _))
 ·split
  ·decide
  ·split <;> decide
def sgF (sg : Int) (x y : Vv) : Int := sg * q40 x y
theorem u0a {sg : Int} (h : sg = 1 ∨ sg = -1) (x y : Vv) : -1 ≤ sg * q40 x y ∧ sg * q40 x y ≤ 1 := by
 have := qsr x y
 rcases h with rfl | rfl <;> omega
theorem u0m (F : q01) (c : Nat) (sg : Int) (hs : sg = 1 ∨ sg = -1) (hc : Cel F c 0 (.int .i64 sg)) (x y : Vv) (cs cs' : List Value) (hx : RoR 4 VhR F x cs) (hy : RoR 4 VhR F y cs') : Ct Tryz.prog 51 ([] ++ [.agg ⟨cs⟩, .agg ⟨cs'⟩] ++ [.pointer (some ⟨c, 0, none⟩)]) F [] (fun _ _ u => u = .int .i64 (sgF sg x y)) := by
 have hcm := u04 F x y cs cs' (q6d hx) (q6d hy)
 obtain ⟨a1, c1, rfl⟩ := q4b hx
 obtain ⟨a2, c2, rfl⟩ := q4b hy
 have hbd := u0a hs x y
 refine Ct.enter Tryz.func51 rfl Tryz.ntmps51 rfl fun w0 a S => ?_
 refine q1i fun Z hZ => ?_
 (refine wbx S ?_; clear S a; intro b3 a w S)
 (refine wbx S ?_; clear S a; intro b4 a w S)
 revert a; revert Z; refine go 3 ?_; intro a S
 (refine wp_seq_k ?_; intro Z hZ)
 (refine q0k [0, 1, 2, 4] [0, 1, 2] [] (.one 0 (.one 1 (.one 2 (.one 3 (.one 4 (.one 5 .nil)))))) [b3, b4] S mixed (by kernel_rfl) ?_; clear S; intro w S)
 revert a; refine go 4 ?_; intro a S
 (refine wc0 S (hcm) ?_; clear S a; intro v a w hv S; subst hv)
 refine wpList_nil ?_
 (refine q19 S rfl rfl rfl (q06 _ rfl) rfl rfl (fun w' S => q8r S rfl rfl rfl (by first | omega | (simp only [qaA, qaC, qaD]; omega))) ?_; clear S a; intro a S)
 revert a; revert Z; refine go 5 ?_; intro a S
 refine wp_ret (fr1 S Tryz.results51 ?_)
 rfl
def qy6 (c : Nat) : Value := .func (.func 49) ⟨[]⟩ ⟨[.pointer (some ⟨c, 0, none⟩)]⟩
theorem qmj (F : q01) (c : Nat) (sg : Int) (hs : sg = 1 ∨ sg = -1) (hc : Cel F c 0 (.int .i64 sg)) (v : Value) (l : List Vv) (h : LiM F 4 (RoR 4 VhR) v l) (h0 : 0 < l.length) : Ct Tryz.prog 49 ([] ++ [v] ++ [.pointer (some ⟨c, 0, none⟩)]) F [] (fun _ _ u => u0o F (0, q52 (sgF sg) (l.headD zV) (l.drop 1)) u) := by
 obtain ⟨x0, hx0⟩ : ∃ x, l[0]? = some x := ⟨_, List.getElem?_eq_getElem h0⟩
 have hhd : l.headD zV = x0 := by
  cases l with
  | nil => cases hx0
  | cons y r => cases hx0; rfl
 have hm := u5k F v l h x0 hx0 51 [] [.pointer (some ⟨c, 0, none⟩)] (sgF sg) (fun x y cs cs' hx hy => u0m F c sg hs hc x y cs cs' hx hy)
 obtain ⟨ao, cap, rfl, -, -⟩ := h
 rw [hhd]
 generalize q52 (sgF sg) x0 (l.drop 1) = y at hm ⊢
 refine Ct.enter Tryz.func49 rfl Tryz.ntmps49 rfl fun w0 a S => ?_
 refine q1i fun Z hZ => ?_
 (refine q0a S rfl rfl rfl rfl ?_; clear S a; intro b3 a w S)
 revert a; revert Z; refine go 6 ?_; intro Z hZ a S
 (refine wc0 S hm ?_; clear S a; intro v9 a w hv S; obtain ⟨ay, cy, rfl, hRy⟩ := hv)
 (refine wso S rfl rfl ?_; clear S; intro w S)
 revert a; revert Z; refine go 3 ?_; intro a S
 refine wp_ret (q08 S (q0v Tryz.results49 (RV.cellO S rfl (by rfl)) (RV.tmp S rfl)) ?_)
 exact ⟨_, _, rfl, hRy⟩
theorem qzb (F : q01) (v : Value) (l : List Vv) (h : LiM F 4 (RoR 4 VhR) v l) : Ct Tryz.prog 52 [v] F [] (fun _ _ u => u0o F (0, qmf l.length) u) := by
 obtain ⟨ao, cap, rfl, -, -⟩ := h
 refine Ct.enter Tryz.func52 rfl Tryz.ntmps52 rfl fun w0 a S => ?_
 refine q1i fun Z hZ => ?_
 (refine q0a S rfl rfl rfl rfl ?_; clear S a; intro b2 a w S)
 revert a; revert Z; refine go 7 ?_; intro Z hZ a S
 (refine wso S rfl rfl ?_; clear S; intro w S)
 revert a; revert Z; refine go 3 ?_; intro a S
 refine wp_ret (q08 S (q0v Tryz.results52 (RV.cellO S rfl (by rfl)) (RV.tmp S rfl)) ?_)
 exact q6v _ 0 2 _ [] (by decide)
theorem qhp (F : q01) (sg : Int) : Ct Tryz.prog 48 [.int .i64 sg] F [] (fun F' _ u => ∃ c, u = qy6 c ∧ Cel F' c 0 (.int .i64 sg)) := by
 refine Ct.enter Tryz.func48 rfl Tryz.ntmps48 rfl fun w0 a S => ?_
 refine q1i fun Z hZ => ?_
 (refine wbx S ?_; clear S a; intro b1 a w S)
 revert a; revert Z; refine go 8 ?_; intro a S
 refine wp_ret ?_
 (have S' := qfp S; clear S; obtain ⟨F1, hF1, hb1, S⟩ := S')
 refine q08 S (q0c Tryz.results48 (RV.tmp S rfl)) ?_
 exact ⟨b1, rfl, ⟨_, _, _, hb1, rfl⟩⟩
def q47 : List UInt8 := [99, 111, 117, 110, 116]
def q5u : List UInt8 := [115, 117, 109]
def qjw : List UInt8 := [109, 105, 110]
def qkp : List UInt8 := [109, 97, 120]
def u40 (c1 c2 : Nat) : List (List UInt8 × Value) := [(q47, .func (.func 52) ⟨[]⟩ ⟨[]⟩), (q5u, .func (.func 53) ⟨[]⟩ ⟨[]⟩), (qjw, qy6 c1), (qkp, qy6 c2)]
def u0g (F : q01) (b : Nat) : Prop := ∃ c1 c2, F b = some (qhz kS (u40 c1 c2)) ∧ Cel F c1 0 (.int .i64 (-1)) ∧ Cel F c2 0 (.int .i64 1)
theorem u0g.mono {F F' : q01} (hF : ∀ b o, F b = some o → F' b = some o) {b : Nat} (h : u0g F b) : u0g F' b := by
 obtain ⟨c1, c2, h1, h2, h3⟩ := h
 exact ⟨c1, c2, hF _ _ h1, h2.mono hF, h3.mono hF⟩
theorem qlf (F : q01) : Ct Tryz.prog 30 [] F [] (fun F' _ u => ∃ b, u = .map (some b) ∧ u0g F' b) := by
 refine Ct.enter Tryz.func30 rfl Tryz.ntmps30 rfl fun w0 a S => ?_
 revert a; refine go 9 ?_; intro Z hZ a S
 (refine q6e kS S rfl rfl rfl rfl ?_; clear S a; intro b2 a w S)
 iterate 2 (refine q8a (enc := kS) S rfl rfl rfl rfl rfl rfl ?_; clear S; intro w S)
 revert a; refine go 1 ?_; intro a S
 (refine wcF S (qhp _ _) ?_; clear S a; intro v4 F4 a w hv4 hF4 S; obtain ⟨p4, rfl, c4⟩ := hv4)
 (refine q8a (enc := kS) S rfl rfl rfl rfl rfl rfl ?_; clear S; intro w S)
 revert a; refine go 1 ?_; intro a S
 (refine wcF S (qhp _ _) ?_; clear S a; intro v6 F6 a w hv6 hF6 S; obtain ⟨p6, rfl, c6⟩ := hv6)
 (refine q8a (enc := kS) S rfl rfl rfl rfl rfl rfl ?_; clear S; intro w S)
 revert a; revert Z; refine go 4 ?_; intro a S
 refine wp_ret ?_
 (have S' := qfp S; clear S; obtain ⟨F7, hF7, hb7, S⟩ := S')
 refine q08 S (q0c Tryz.results30 (RV.tmp S rfl)) ?_
 exact ⟨b2, rfl, p4, p6, hb7, (c4.mono hF6).mono hF7, c6.mono hF7⟩
theorem u05 {p : Prop} (h : p := by (rw [hfp]; first | (rw [qd9 (by omega), if_pos (by simp only [hxd]; assumption)]; done) | (rw [qj4 (by omega)]; done))) : p := h
theorem u5a (F : q01) (v : Value) (l : List (List UInt8)) (h : LiM F 1 StR v l) (fid : FuncId) (fi ca : List Value) [hfn : q0b Tryz.prog fid] (p : List UInt8 → Bool)
  (hcl : ∀ s, Ct Tryz.prog fid (fi ++ [.string (bs s)] ++ ca) F [] (fun _ _ u => u = .bool (p s))) :
  Ct Tryz.prog 54 [v, .func (.func fid) ⟨fi⟩ ⟨ca⟩] F [] (fun _ _ u => u = .int .i64 (qyo (fun k => p (l.getD k [])) l.length)) := by
 obtain ⟨ao, cap, rfl, hcap, hpos⟩ := h
 refine Ct.enter Tryz.func54 rfl Tryz.ntmps54 rfl fun w0 a S => ?_
 revert a; refine go 12 ?_; intro Z hZ a S
 refine q04 (fun m a w' => ∃ (k : Nat), m = l.length - k ∧ k ≤ l.length ∧ qyo (fun k => p (l.getD k [])) l.length = qlk (fun k => p (l.getD k [])) k (l.length - k) ∧ St 19 [(0, .slice ao l.length cap), (1, .func (.func fid) ⟨fi⟩ ⟨ca⟩), (7, .int .i64 l.length), (8, .int .i64 k)] w0 F [] F [] a w') ?_ ?_
 ·(refine ⟨l.length, 0, by omega, Nat.zero_le _, rfl, ?_⟩; refine S.keep ?_; exact zk)
 (clear S; rintro m a w ⟨k, rfl, hkl, hfp, S⟩)
 revert a; refine go 5 ?_; intro Z hZ a S
 refine q00 S rfl ?_ ?_ <;> intro h
 ·revert a; revert Z; refine go 9 ?_; intro Z hZ a S
  (refine wp_seq_k ?_; intro Z hZ)
  (obtain ⟨b8, o8, rfl, x, cs1, hx, hcc, hR1⟩ := LiM.pos hpos (k := k) (by omega); obtain rfl : cs1 = _ := hR1; have hxd : l.getD k [] = x := (by rw [List.getD_eq_getElem?_getD, hx]; rfl); have hc1 : Cel F b8 (o8 + k * 1) (.string (bs x)) := hcc 0 _ rfl)
  revert a; refine go 5 ?_; intro a S
  (refine wv S (q05 S rfl rfl hc1) ?_; clear S a; intro a S)
  (refine wc0 S (hcl x) ?_; clear S a; intro v a w hv S; subst hv)
  revert a; revert Z; refine go 2 ?_; intro a S
  refine q00 S rfl ?_ ?_ <;> intro h
  ·revert a; refine go 5 ?_; intro a S
   refine wp_ret (fr1 S Tryz.results54 ?_)
   exact u05
  revert a; revert Z; refine go 6 ?_; intro a S
  change ∃ m', _ ∧ _
  (refine ⟨l.length - (k + 1), by omega, k + 1, rfl, by omega, ?_, ?_⟩; rotate_left 1; (refine S.keep ?_; exact zk); rw [hfp, qd9 (by omega), if_neg (by simp only [hxd]; rw [(by assumption : p x = false)]; decide)])
 (refine wp_exit ?_; conv => whnf)
 clear hZ Z
 revert a; revert Z; refine go 5 ?_; intro a S
 refine wp_ret (fr1 S Tryz.results54 ?_)
 exact u05
theorem u51 (F : q01) (v : Value) (l : List (List UInt8)) (h : LiM F 1 StR v l) (fid : FuncId) (fi ca : List Value) [hfn : q0b Tryz.prog fid] (p : List UInt8 → Bool)
  (hcl : ∀ s, Ct Tryz.prog fid (fi ++ [.string (bs s)] ++ ca) F [] (fun _ _ u => u = .bool (p s))) :
  Ct Tryz.prog 31 [v, .func (.func fid) ⟨fi⟩ ⟨ca⟩] F [] (fun _ _ u => u = .bool (qx1 (fun k => p (l.getD k [])) l.length)) := by
 have hc := u5a F v l h fid fi ca p hcl
 obtain ⟨ao, cap, rfl, hcap, hpos⟩ := h
 refine Ct.enter Tryz.func31 rfl Tryz.ntmps31 rfl fun w0 a S => ?_
 revert a; refine go 7 ?_; intro Z hZ a S
 (refine wc0 S (hc) ?_; clear S a; intro v a w hv S; subst hv)
 revert a; revert Z; refine go 4 ?_; intro a S
 refine wp_ret (fr1 S Tryz.results31 ?_)
 rfl
theorem u31 {p : Prop} (h : p := by (first | (have h9 := hown; rw [List.flatMap_nil, qaG, Nat.zero_add] at hown; exact ⟨_, rfl, hown⟩) | (have hz : l = [] := (by cases l with | nil => rfl | cons x r => (exfalso; obtain ⟨b, o, e, -⟩ := hxp (by simp); have hno : ao.isNone = true := (by assumption); rw [e] at hno; cases hno)); subst hz; exact ⟨[], rfl, q0u.nil _ _⟩))) : p := h
theorem qs0 (F : q01) (v : Value) (l : List (List UInt8)) (h : LiM F 1 StR v l) (hl : l.length * 16 ≤ 140737488355328) : Ct Tryz.prog 33 [v] F [] (fun _ G' u => ∃ g, G' = [g] ∧ q0u 9 1 u l.length (strs l) g) := by
 obtain ⟨ao, cap, xs, rfl, hxc, hxp⟩ := h.flat
 have hxe : xs = strs l := by
  clear hxp h
  induction l generalizing xs with
  | nil => exact hxc
  | cons s r ih =>
   obtain ⟨cs, q, rfl, h1, h2, h3⟩ := hxc
   rw [show cs = _ from h2, ih (by simp at hl; omega) _ h3]; rfl
 subst hxe
 have hxl := hxc.len
 have hx1 := hxc.one'
 refine Ct.enter Tryz.func33 rfl Tryz.ntmps33 rfl fun w0 a S => ?_
 revert a; refine go 10 ?_; intro Z hZ a S
 refine q00 S rfl ?_ ?_ <;> intro h
 ·revert a; refine go 4 ?_; intro a S
  refine wp_ret ?_
  (first | (have h9 := hown; skip) | (replace S := S.nilg))
  refine q08 S (q0c Tryz.results33 (RV.tmp S rfl)) ?_
  exact u31
 revert a; revert Z; refine go 3 ?_; intro Z hZ a S
 (refine q0d S rfl rfl rfl rfl rfl rfl (by rfl) (by simp [Value.cells, splice, splice]) rfl (by rfl) (by rfl) ?_; clear S a; intro b5 a w hown S)
 revert a; refine go 1 ?_; intro a S
 (refine q1u S rfl rfl rfl rfl rfl rfl hown (by rfl) hxl hxp hx1 (by omega) (by omega) ?_; clear hown S a; intro v g a w hown S)
 revert a; revert Z; refine go 3 ?_; intro a S
 refine wp_ret ?_
 (first | (have h9 := hown; skip) | (replace S := S.nilg))
 refine q08 S (q0c Tryz.results33 (RV.tmp S rfl)) ?_
 exact u31
def q31 (s : List UInt8) : Bool := decide (s = q47 ∨ s = q5u ∨ s = qjw ∨ s = qkp)
theorem qx6 (c1 c2 : Nat) (s : List UInt8) : qzq ((q4g (u40 c1 c2) s).getD .nilFunc) = true ∧ qbp ((q4g (u40 c1 c2) s).getD .nilFunc) = !q31 s := by
 unfold q4g u40 q31
 simp only [List.find?_cons, List.find?_nil]
 by_cases h1 : s = q47
 ·subst h1; exact ⟨rfl, rfl⟩
 ·by_cases h2 : s = q5u
  ·subst h2; exact ⟨rfl, rfl⟩
  ·by_cases h3 : s = qjw
   ·subst h3; exact ⟨rfl, rfl⟩
   ·by_cases h4 : s = qkp
    ·subst h4; exact ⟨rfl, rfl⟩
    ·simp [h1, h2, h3, h4, qzq, qbp]
theorem u17 (F : q01) (b bk : Nat) (hb : Cel F b 0 (.map (some bk))) (hk : u0g F bk) (s : List UInt8) : Ct Tryz.prog 32 ([] ++ [.string (bs s)] ++ [.pointer (some ⟨b, 0, none⟩)]) F [] (fun _ _ u => u = .bool (!q31 s)) := by
 obtain ⟨c1, c2, hm, -, -⟩ := hk
 obtain ⟨hg1, hg2⟩ := qx6 c1 c2 s
 refine Ct.enter Tryz.func32 rfl Tryz.ntmps32 rfl fun w0 a S => ?_
 revert a; refine go 7 ?_; intro Z hZ a S
 (refine wv S (qb9 (enc := kS) (k := s) S rfl rfl rfl hm) ?_; clear S a; intro a S)
 (refine wv S (qkz S rfl rfl rfl hg1) ?_; clear S a; intro a S)
 revert a; revert Z; refine go 3 ?_; intro a S
 refine wp_ret (fr1 S Tryz.results32 ?_)
 exact congrArg _ hg2
def q7y (l : List (List UInt8)) : Int := if l.all q31 = false then 1 else if 8 < l.length then 3 else 0
theorem qz6 {l : List (List UInt8)} : qx1 (fun k => !q31 (l.getD k [])) l.length = !(l.all q31) := by
 rw [qoa (q := fun s => !q31 s) (fun k x hx => by rw [List.getD_eq_getElem?_getD, hx]; rfl), List.not_all_eq_any_not]
structure Ev where
  kv : Value
  b : Nat
  ws : List (List UInt8 × Value)
def evV (e : Ev) : Value := .agg ⟨[e.kv, .map (some e.b)]⟩
abbrev Gv := List (List UInt8 × Ev)
def gvM (x : Gv) : List (List UInt8 × Value) := x.map fun p => (p.1, evV p.2)
def WaS : Gv → Grp → Prop
 | [], [] => True
 | (_, e) :: r, (b, o) :: g => b = e.b ∧ MpO kS e.ws o ∧ WaS r g
 | _, _ => False
def GsS (bg : Nat) (av : Value) (x : Gv) (g : Grp) : Prop := ∃ bm om gw, g = (bg, .cells ⟨[av, .map (some bm)]⟩ 75 (0, 0)) :: (bm, om) :: gw ∧ MpO kS (gvM x) om ∧ WaS x gw
def u5g (l : List (List UInt8)) (G' : List Grp) (u : Value) : Prop :=
 (q7y l ≠ 0 ∧ u = .tuple ⟨[.pointer none, .int .i64 (q7y l)]⟩) ∨ (q7y l = 0 ∧ ∃ b av gg ga, u = .tuple ⟨[.pointer (some ⟨b, 0, none⟩), .int .i64 0]⟩ ∧ G' = [gg, ga] ∧ GsS b av [] gg ∧ LiM (gh ga) 1 StR av l)
theorem qxj {p : Prop} (h : p := by (first | (have e : q7y l = 1 := (by unfold q7y; rw [if_pos (by assumption)]); exact .inl ⟨by rw [e]; decide, by rw [e]⟩) | (have hall : l.all q31 = true := (by assumption); first | (have e : q7y l = 3 := (by unfold q7y; rw [if_neg (by rw [hall]; decide), if_pos (by omega)]); exact .inl ⟨by rw [e]; decide, by rw [e]⟩) | (have e : q7y l = 0 := (by unfold q7y; rw [if_neg (by rw [hall]; decide), if_neg (by omega)]); exact .inr ⟨e, b16, _, _, _, rfl, rfl, ⟨b14, _, [], rfl, MpO.nil _, trivial⟩, hLg⟩)))) : p := h
theorem qo2 (F : q01) (v : Value) (l : List (List UInt8)) (hL : LiM F 1 StR v l) (hl : l.length ≤ 1000000) : Ct Tryz.prog 9 [v] F [] (fun _ G' u => u5g l G' u) := by
 have hcm := qlf F
 obtain ⟨ao, cap, rfl, -, -⟩ := id hL
 refine Ct.enter Tryz.func9 rfl Tryz.ntmps9 rfl fun w0 a S => ?_
 revert a; refine go 6 ?_; intro Z hZ a S
 (refine wcF S hcm ?_; clear S a; intro u9 F5 a w hv hF5 S; obtain ⟨bk, rfl, hk⟩ := hv)
 (refine q0a S rfl rfl rfl rfl ?_; clear S a; intro b4 a w S)
 (refine q0e S rfl rfl rfl rfl rfl rfl (by first | (simp; done) | (simp [Value.cells]; done) | exact Nat.le_of_ble_eq_true rfl) ?_; clear S; intro w S)
 revert a; revert Z; refine go 3 ?_; intro Z hZ a S
 (refine wp_seq_k ?_; intro Z hZ)
 (have S' := qfp S; clear S; obtain ⟨F4, hF4, hb4, S⟩ := S'; have hc4 : Cel F4 b4 0 (.map (some bk)) := ⟨_, _, _, hb4, rfl⟩; replace hk := hk.mono hF4; have hmm : ∀ b o, F b = some o → F4 b = some o := fun b o h => hF4 _ _ (hF5 _ _ h))
 revert a; refine go 3 ?_; intro a S
 (refine wc0 S (u51 F4 _ l (hL.mono hmm) 32 [] [.pointer (some ⟨b4, 0, none⟩)] (fun s => !q31 s) (fun s => u17 F4 b4 bk hc4 hk s)) ?_; clear S a; intro v9 a w hv S; subst hv; rw [qz6] at S)
 revert a; revert Z; refine go 2 ?_; intro a S
 refine q00 S rfl ?_ ?_ <;> intro h
 ·revert a; refine go 5 ?_; intro a S
  refine wp_ret ?_
  (first | (replace S := qc6 S) | skip)
  refine q08 S (q0v Tryz.results9 (RV.tmp S rfl) (RV.tmp S rfl)) ?_
  exact qxj
 revert a; revert Z; refine go 9 ?_; intro Z hZ a S
 refine q00 S rfl ?_ ?_ <;> intro h
 ·revert a; refine go 5 ?_; intro a S
  refine wp_ret ?_
  (first | (replace S := qc6 S) | skip)
  refine q08 S (q0v Tryz.results9 (RV.tmp S rfl) (RV.tmp S rfl)) ?_
  exact qxj
 revert a; revert Z; refine go 4 ?_; intro Z hZ a S
 (refine q2p (Gs := []) (Gr := []) S rfl rfl rfl rfl rfl rfl (qs0 F4 _ l (hL.mono hmm) (by omega)) rfl (by exact List.Perm.refl _) ?_; clear S a; intro vT F6 G9 a w hv hF6 S; obtain ⟨gT, rfl, hown⟩ := hv; have hnd := S.tr.nd; have hLg := LiC.lim (F := gh []) hown (q5r _ _) rfl (fun _ _ h => by cases h) (by omega); rw [← q7d, qaE] at hLg; obtain ⟨aT, cT, rfl, -, -⟩ := id hLg; (simp only [qaE] at S))
 (refine q6e kS S rfl rfl rfl rfl ?_; clear S a; intro b14 a w S)
 revert a; refine go 1 ?_; intro a S
 (refine wbx S ?_; clear S a; intro b16 a w S)
 revert a; revert Z; refine go 4 ?_; intro a S
 refine wp_ret ?_
 (first | (replace S := qc6 S) | skip)
 refine q08 S (q0v Tryz.results9 (RV.tmp S rfl) (RV.tmp S rfl)) ?_
 exact qxj
section
variable {β : Type}
def alG : List (List UInt8 × β) → List UInt8 → Option β
 | [], _ => none
 | (a, u) :: r, k => if k = a then some u else alG r k
def alU : List (List UInt8 × β) → List UInt8 → (β → β) → List (List UInt8 × β)
 | [], _, _ => []
 | (a, u) :: r, k, f => if k = a then (a, f u) :: r else (a, u) :: alU r k f
def alD : List (List UInt8 × β) → List UInt8 → List (List UInt8 × β)
 | [], _ => []
 | (a, u) :: r, k => if k = a then r else (a, u) :: alD r k
theorem q23 : ∀ {x : List (List UInt8 × β)} {k : List UInt8} {e : β}, alG x k = some e → ∃ x1 x2, x = x1 ++ (k, e) :: x2 ∧ (∀ p ∈ x1, p.1 ≠ k) ∧ (∀ f, alU x k f = x1 ++ (k, f e) :: x2) ∧ alD x k = x1 ++ x2
 | [], k, e, h => by cases h
 | (a, u) :: r, k, e, h => by
  unfold alG at h
  by_cases hk : k = a
  ·subst hk
   rw [if_pos rfl] at h
   cases h
   exact ⟨[], r, rfl, (fun p hp => by cases hp), (fun f => by unfold alU; rw [if_pos rfl]; rfl), by unfold alD; rw [if_pos rfl]; rfl⟩
  ·rw [if_neg hk] at h
   obtain ⟨x1, x2, h1, h2, h3, h4⟩ := q23 h
   refine ⟨(a, u) :: x1, x2, by rw [h1]; rfl, ?_, ?_, ?_⟩
   ·intro p hp
    rcases List.mem_cons.1 hp with rfl | hp
    ·exact Ne.symm hk
    ·exact h2 p hp
   ·intro f; unfold alU; rw [if_neg hk, h3]; rfl
   ·unfold alD; rw [if_neg hk, h4]; rfl
theorem q6k : ∀ {x : List (List UInt8 × β)} {k : List UInt8}, alG x k = none ↔ ∀ p ∈ x, p.1 ≠ k
 | [], k => ⟨(fun _ p hp => by cases hp), fun _ => rfl⟩
 | (a, u) :: r, k => by
  unfold alG
  by_cases hk : k = a
  ·subst hk; rw [if_pos rfl]; exact ⟨(fun h => by cases h), fun h => absurd rfl (h (k, u) (qaH ..))⟩
  ·rw [if_neg hk, q6k (x := r)]
   exact ⟨fun h p hp => (List.mem_cons.1 hp).elim (fun e => by rw [e]; exact Ne.symm hk) (h p), fun h p hp => h p (List.mem_cons_of_mem _ hp)⟩
theorem q88 {x y : List (List UInt8 × β)} {k : List UInt8} (h : alG x k = none) : alG (x ++ y) k = alG y k := by
 induction x with
 | nil => rfl
 | cons p r ih =>
  obtain ⟨a, u⟩ := p
  unfold alG at h
  by_cases hk : k = a
  ·rw [if_pos hk] at h; cases h
  ·rw [if_neg hk] at h
   show (if k = a then some u else alG (r ++ y) k) = _
   rw [if_neg hk, ih h]
theorem q9t {x1 x2 : List (List UInt8 × β)} {k : List UInt8} {e : β} (h : ∀ p ∈ x1, p.1 ≠ k) : alG (x1 ++ (k, e) :: x2) k = some e := by
 rw [q88 (q6k.2 h)]
 unfold alG; rw [if_pos rfl]
theorem qwc {x1 x2 : List (List UInt8 × β)} {k : List UInt8} {e : β} (h : ∀ p ∈ x1, p.1 ≠ k) : alD (x1 ++ (k, e) :: x2) k = x1 ++ x2 := by
 induction x1 with
 | nil => show alD ((k, e) :: x2) k = _; unfold alD; rw [if_pos rfl]; rfl
 | cons p r ih =>
  obtain ⟨a, u⟩ := p
  have ha : ¬ k = a := fun e => h (a, u) (qaH ..) e.symm
  show alD ((a, u) :: (r ++ (k, e) :: x2)) k = _
  unfold alD
  rw [if_neg ha, ih fun p hp => h p (List.mem_cons_of_mem _ hp)]; rfl
end
theorem qgk (x : List (List UInt8 × Value)) (k : List UInt8) : q4g x k = alG x k := by
 induction x with
 | nil => rfl
 | cons p r ih =>
  obtain ⟨a, u⟩ := p
  unfold q4g at ih ⊢
  unfold alG
  rw [List.find?_cons]
  by_cases h : k = a
  ·subst h; simp
  ·simp only [h, decide_false, if_false]; exact ih
theorem qnx {β γ : Type} (f : β → γ) : ∀ (x : List (List UInt8 × β)) (k : List UInt8), alG (x.map fun p => (p.1, f p.2)) k = (alG x k).map f
 | [], _ => rfl
 | (a, u) :: r, k => by
  show (if k = a then some (f u) else alG (r.map fun p => (p.1, f p.2)) k) = (if k = a then some u else alG r k).map f
  split
  ·rfl
  ·exact qnx f r k
theorem q6f (x : Gv) (k : List UInt8) : q4g (gvM x) k = (alG x k).map evV := by rw [qgk]; exact qnx evV x k
theorem qly : ∀ (x : List (List UInt8 × Value)) (k : List UInt8), qkw x k = alD x k
 | [], _ => rfl
 | (a, u) :: r, k => by unfold qkw alD; split; rfl; rw [qly r k]
theorem qlm : ∀ (x : Gv) (k : List UInt8), qkw (gvM x) k = gvM (alD x k)
 | [], _ => rfl
 | (a, u) :: r, k => by
  show qkw ((a, evV u) :: gvM r) k = _
  unfold qkw alD
  split
  ·rfl
  ·rw [qlm r k]; rfl
structure q2r (l : Vf) : Prop where
  rg : RgF l
  wt : wtB l ≤ 100000000
  th : ThV l
  ln : l.len * 56 ≤ 140737488355328
structure En where
  key : Vf
  ways : List (List UInt8 × Vf)
abbrev GA := List (List UInt8 × En)
def kAt (l : Vf) (i : Nat) : Nat := match l.get? i with | some x => x.1.k | none => 0
def q4n (aggs : List (List UInt8)) (args : Vf) (ws : List (List UInt8 × Vf)) (i : Nat) : Bool :=
 decide (aggs.getD i [] = q5u) && (decide (kAt args i ≠ 2 ∧ kAt args i ≠ 3) || (match ws with | [] => false | w :: _ => decide (kAt w.2 i ≠ kAt args i)))
def q73 (aggs : List (List UInt8)) (args : Vf) (ws : List (List UInt8 × Vf)) : Bool := (List.range aggs.length).any (q4n aggs args ws)
def q1z (x : GA) (k : List UInt8) : List (List UInt8 × Vf) := match alG x k with | none => [] | some e => e.ways
def qam (aggs : List (List UInt8)) (x : GA) (key way args : Vf) : Int :=
 match q13 key, q13 way, q13 args with
 | some k, some w, some _ => if args.len ≠ aggs.length then 1 else if (alG (q1z x k) w).isSome = true then 6 else if q73 aggs args (q1z x k) = true then 70 else 0
 | _, _, _ => 4
def qrq (x : GA) (k w : List UInt8) (key args : Vf) : GA := match alG x k with
 | none => x ++ [(k, ⟨key, [(w, args)]⟩)]
 | some _ => alU x k fun e => ⟨e.key, e.ways ++ [(w, args)]⟩
def qdo (x : GA) (key way : Vf) : Int :=
 match q13 key, q13 way with
 | some k, some w => if (alG (q1z x k) w).isSome = true then 0 else 5
 | _, _ => 4
def qvp (x : GA) (k w : List UInt8) : GA := if alD (q1z x k) w = [] then alD x k else alU x k fun e => ⟨e.key, alD e.ways w⟩
structure qvb (aggs : List (List UInt8)) (k : List UInt8) (e : En) : Prop where
  ne : e.ways ≠ []
  nd : (e.ways.map (·.1)).Nodup
  len : ∀ w ∈ e.ways, w.2.len = aggs.length
  kind : ∀ w ∈ e.ways, ∀ w' ∈ e.ways, ∀ i, aggs.getD i [] = q5u → kAt w.2 i = kAt w'.2 i
  num : ∀ w ∈ e.ways, ∀ i, i < aggs.length → aggs.getD i [] = q5u → kAt w.2 i = 2 ∨ kAt w.2 i = 3
  may : ∀ w ∈ e.ways, (q13 w.2).isSome = true
  row : ∀ w ∈ e.ways, q2r w.2
  key : q13 e.key = some k
  krow : q2r e.key
structure GInv (aggs : List (List UInt8)) (x : GA) : Prop where
  nd : (x.map (·.1)).Nodup
  all : ∀ p ∈ x, qvb aggs p.1 p.2
def WsR (F : q01) : List (List UInt8 × Vf) → List (List UInt8 × Value) → Prop
 | [], [] => True
 | (t, l) :: r, (t', v) :: r' => t = t' ∧ TrS F 4 VhR v l ∧ WsR F r r'
 | _, _ => False
def GvR (F : q01) : GA → Gv → Prop
 | [], [] => True
 | (k, e) :: r, (k', e') :: r' => k = k' ∧ TrS F 4 VhR e'.kv e.key ∧ WsR F e.ways e'.ws ∧ GvR F r r'
 | _, _ => False
theorem WsR.mono {F F' : q01} (hF : ∀ b o, F b = some o → F' b = some o) : ∀ {x : List (List UInt8 × Vf)} {y : List (List UInt8 × Value)}, WsR F x y → WsR F' x y
 | [], [], _ => trivial
 | (_, _) :: _, (_, _) :: _, ⟨h1, h2, h3⟩ => ⟨h1, h2.mono hF, h3.mono hF⟩
theorem GvR.mono {F F' : q01} (hF : ∀ b o, F b = some o → F' b = some o) : ∀ {x : GA} {y : Gv}, GvR F x y → GvR F' x y
 | [], [], _ => trivial
 | (_, _) :: _, (_, _) :: _, ⟨h1, h2, h3, h4⟩ => ⟨h1, h2.mono hF, h3.mono hF, h4.mono hF⟩
theorem WsR.get {F : q01} : ∀ {x : List (List UInt8 × Vf)} {y : List (List UInt8 × Value)}, WsR F x y → ∀ k, (alG x k = none ∧ alG y k = none) ∨ ∃ l v, alG x k = some l ∧ alG y k = some v ∧ TrS F 4 VhR v l
 | [], [], _, k => .inl ⟨rfl, rfl⟩
 | (t, l) :: r, (t', v) :: r', ⟨h1, h2, h3⟩, k => by
  subst h1
  unfold alG
  by_cases hk : k = t
  ·rw [if_pos hk, if_pos hk]; exact .inr ⟨l, v, rfl, rfl, h2⟩
  ·rw [if_neg hk, if_neg hk]; exact h3.get k
theorem WsR.mem {F : q01} : ∀ {x : List (List UInt8 × Vf)} {y : List (List UInt8 × Value)}, WsR F x y → ∀ q ∈ y, ∃ p ∈ x, p.1 = q.1 ∧ TrS F 4 VhR q.2 p.2
 | [], [], _, q, h => by cases h
 | (t, l) :: r, (t', v) :: r', ⟨h1, h2, h3⟩, q, hq => by
  rcases List.mem_cons.1 hq with rfl | hq
  ·exact ⟨(t, l), qaH .., h1, h2⟩
  ·obtain ⟨p, hp, h⟩ := h3.mem q hq
   exact ⟨p, List.mem_cons_of_mem _ hp, h⟩
theorem WsR.len {F : q01} : ∀ {x : List (List UInt8 × Vf)} {y : List (List UInt8 × Value)}, WsR F x y → x.length = y.length
 | [], [], _ => rfl
 | (t, l) :: r, (t', v) :: r', ⟨_, _, h3⟩ => by simp [h3.len]
theorem WsR.snoc {F : q01} {t : List UInt8} {l : Vf} {v : Value} (h : TrS F 4 VhR v l) : ∀ {x : List (List UInt8 × Vf)} {y : List (List UInt8 × Value)}, WsR F x y → WsR F (x ++ [(t, l)]) (y ++ [(t, v)])
 | [], [], _ => ⟨rfl, h, trivial⟩
 | (_, _) :: _, (_, _) :: _, ⟨h1, h2, h3⟩ => ⟨h1, h2, WsR.snoc h h3⟩
theorem WsR.del {F : q01} (t : List UInt8) : ∀ {x : List (List UInt8 × Vf)} {y : List (List UInt8 × Value)}, WsR F x y → WsR F (alD x t) (alD y t)
 | [], [], _ => trivial
 | (a, l) :: r, (a', v) :: r', ⟨h1, h2, h3⟩ => by
  subst h1
  unfold alD
  by_cases hk : t = a
  ·rw [if_pos hk, if_pos hk]; exact h3
  ·rw [if_neg hk, if_neg hk]; exact ⟨rfl, h2, WsR.del t h3⟩
theorem GvR.get {F : q01} : ∀ {x : GA} {y : Gv}, GvR F x y → ∀ k, (alG x k = none ∧ alG y k = none) ∨ ∃ e e', alG x k = some e ∧ alG y k = some e' ∧ TrS F 4 VhR e'.kv e.key ∧ WsR F e.ways e'.ws
 | [], [], _, k => .inl ⟨rfl, rfl⟩
 | (t, l) :: r, (t', v) :: r', ⟨h1, h2, h3, h4⟩, k => by
  subst h1
  unfold alG
  by_cases hk : k = t
  ·rw [if_pos hk, if_pos hk]; exact .inr ⟨l, v, rfl, rfl, h2, h3⟩
  ·rw [if_neg hk, if_neg hk]; exact h4.get k
theorem GvR.snoc {F : q01} {t : List UInt8} {e : En} {e' : Ev} (h : TrS F 4 VhR e'.kv e.key) (h2 : WsR F e.ways e'.ws) : ∀ {x : GA} {y : Gv}, GvR F x y → GvR F (x ++ [(t, e)]) (y ++ [(t, e')])
 | [], [], _ => ⟨rfl, h, h2, trivial⟩
 | (_, _) :: _, (_, _) :: _, ⟨h3, h4, h5, h6⟩ => ⟨h3, h4, h5, GvR.snoc h h2 h6⟩
theorem GvR.del {F : q01} (t : List UInt8) : ∀ {x : GA} {y : Gv}, GvR F x y → GvR F (alD x t) (alD y t)
 | [], [], _ => trivial
 | (a, l) :: r, (a', v) :: r', ⟨h1, h2, h3, h4⟩ => by
  subst h1
  unfold alD
  by_cases hk : t = a
  ·rw [if_pos hk, if_pos hk]; exact h4
  ·rw [if_neg hk, if_neg hk]; exact ⟨rfl, h2, h3, GvR.del t h4⟩
theorem GvR.upd {F : q01} (t : List UInt8) {f : En → En} {g : Ev → Ev} (h : ∀ e e', alG (β := En) [(t, e)] t = some e → TrS F 4 VhR e'.kv e.key → WsR F e.ways e'.ws → TrS F 4 VhR (g e').kv (f e).key ∧ WsR F (f e).ways (g e').ws) : ∀ {x : GA} {y : Gv}, GvR F x y → GvR F (alU x t f) (alU y t g)
 | [], [], _ => trivial
 | (a, l) :: r, (a', v) :: r', ⟨h1, h2, h3, h4⟩ => by
  subst h1
  unfold alU
  by_cases hk : t = a
  ·rw [if_pos hk, if_pos hk]
   obtain ⟨h5, h6⟩ := h l v (by unfold alG; rw [if_pos rfl]) h2 h3
   exact ⟨rfl, h5, h6, h4⟩
  ·rw [if_neg hk, if_neg hk]; exact ⟨rfl, h2, h3, GvR.upd t h h4⟩
theorem WaS.split : ∀ {x1 : Gv} {k : List UInt8} {e : Ev} {x2 : Gv} {g : Grp}, WaS (x1 ++ (k, e) :: x2) g → ∃ g1 o g2, g = g1 ++ (e.b, o) :: g2 ∧ MpO kS e.ws o ∧ WaS x1 g1 ∧ WaS x2 g2
 | [], k, e, x2, (b, o) :: g, ⟨h1, h2, h3⟩ => ⟨[], o, g, by rw [h1]; rfl, h2, trivial, h3⟩
 | (k1, e1) :: x1, k, e, x2, (b, o) :: g, ⟨h1, h2, h3⟩ => by
  obtain ⟨g1, o', g2, rfl, h5, h6, h7⟩ := WaS.split (x1 := x1) h3
  exact ⟨(b, o) :: g1, o', g2, rfl, h5, ⟨h1, h2, h6⟩, h7⟩
 | [], k, e, x2, [], h => by cases h
 | (k1, e1) :: x1, k, e, x2, [], h => by cases h
theorem WaS.join {k : List UInt8} {e : Ev} {x2 : Gv} {o : Obj} {g2 : Grp} (h2 : MpO kS e.ws o) (h3 : WaS x2 g2) : ∀ {x1 : Gv} {g1 : Grp}, WaS x1 g1 → WaS (x1 ++ (k, e) :: x2) (g1 ++ (e.b, o) :: g2)
 | [], [], _ => ⟨rfl, h2, h3⟩
 | (_, _) :: _, (_, _) :: _, ⟨h4, h5, h6⟩ => ⟨h4, h5, WaS.join h2 h3 h6⟩
theorem WaS.app {x2 : Gv} {g2 : Grp} (h3 : WaS x2 g2) : ∀ {x1 : Gv} {g1 : Grp}, WaS x1 g1 → WaS (x1 ++ x2) (g1 ++ g2)
 | [], [], _ => h3
 | (_, _) :: _, (_, _) :: _, ⟨h4, h5, h6⟩ => ⟨h4, h5, WaS.app h3 h6⟩
