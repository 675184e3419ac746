/- The walk of EvalUnseen. -/
import Derived.Test.YtigblodhdfnleaaGreatDoorEwI
import Derived.Test.YtigblodhdfnleaaGreatDoorEwA
namespace Go.Proofs.YtigblodhdfnleaaGreatDoor
open Go Go.Wk Go.Un Go.De Go.Num
set_option linter.unusedSimpArgs false
set_option linter.unusedVariables false
attribute [local irreducible] Go.wpList Go.Code.wp Go.wpStill Go.Wk.wpPre Go.bodyPost Go.Calls Go.Wk.Ct Go.Wk.OwnS
attribute [local irreducible] Go.Wk.wpG Go.Wk.wpM

theorem szF_pos : ∀ (l : Vf) (n : Nat), 0 < n → 0 < szF n l := fun l n h => Nat.lt_of_lt_of_le h (szF_ge l n)
theorem lgF_len : ∀ {l : List Bd} {n : Nat}, lgF n l < 1500 → l.length + n ≤ lgF n l
  | [], n, _ => by show 0 + n ≤ n; omega
  | x :: r, n, h => by
    unfold lgF at h ⊢
    by_cases hn : n < 3000
    · rw [if_pos hn] at h ⊢
      have h1 := lgF_len h
      have h2 := szF_pos x.2.2 (1 + x.2.1.s.length / 64) (by omega)
      have h3 : szV x.2 = szF (1 + x.2.1.s.length / 64) x.2.2 := rfl
      rw [List.length_cons]; omega
    · rw [if_neg hn] at h; omega
theorem lgO_len {e : Ex} {vs : List Bd} (h : lgO e vs < 1500) : vs.length ≤ 1000000 := by
  have := lgF_len (show lgF (ptE e) vs < 1500 from h)
  unfold lgO at h; omega
theorem lgO_pt {e : Ex} {vs : List Bd} (h : lgO e vs < 1500) : ptE e < 1500 := Nat.lt_of_le_of_lt (lgF_ge vs (ptE e)) h
theorem ptF_size : ∀ {l : Ef} {n : Nat}, ptF n l < 1500 → l.size + n ≤ ptF n l
  | .nil, n, _ => by show 0 + n ≤ n; omega
  | .cons h L r, n, hs => by
    unfold ptF at hs ⊢
    by_cases hn : n < 3000
    · rw [if_pos hn] at hs ⊢
      have a := ptF_ge r (n + ptF (1 + szV (h.v, h.vl)) L)
      have b := ptF_size (l := L) (n := 1 + szV (h.v, h.vl)) (by omega)
      have c := ptF_size (l := r) hs
      simp only [Rose.size]; omega
    · rw [if_neg hn] at hs; omega
theorem ptE_size {e : Ex} (h : ptE e < 1500) : e.2.size ≤ 1000000 := by
  have := ptF_size (show ptF (1 + szV (e.1.v, e.1.vl)) e.2 < 1500 from h)
  unfold ptE at h; omega
theorem take_t {l : List (List UInt8)} {k : Nat} {x y : List UInt8} {t : Bool} (hx : l[k]? = some x) (ht : t = decide (y ∈ l.take k)) (h : t = true) : true = decide (y ∈ l.take (k + 1)) := by
  rw [h] at ht
  have h1 : y ∈ l.take k := of_decide_eq_true ht.symm
  exact (decide_eq_true (by rw [List.take_add_one]; exact List.mem_append_left _ h1)).symm
theorem take_f {l : List (List UInt8)} {k : Nat} {x y : List UInt8} {t : Bool} (hx : l[k]? = some x) (ht : t = decide (y ∈ l.take k)) (h : t = false) : (x == y) = decide (y ∈ l.take (k + 1)) := by
  rw [h] at ht
  have h1 : ¬ y ∈ l.take k := of_decide_eq_false ht.symm
  rw [Bool.eq_iff_iff, decide_eq_true_eq, beq_iff_eq, List.take_add_one, hx, List.mem_append]
  show _ ↔ (_ ∨ y ∈ [x])
  rw [List.mem_singleton]
  exact ⟨fun e => .inr e.symm, fun e => e.elim (fun h9 => absurd h9 h1) Eq.symm⟩
theorem consG {n : Sz} {L : List (Nat × Value)} {w0 : World} {F0 : Heap} {K0 : List Nat} {a : Act} {w : World} {F : Heap} {g : Grp} {G : List Grp} (S : St n L w0 F0 K0 F ([g] ++ G) a w) : St n L w0 F0 K0 F (g :: G) a w := S
/-- An own group, put in front. -/
class PullG (G : List Grp) (g : Grp) (R : outParam (List Grp)) : Prop where h : ∃ G1 G2, G = G1 ++ g :: G2 ∧ R = G1 ++ G2
instance {g : Grp} {G : List Grp} : PullG (g :: G) g G := ⟨[], G, rfl, rfl⟩
instance {g k : Grp} {G R : List Grp} [h : PullG G g R] : PullG (k :: G) g (k :: R) := by
  obtain ⟨G1, G2, e, hR⟩ := h.h
  exact ⟨k :: G1, G2, by rw [e]; rfl, by rw [hR]; rfl⟩
theorem pullG {n : Sz} {L : List (Nat × Value)} {w0 : World} {F0 : Heap} {K0 : List Nat} {a : Act} {w : World} {F : Heap} {G R : List Grp} (g : Grp) [h : PullG G g R] (S : St n L w0 F0 K0 F G a w) : St n L w0 F0 K0 F (g :: R) a w := by
  obtain ⟨G1, G2, rfl, rfl⟩ := h.h
  exact ⟨S.fr, S.tr.perm (by first | exact List.Perm.flatten List.perm_middle | exact (List.Perm.flatten List.perm_middle).symm)⟩
theorem gvb_cons {y : Bd} {vs : List Bd} (h : GV y.2) (hv : GVB vs) : GVB (y :: vs) := fun x hx => by
  rcases List.mem_cons.1 hx with rfl | hx
  · exact h
  · exact hv x hx
theorem permNil {G : List Grp} : G.flatten.Perm (([] : List Grp).flatten ++ G.flatten) := by simp
theorem ans_cast {F : Heap} {u : Value} {A B : Ans} (e : A = B) (h : AnsR F u A) : AnsR F u B := e ▸ h
theorem exc_if {F : Heap} {ao : Option Addr} {n cap : Nat} {L : Ef} (h : TrS F 9 EhR (.slice ao n cap) L) : ExC F [.int .u8 8, .int .i64 0, .int .i64 0, .string (bs []), .int .u8 0, .int .i64 0, .string (bs []), .slice none 0 0, .slice ao n cap] ifE L := ⟨_, _, rfl, TrS.nil _ _ _, h⟩
theorem mn {F F' : Heap} (h : ∀ b o, F b = some o → F' b = some o := by intro b o h; solve_by_elim (maxDepth := 40)) : ∀ b o, F b = some o → F' b = some o := h
section
variable {ops : Array Oper} {rest : List Oper} {o : Oper} {Q : Exit → Act → World → Prop} {n : Sz} {L : List (Nat × Value)} {w0 : World} {F0 F : Heap} {K0 : List Nat} {G : List Grp} {a : Act} {w : World} {d : Nat} {X : Operand} {xs : Array Operand} {ts : Array TypeId}
/-- bindings, no more written. -/
theorem wpl_bind {vv : Value} {vs : List Bd} (S : St n L w0 F0 K0 F G a w) (hg : o.guard = none) (hd : o.dst = some d) (hn : Nat.blt d n.sz = true) (ho : o.op = .call { callee := .value X, args := xs, argTypes := ts }) (hx : ev L X = some (.func (.func 15) ⟨[]⟩ ⟨[]⟩)) (hxs : evs L xs.toList = some [vv])
    (hvn : vs.length ≤ 1000000) (hvz : ∀ x ∈ vs, x.2.2.size ≤ 100000000) (hv : LiM F 5 BdR vv vs)
    (k : ∀ ao cap F' a' w', (∀ b o, F b = some o → F' b = some o) → LiM F' 5 BdR (.slice ao vs.length cap) vs → St n ((d, .slice ao vs.length cap) :: L) w0 F0 K0 F' G a' w' → wpList Tryz.prog ops Q rest a' w') : wpList Tryz.prog ops Q (o :: rest) a w := by
  refine wpl_call (Gs := []) S hg hd hn ho hx hxs (lbindCt F vs _ hvn hvz hv) rfl permNil ?_
  intro u F1 G9 a w hv1 hF1 S
  obtain ⟨g, ys, rfl, hown, hli⟩ := hv1
  replace S := consG (g := g) S
  have hx := hown.at
  obtain ⟨ab, cb, rfl, -⟩ := hx
  have hle := add_le (G1 := []) S
  have S' := St.freeze (G1 := []) S
  exact k ab cb _ _ _ (fun b o h => hle _ _ (hF1 _ _ h)) (LiC.lim hown hli rfl hle (by omega)) S'
/-- Eval with no table. -/
theorem wpl_ev0 {vv : Value} {vs : List Bd} {eh : EH} {Le : Ef} {cs : List Value} {A : Ans} (S : St n L w0 F0 K0 F G a w) (hg : o.guard = none) (hd : o.dst = some d) (hn : Nat.blt d n.sz = true) (ho : o.op = .call { callee := .value X, args := xs, argTypes := ts }) (hx : ev L X = some (.func (.func 6) ⟨[]⟩ ⟨[]⟩)) (hxs : evs L xs.toList = some [.pointer none, .agg ⟨cs⟩, vv])
    (hT : TabF F) (hE : ErrF F) (hvs : LiM F 5 BdR vv vs) (hB : GVB vs) (hX : ExC F cs eh Le) (hG : GE eh Le) (eA : evalO [] vs eh Le = A)
    (k : ∀ ao cap F' a' w', (∀ b o, F b = some o → F' b = some o) → VaC F' [.int .u8 (A.2.1.k : Int), .int .i64 A.2.1.n, .string (bs A.2.1.s), .slice ao A.2.2.len cap] A.2.1 A.2.2 → St n ((d, .tuple ⟨[.agg ⟨[.int .u8 (A.2.1.k : Int), .int .i64 A.2.1.n, .string (bs A.2.1.s), .slice ao A.2.2.len cap]⟩, .int .i64 A.1]⟩) :: L) w0 F0 K0 F' G a' w' → wpList Tryz.prog ops Q rest a' w') : wpList Tryz.prog ops Q (o :: rest) a w := by
  refine wpl_callF S hg hd hn ho hx hxs (evalCt F hT hE none [] (fun F' nm _ => cons0Ct F' nm) vs vv hvs hB eh Le cs hX hG) rfl ?_
  intro v F1 a w hv hF1 S
  replace hv := ans_cast eA hv
  obtain ⟨c, rfl, q⟩ := hv
  obtain ⟨xa, xb, rfl, -, -⟩ := vac_slc q
  exact k xa xb F1 _ _ hF1 q S
/-- A slice of three expressions, no more written. -/
theorem wpl_sl3 {ty e : TypeId} {parts : Array (Nat × Operand)} {z : Value} {sz by_ : Nat} {x y u : Ex} {c1 c2 c3 : List Value} {qs : List Operand} [Und Tryz.prog ty (.slice e)] [Inf Tryz.prog e z sz by_] (S : St n L w0 F0 K0 F G a w) (hg : o.guard = none) (hd : o.dst = some d) (hn : Nat.blt d n.sz = true) (ho : o.op = .buildSlice ty 3 parts) (hq : unidx 0 parts.toList = some qs) (hxs : evs L qs = some [.agg ⟨c1⟩, .agg ⟨c2⟩, .agg ⟨c3⟩])
    (hz : z.cells.toList.length = sz) (hs9 : sz = 9) (h1 : ReR F x c1) (h2 : ReR F y c2) (h3 : ReR F u c3)
    (k : ∀ b F' a' w', (∀ b o, F b = some o → F' b = some o) → TrS F' 9 EhR (.slice (some ⟨b, 0, none⟩) 3 3) (.cons x.1 x.2 (.cons y.1 y.2 (.cons u.1 u.2 .nil))) → St n ((d, .slice (some ⟨b, 0, none⟩) 3 3) :: L) w0 F0 K0 F' G a' w' → wpList Tryz.prog ops Q rest a' w') : wpList Tryz.prog ops Q (o :: rest) a w := by
  subst hs9
  have l9 : ∀ {x : Ex} {c : List Value}, ReR F x c → c.length = 9 := fun ⟨_, _, h1, h2, _⟩ => by rw [h1, List.length_append]; exact h2
  refine wpl_buildSlice S hg hd hn ho hq hxs hz (by simp only [List.mem_cons, List.not_mem_nil, or_false, forall_eq_or_imp, forall_eq, Value.cells]; exact ⟨l9 h1, l9 h2, l9 h3⟩) rfl (by decide) (by decide) ?_
  intro b a w hown S
  simp only [Value.cells, List.flatMap_cons, List.flatMap_nil, List.append_nil] at S
  obtain ⟨F1, hF1, hb, S⟩ := frz1 S
  exact k b F1 _ _ hF1 (trs_lim (lim_of (l := ([x, y, u] : List Ex)) hb (LiC.app (l := [x]) (LiC.one (l9 h1) (Mon.h hF1 h1)) (LiC.app (l := [y]) (LiC.one (l9 h2) (Mon.h hF1 h2)) (LiC.one (l9 h3) (Mon.h hF1 h3)))) (show 3 ≤ _ by decide))) S
end
theorem zzEwJ0 {p : Prop} (h : p := by (rw [← hao] at S; first | (have ht9 : t = true := (by assumption); refine ⟨nm.length - (k + 1), by omega, k + 1, true, rfl, by omega, take_t hx htk ht9, ?_⟩; refine S.keep ?_; repeat (first | exact trivial | refine ⟨rfl, ?_⟩)) | (have ht9 : t = false := (by assumption); refine ⟨nm.length - (k + 1), by omega, k + 1, (x == y.1), rfl, by omega, take_f hx htk ht9, ?_⟩; refine S.keep ?_; repeat (first | exact trivial | refine ⟨rfl, ?_⟩)) | trace_state)) : p := h
theorem zzEwJ1 {p : Prop} (h : p := by (have S' := frz1 S; clear S; obtain ⟨Fz, hFz, hbz, S⟩ := S'; refine ⟨Fz, b18, [.int .u8 (D.2.1.k : Int), .int .i64 D.2.1.n, .string (bs D.2.1.s), .slice xa108 D.2.2.len xb108],  mn, cels_of (show Fz b18 = some (.cells ⟨[.int .u8 (D.2.1.k : Int), .int .i64 D.2.1.n, .string (bs D.2.1.s), .slice xa108 D.2.2.len xb108]⟩ _ (0, 0)) from hbz), q108.mono hFz, ?_⟩; refine S.keep ?_; repeat (first | exact trivial | refine ⟨rfl, ?_⟩))) : p := h
theorem zzEwJ2 {p : Prop} (h : p := by (have S' := frz1 S; clear S; obtain ⟨Fz, hFz, hbz, S⟩ := S'; refine ⟨Fz, b16, [.int .u8 (C.2.1.k : Int), .int .i64 C.2.1.n, .string (bs C.2.1.s), .slice xa96 C.2.2.len xb96],  mn, cels_of (show Fz b16 = some (.cells ⟨[.int .u8 (C.2.1.k : Int), .int .i64 C.2.1.n, .string (bs C.2.1.s), .slice xa96 C.2.2.len xb96]⟩ _ (0, 0)) from hbz), q96.mono hFz, ?_⟩; refine S.keep ?_; repeat (first | exact trivial | refine ⟨rfl, ?_⟩))) : p := h
theorem zzEwJ3 {p : Prop} (h : p := by (have S' := frz1 S; clear S; obtain ⟨Fz, hFz, hbz, S⟩ := S'; refine ⟨Fz, b14, [.int .u8 (B.2.1.k : Int), .int .i64 B.2.1.n, .string (bs B.2.1.s), .slice xa75 B.2.2.len xb75],  mn, cels_of (show Fz b14 = some (.cells ⟨[.int .u8 (B.2.1.k : Int), .int .i64 B.2.1.n, .string (bs B.2.1.s), .slice xa75 B.2.2.len xb75]⟩ _ (0, 0)) from hbz), q75.mono hFz, ?_⟩; refine S.keep ?_; repeat (first | exact trivial | refine ⟨rfl, ?_⟩))) : p := h
theorem zzEwJ4 {p : Prop} (h : p := by (have S' := frz1 S; clear S; obtain ⟨Fz, hFz, hbz, S⟩ := S'; refine ⟨Fz, b9, [.int .u8 (A.2.1.k : Int), .int .i64 A.2.1.n, .string (bs A.2.1.s), .slice xa44 A.2.2.len xb44], A, eA, (by omega), mn, cels_of (show Fz b9 = some (.cells ⟨[.int .u8 (A.2.1.k : Int), .int .i64 A.2.1.n, .string (bs A.2.1.s), .slice xa44 A.2.2.len xb44]⟩ _ (0, 0)) from hbz), q44.mono hFz, ?_⟩; refine S.keep ?_; repeat (first | exact trivial | refine ⟨rfl, ?_⟩))) : p := h
set_option maxRecDepth 20000 in
set_option maxHeartbeats 64000000 in
theorem evalUnseenCt (F : Heap) (hT : TabF F) (hE : ErrF F) (e o : Ex) (vs : List Bd) (y : Bd) (ce co cy0 : List Value) (vv : Value) (hNe : NEe e) (hde : dpE e.2 ≤ 2000000) (hNo : NEe o) (hdo : dpE o.2 ≤ 2000000) (hNB : NB vs) (hNY : NB [y]) (hX0 : ExC F ce e.1 e.2) (hO0 : ExC F co o.1 o.2) (hv : LiM F 5 BdR vv vs) (hY0 : BdR F y cy0) :
    Ct Tryz.prog 4 [.agg ⟨ce⟩, .agg ⟨co⟩, vv, .agg ⟨cy0⟩] F [] (fun _ _ u => u = .bool true) := by
  have hXc := hX0
  obtain ⟨a1, n1, m1, a2, m2, rfl, -, -⟩ := exc_slc hXc
  clear hXc
  have hOc := hO0
  obtain ⟨a5, n5, m5, a6, m6, rfl, -, -⟩ := exc_slc hOc
  clear hOc
  have hYc := hY0
  obtain ⟨c9, rfl, hVy⟩ := hYc
  have hVc := hVy
  obtain ⟨ay, cy, rfl, -, -⟩ := vac_slc hVc
  clear hVc
  have hvc := hv
  obtain ⟨av, cv, rfl, -, -⟩ := hvc
  refine Ct.enter Tryz.func4 rfl Tryz.ntmps4 rfl fun w0 a S => ?_
  refine wp_sr fun Z hZ => ?_
  (refine wpl_box S rfl rfl rfl rfl rfl ?_; clear S a; intro b4 a w S)
  (refine wpl_box S rfl rfl rfl rfl rfl ?_; clear S a; intro b5 a w S)
  (refine wpl_box S rfl rfl rfl rfl rfl ?_; clear S a; intro b7 a w S)
  (revert S a; revert hZ Z; refine go11 4 ?_; intro Z hZ a S)
  (refine wp_seq_k ?_; intro Z hZ)
  (have S' := frz1 S; clear S; obtain ⟨Fa, hFa, hb7, S⟩ := S'; have S' := frz1 S; clear S; obtain ⟨Fb, hFb, hb5, S⟩ := S'; have S' := frz1 S; clear S; obtain ⟨Fc, hFc, hb4, S⟩ := S'; have c7 : Cels Fc b7 0 [.string (bs y.1), .int .u8 (y.2.1.k : Int), .int .i64 y.2.1.n, .string (bs y.2.1.s), .slice ay y.2.2.len cy] := Cels.mono (fun b o h => hFc _ _ (hFb _ _ h)) (cels_of (show Fa b7 = some (.cells ⟨[.string (bs y.1), .int .u8 (y.2.1.k : Int), .int .i64 y.2.1.n, .string (bs y.2.1.s), .slice ay y.2.2.len cy]⟩ _ (0, 0)) from hb7)); have c5 : Cels Fc b5 0 (exl o a5 n5 m5 a6 m6) := Cels.mono (fun b o h => hFc _ _ h) (cels_of (show Fb b5 = some (.cells ⟨exl o a5 n5 m5 a6 m6⟩ _ (0, 0)) from hb5)); have c4 : Cels Fc b4 0 (exl e a1 n1 m1 a2 m2) := Cels.mono (fun _ _ h => h) (cels_of (show Fc b4 = some (.cells ⟨exl e a1 n1 m1 a2 m2⟩ _ (0, 0)) from hb4)); have hXc : ExC Fc (exl e a1 n1 m1 a2 m2) e.1 e.2 := hX0.mono (fun b o h => hFc _ _ (hFb _ _ (hFa _ _ h))); have hOc : ExC Fc (exl o a5 n5 m5 a6 m6) o.1 o.2 := hO0.mono (fun b o h => hFc _ _ (hFb _ _ (hFa _ _ h))); have hYc : BdR Fc y [.string (bs y.1), .int .u8 (y.2.1.k : Int), .int .i64 y.2.1.n, .string (bs y.2.1.s), .slice ay y.2.2.len cy] := Mon.h (fun b o h => hFc _ _ (hFb _ _ (hFa _ _ h))) hY0; have hvc := hv.mono (fun b o h => hFc _ _ (hFb _ _ (hFa _ _ h))))
  refine wp_region_lit ?_
  (refine wpl_call0 S rfl rfl rfl rfl rfl rfl (worksCt Fc (hT.mono (fun b o h => hFc _ _ (hFb _ _ (hFa _ _ h)))) (hE.mono (fun b o h => hFc _ _ (hFb _ _ (hFa _ _ h))))) rfl ?_; clear S a; intro v a w hv S; subst hv)
  skip
  (revert S a; refine go00 3 ?_; intro a S)
  (refine wpl_v S rfl rfl rfl (sv_loadAF S rfl rfl (Cels.mono (fun _ _ h => h) c4) (by rfl)) ?_; clear S a; intro a S)
  (revert S a; refine go00 3 ?_; intro a S)
  (refine wpl_call0 S rfl rfl rfl rfl rfl rfl (llargeCt Fc e _ vs _ hNe hde hNB hXc hvc) rfl ?_; clear S a; intro v a w hv S; subst hv)
  (revert S a; refine go00 2 ?_; intro a S)
  refine wpl_guard S rfl rfl rfl rfl rfl ?_ ?_
  · (clear S; intro h S; (try simp only [tq] at h))
    (refine wpl_v S rfl rfl rfl (sv_loadAF S rfl rfl (Cels.mono (fun _ _ h => h) c5) (by rfl)) ?_; clear S a; intro a S)
    refine wpl_take S rfl rfl rfl ?_
    (refine wpl_v S rfl rfl rfl (sv_loadAF S rfl rfl (Cels.mono (fun _ _ h => h) c7) (by rfl)) ?_; clear S a; intro a S)
    refine wpl_take S rfl rfl rfl ?_
    (refine wpl_buildSlice S rfl rfl rfl rfl rfl rfl (by rfl) (by simp [Value.cells, splice]) rfl (by rfl) (by rfl) ?_; clear S a; intro b30 a w hown2 S; have S' := frz1 S; clear S; obtain ⟨Fd, hFd, hb30, S⟩ := S'; have k30 : LiM Fd 5 BdR (.slice (some ⟨b30, 0, none⟩) 1 1) [y] := lim_of (l := ([y] : List Bd)) hb30 (LiC.one rfl (Mon.h hFd hYc)) (show 1 ≤ _ by decide))
    refine wpl_take S rfl rfl rfl ?_
    (refine wpl_call0 S rfl rfl rfl rfl rfl rfl (llargeCt Fd o _ [y] _ hNo hdo hNY (hOc.mono (fun b o h => hFd _ _ h)) k30) rfl ?_; clear S a; intro v a w hv S; subst hv)
    (revert S a; refine go00 2 ?_; intro a S)
    refine wpl_guard S rfl rfl rfl rfl rfl ?_ ?_
    · (clear S; intro h S; (try simp only [tq] at h))
      (revert S a; refine go00 2 ?_; intro a S)
      (refine wpl_v S rfl rfl rfl (sv_loadAF S rfl rfl (Cels.mono (fun b o h => hFd _ _ h) (Cels.drop c7 1)) (by rfl)) ?_; clear S a; intro a S)
      refine wpl_take S rfl rfl rfl ?_
      (have hl1 : lgO e vs < 1500 := (by omega); have hl2 : lgO o [y] < 1500 := (by omega); obtain ⟨gE, gB⟩ := lgO_ok hl1 hNe hNB; obtain ⟨gO, gY⟩ := lgO_ok hl2 hNo hNY; have gy := gY y (List.mem_singleton.2 rfl); have hvn := lgO_len hl1; have hvz : ∀ x ∈ vs, x.2.2.size ≤ 100000000 := (fun x hx => Nat.le_trans (gB x hx).2.2 (by decide)); have hen : e.2.size ≤ 1000000 := ptE_size (lgO_pt hl1); refine wpl_call0 S rfl rfl rfl rfl rfl rfl (rcheckCt Fd y.2 _ (Nat.le_trans gy.2.2 (by decide)) (VaC.mono (fun b o h => hFd _ _ (hFc _ _ (hFb _ _ (hFa _ _ h)))) hVy)) rfl ?_; clear S a; intro v a w hv S; subst hv)
      (revert S a; revert hZ Z; refine go10 5 ?_; intro a S)
      refine wpc_split S rfl (fun h => ?_) (fun h => ?_)
      · (skip; (try simp only [tq] at h))
        refine wp_sr fun Z hZ => ?_
        (refine wpl_call0 S rfl rfl rfl rfl rfl rfl (by first | exact worksCt Fd (hT.mono (fun b o h => hFd _ _ (hFc _ _ (hFb _ _ (hFa _ _ h))))) (hE.mono (fun b o h => hFd _ _ (hFc _ _ (hFb _ _ (hFa _ _ h))))) | exact worksCt Fc (hT.mono (fun b o h => hFc _ _ (hFb _ _ (hFa _ _ h)))) (hE.mono (fun b o h => hFc _ _ (hFb _ _ (hFa _ _ h))))) rfl ?_; clear S a; intro v a w hv S; subst hv)
        skip
        (revert S a; revert hZ Z; refine go10 3 ?_; intro a S)
        refine wp_ret (fin_ret S (results1 Tryz.results4 (RV.tmp S rfl)) ?_)
        (first | rfl | trace_state)
      (skip; (try simp only [tq] at h))
      refine wp_skip ?_
      (refine hZ _ _ ?_; clear hZ Z)
      (refine wp_seq_k ?_; intro Z hZ)
      replace hZ : ∀ (a' : Act) (w' : World), (∃ (Fe : Heap) (b9 : Nat) (cA : List Value) (A : Ans), evalO [] vs e.1 e.2 = A ∧ rcheckV y.2.1 y.2.2 = 0 ∧ (∀ b o, Fd b = some o → Fe b = some o) ∧ Cels Fe b9 0 cA ∧ VaC Fe cA A.2.1 A.2.2 ∧ St 136 [(2, .slice av vs.length cv), (4, ptr b4), (5, ptr b5), (7, ptr b7), (8, .bool false), (9, ptr b9), (10, .int .i64 A.1)] w0 F [] Fe [] a' w') → Z a' w' := (by
       (intro a w hM; refine hZ _ _ ?_; clear hZ Z; clear S; obtain ⟨Fe, b9, cA, A, eA, hck, hFe, c9, qA, S⟩ := hM)
       (refine wp_seq_k ?_; intro Z hZ)
       (have hmy : mayV y.2 = true := decide_eq_true (rcheck_ok hck); have qAc := qA; obtain ⟨xaA, xbA, exA, -, -⟩ := vac_slc qAc; subst exA)
       (revert S a; revert hZ Z; refine go11 5 ?_; intro Z hZ a S)
       (refine wpl_v S rfl rfl rfl (sv_loadAF S rfl rfl (Cels.mono (fun b o h => hFe _ _ (hFd _ _ h)) c4) (by rfl)) ?_; clear S a; intro a S)
       (refine wpl_call (Gs := [[]]) (Gr := []) S rfl rfl rfl rfl rfl rfl (lvarsCt (e.2.size + 1) Fe e _ (.slice none 0 0) [] [] (Nat.lt_succ_self _) (show 0 + _ ≤ _ by omega) (hXc.mono (fun b o h => hFe _ _ (hFd _ _ h))) (OwnS.nil _ _)) rfl (by simp) ?_; clear S a; intro u48 F48 G9 a w hv48 hF48 S; obtain ⟨g48, rfl, hown48⟩ := hv48; replace S := consG (g := g48) S; generalize hnm : namesE e.1 e.2 = nm at hown48; replace hown48 : OwnS _ 1 _ nm.length (strs nm) g48 := hown48; have hnl : nm.length ≤ 1000001 := (by rw [← hnm]; exact Nat.le_trans (namesE_len e) (by omega)); have hFn := add_le (G1 := []) S; have S' := St.freeze (G1 := []) S; clear S; have S := S'; clear S'; (try simp only [List.nil_append] at S); have kn : LiM (Heap.add F48 g48) 1 StR _ nm := LiC.lim hown48 (lic_strs nm) rfl hFn (by omega); generalize hgFn : Heap.add F48 g48 = Fn at S hFn kn; clear hgFn; obtain ⟨an, cn, rfl, -, hpn⟩ := kn)
       (revert S a; revert hZ Z; refine go11 9 ?_; intro Z hZ a S)
       refine wpc_loop (fun m a' w' => ∃ (k : Nat) (t : Bool), m = nm.length - k ∧ k ≤ nm.length ∧ t = decide (y.1 ∈ nm.take k) ∧ St 136 [(2, .slice av vs.length cv), (4, ptr b4), (5, ptr b5), (7, ptr b7), (8, .bool false), (9, ptr b9), (10, .int .i64 A.1), (11, .bool t), (12, .slice an nm.length cn), (13, .int .i64 (k : Int))] w0 F [] Fn [] a' w') ?_ ?_
       · (refine ⟨nm.length, 0, false, by omega, Nat.zero_le _, rfl, ?_⟩; refine S.keep ?_; repeat (first | exact trivial | refine ⟨rfl, ?_⟩))
       (clear S; rintro m a w ⟨k, t, rfl, hkl, htk, S⟩)
       (revert S a; refine go01 8 ?_; intro Z hZ a S)
       refine wpc_split S rfl (fun h => ?_) (fun h => ?_)
       · (skip; (try simp only [tq] at h))
         (revert S a; revert hZ Z; refine go11 4 ?_; intro Z hZ a S)
         (obtain ⟨bo, oo, hao, x, cs1, hx, hc1, hR1⟩ := LiM.pos hpn (k := k) (by omega); subst hR1; rw [hao] at S; have c7n := Cels.mono (fun b o h => hFn _ _ (hF48 _ _ (hFe _ _ (hFd _ _ h)))) c7)
         (refine wpc_mixM [0, 1, 2, 3, 4, 5, 6, 7, 8, 9] [5, 7] [] (.one 0 (.one 1 (.one 2 (.one 3 (.one 4 (.one 5 (.one 6 (.one 7 (.one 8 (.one 9 (.one 10 .nil))))))))))) [] S mixed (by kernel_rfl) ?_; clear S; intro w S)
         iterate 2 (refine wpm_p S rfl rfl rfl (want_none _ rfl) rfl rfl ?_; clear S a; intro a S)
         refine St.part (dj := 56) (want := false) S rfl ?_ ?_
         · (clear S; intro h S; (try simp only [tq] at h))
           iterate 2 (refine wpm_p S rfl rfl rfl (want_yes S rfl rfl rfl) rfl rfl ?_; clear S a; intro a S)
           (refine wpm_i S rfl rfl rfl (want_yes S rfl rfl rfl) rfl rfl ?_; clear S a; intro a S)
           (refine wpm_lateF S rfl rfl rfl (want_yes S rfl rfl rfl) rfl rfl (fun w' S => sv_loadF S rfl rfl (hc1 0 _ rfl)) ?_; clear S a; intro a S)
           (refine wpm_f S rfl rfl rfl (want_yes S rfl rfl rfl) rfl rfl ?_; clear S a; intro a S)
           (refine wpm_lateF S rfl rfl rfl (want_yes S rfl rfl rfl) rfl rfl (fun w' S => sv_loadF S rfl rfl (c7n 0 _ rfl)) ?_; clear S a; intro a S)
           (refine wpm_p S rfl rfl rfl (want_yes S rfl rfl rfl) rfl rfl ?_; clear S a; intro a S)
           (refine wpm_p S rfl rfl rfl (want_none _ rfl) rfl rfl ?_; clear S a; intro a S)
           refine wpm_eff rfl rfl (kwa S) ?_
           (revert S a; refine go00 2 ?_; intro a S)
           refine wpm_nil (kwa S) ?_
           (revert S a; revert hZ Z; refine go10 6 ?_; intro a S)
           change ∃ m', _ ∧ _
           exact zzEwJ0
         (clear S; intro h S; (try simp only [tq] at h))
         iterate 7 (refine wpm_skip S rfl rfl (want_no S rfl rfl rfl) rfl rfl ?_; clear S a; intro a S)
         (refine wpm_p S rfl rfl rfl (want_none _ rfl) rfl rfl ?_; clear S a; intro a S)
         refine wpm_eff rfl rfl (kwa S) ?_
         (revert S a; refine go00 2 ?_; intro a S)
         refine wpm_nil (kwa S) ?_
         (revert S a; revert hZ Z; refine go10 6 ?_; intro a S)
         change ∃ m', _ ∧ _
         exact zzEwJ0
       (skip; (try simp only [tq] at h))
       (refine wp_exit ?_; conv => whnf)
       clear hZ Z
       (refine hZ _ _ ?_; clear hZ Z)
       (refine wp_seq_k ?_; intro Z hZ)
       replace hZ : ∀ (a' : Act) (w' : World), (∃ (Fg : Heap) (C D : Ans), evalO [] vs ifE (.cons (litE2 true) .nil (.cons e.1 e.2 (.cons o.1 o.2 .nil))) = C ∧ evalO [] vs ifE (.cons (litE2 false) .nil (.cons o.1 o.2 (.cons e.1 e.2 .nil))) = D ∧ (∀ b o, Fn b = some o → Fg b = some o) ∧ St 136 [(2, .slice av vs.length cv), (4, ptr b4), (5, ptr b5), (9, ptr b9), (10, .int .i64 A.1)] w0 F [] Fg [] a' w') → Z a' w' := (by
        (intro a w hM; refine hZ _ _ ?_; clear hZ Z; clear S; obtain ⟨Fg, C, D, eC, eD, hFg, S⟩ := hM)
        (refine wp_seq_k ?_; intro Z hZ)
        replace hZ : ∀ (a' : Act) (w' : World), (∃ (Fh : Heap) (b16 : Nat) (cC : List Value), (∀ b o, Fg b = some o → Fh b = some o) ∧ Cels Fh b16 0 cC ∧ VaC Fh cC C.2.1 C.2.2 ∧ St 136 [(2, .slice av vs.length cv), (4, ptr b4), (5, ptr b5), (9, ptr b9), (10, .int .i64 A.1), (16, ptr b16), (17, .int .i64 C.1)] w0 F [] Fh [] a' w') → Z a' w' := (by
         (intro a w hM; refine hZ _ _ ?_; clear hZ Z; clear S; obtain ⟨Fh, b16, cC, hFh, c16, qC, S⟩ := hM)
         (refine wp_seq_k ?_; intro Z hZ)
         replace hZ : ∀ (a' : Act) (w' : World), (∃ (Fi : Heap) (b18 : Nat) (cD : List Value), (∀ b o, Fh b = some o → Fi b = some o) ∧ Cels Fi b18 0 cD ∧ VaC Fi cD D.2.1 D.2.2 ∧ St 136 [(2, .slice av vs.length cv), (4, ptr b4), (5, ptr b5), (9, ptr b9), (10, .int .i64 A.1), (16, ptr b16), (17, .int .i64 C.1), (18, ptr b18), (19, .int .i64 D.1)] w0 F [] Fi [] a' w') → Z a' w' := (by
          (intro a w hM; refine hZ _ _ ?_; clear hZ Z; clear S; obtain ⟨Fi, b18, cD, hFi, c18, qD, S⟩ := hM)
          iterate 2 (refine wp_seq_k ?_; intro Z hZ)
          (have qCc := qC; obtain ⟨xaC, xbC, exC, -, -⟩ := vac_slc qCc; subst exC; have qDc := qD; obtain ⟨xaD, xbD, exD, -, -⟩ := vac_slc qDc; subst exD; have hun := unseen (cs := []) (vs := vs) (h := e.1) (h2 := o.1) (L := e.2) (L2 := o.2); have hDC : D = C := (by rw [← eD, ← eC]; exact hun.1.symm); have hun2 := hun.2; rw [eC, eA] at hun2)
          (revert S a; refine go00 3 ?_; intro a S)
          (refine wpl_v S rfl rfl rfl (sv_lit (c := false) (sv_pure S rfl) (by (rw [hDC]; simp))) ?_; clear S a; intro a S)
          (revert S a; refine go00 2 ?_; intro a S)
          (refine wpl_v S rfl rfl rfl (sv_loadAF S rfl rfl (Cels.mono (fun b o h => hFi _ _ h) c16) (by rfl)) ?_; clear S a; intro a S)
          refine wpl_take S rfl rfl rfl ?_
          (refine wpl_v S rfl rfl rfl (sv_loadAF S rfl rfl (Cels.mono (fun _ _ h => h) c18) (by rfl)) ?_; clear S a; intro a S)
          refine wpl_take S rfl rfl rfl ?_
          (refine wpl_call0 S rfl rfl rfl rfl rfl rfl (sameCt (C.2.2.size + 1) Fi C.2 D.2 _ _ (Nat.lt_succ_self _) (qC.mono (fun b o h => hFi _ _ h)) qD) rfl ?_; clear S a; intro v a w hv S; subst hv)
          (rw [sameV_iff.2 (show C.2 = D.2 by rw [hDC])] at S)
          (revert S a; revert hZ Z; refine go10 5 ?_; intro a S)
          refine wpc_false S rfl ?_
          (revert S a; revert hZ Z; refine go11 6 ?_; intro Z hZ a S)
          refine wpl_guard S rfl rfl rfl rfl rfl ?_ ?_
          · (clear S; intro h S; (try simp only [tq] at h))
            (revert S a; refine go00 5 ?_; intro a S)
            refine wpl_guard S rfl rfl rfl rfl rfl ?_ ?_
            · (clear S; intro h S; (try simp only [tq] at h))
              (revert S a; refine go00 4 ?_; intro a S)
              (refine wpl_v S rfl rfl rfl (sv_lit (c := true) (sv_pure S rfl) (by (rw [hun2 (by omega) (by omega)]; simp))) ?_; clear S a; intro a S)
              (revert S a; refine go00 3 ?_; intro a S)
              (refine wpl_v S rfl rfl rfl (sv_loadAF S rfl rfl (Cels.mono (fun b o h => hFi _ _ h) c16) (by rfl)) ?_; clear S a; intro a S)
              refine wpl_take S rfl rfl rfl ?_
              (refine wpl_v S rfl rfl rfl (sv_loadAF S rfl rfl (Cels.mono (fun b o h => hFi _ _ (hFh _ _ (hFg _ _ (hFn _ _ (hF48 _ _ h))))) c9) (by rfl)) ?_; clear S a; intro a S)
              refine wpl_take S rfl rfl rfl ?_
              (refine wpl_call0 S rfl rfl rfl rfl rfl rfl (sameCt (C.2.2.size + 1) Fi C.2 A.2 _ _ (Nat.lt_succ_self _) (qC.mono (fun b o h => hFi _ _ h)) (qA.mono (fun b o h => hFi _ _ (hFh _ _ (hFg _ _ (hFn _ _ (hF48 _ _ h))))))) rfl ?_; clear S a; intro v a w hv S; subst hv)
              (rw [sameV_iff.2 (show C.2 = A.2 by rw [hun2 (by omega) (by omega)])] at S)
              (revert S a; revert hZ Z; refine go10 6 ?_; intro a S)
              refine wp_ret (fin_ret S (results1 Tryz.results4 (RV.tmp S rfl)) ?_)
              (first | rfl | trace_state)
            (intro h; clear S a; intro a S; (try simp only [tq] at h))
            (revert S a; refine go00 3 ?_; intro a S)
            iterate 3 (refine wpl_skipU S rfl rfl rfl rfl rfl ?_; clear S a; intro a S)
            (revert S a; revert hZ Z; refine go10 5 ?_; intro a S)
            refine wp_ret (fin_ret S (results1 Tryz.results4 (RV.tmp S rfl)) ?_)
            (first | rfl | trace_state)
          (intro h; clear S a; intro a S; (try simp only [tq] at h))
          (revert S a; refine go00 7 ?_; intro a S)
          iterate 3 (refine wpl_skipU S rfl rfl rfl rfl rfl ?_; clear S a; intro a S)
          (revert S a; revert hZ Z; refine go10 5 ?_; intro a S)
          refine wp_ret (fin_ret S (results1 Tryz.results4 (RV.tmp S rfl)) ?_)
          (first | rfl | trace_state))
         (refine wpc_mixM [2, 3, 5, 6, 9, 10, 11] [2, 3] [] (.one 2 (.one 3 (.one 6 (.two 0 12 (.two 1 12 (.three 4 7 12 (.one 5 (.two 7 12 (.two 8 12 (.one 9 (.one 10 (.one 11 (.one 12 (.one 13 (.one 14 .nil)))))) (.one 8 (.one 9 (.one 10 (.one 11 (.one 13 (.one 14 .nil))))))) (.one 7 (.one 8 (.one 9 (.one 10 (.one 11 (.one 13 (.one 14 .nil))))))))) (.two 4 12 (.one 5 (.two 8 12 (.one 9 (.one 10 (.one 11 (.one 12 (.one 13 (.one 14 .nil)))))) (.one 8 (.one 9 (.one 10 (.one 11 (.one 13 (.one 14 .nil)))))))) (.one 4 (.one 5 (.one 8 (.one 9 (.one 10 (.one 11 (.one 13 (.one 14 .nil))))))))) (.two 4 7 (.one 5 (.one 7 (.one 8 (.one 9 (.one 10 (.one 11 (.one 13 (.one 14 .nil)))))))) (.one 4 (.one 5 (.one 8 (.one 9 (.one 10 (.one 11 (.one 13 (.one 14 .nil)))))))))) (.one 1 (.two 4 7 (.one 5 (.one 7 (.one 8 (.one 9 (.one 10 (.one 11 (.one 13 (.one 14 .nil)))))))) (.one 4 (.one 5 (.one 8 (.one 9 (.one 10 (.one 11 (.one 13 (.one 14 .nil))))))))))) (.one 0 (.one 1 (.two 4 7 (.one 5 (.one 7 (.one 8 (.one 9 (.one 10 (.one 11 (.one 13 (.one 14 .nil)))))))) (.one 4 (.one 5 (.one 8 (.one 9 (.one 10 (.one 11 (.one 13 (.one 14 .nil))))))))))))))) [] S mixed (by kernel_rfl) ?_; clear S; intro w S)
         (refine wpm_lateF S rfl rfl rfl (want_none _ rfl) rfl rfl (fun w' S => sv_loadAF S rfl rfl (Cels.mono (fun b o h => hFh _ _ (hFg _ _ (hFn _ _ (hF48 _ _ (hFe _ _ (hFd _ _ h)))))) c5) (by rfl)) ?_; clear S a; intro a S)
         (refine wpm_lateF S rfl rfl rfl (want_none _ rfl) rfl rfl (fun w' S => sv_loadAF S rfl rfl (Cels.mono (fun b o h => hFh _ _ (hFg _ _ (hFn _ _ (hF48 _ _ (hFe _ _ (hFd _ _ h)))))) c4) (by rfl)) ?_; clear S a; intro a S)
         (refine wpm_p S rfl rfl rfl (want_none _ rfl) rfl rfl ?_; clear S a; intro a S)
         refine wpm_two rfl rfl (kwa S) ?_ ?_
         · skip
           (refine wpl_callF S rfl rfl rfl rfl rfl rfl (ltruthCt Fh _) rfl ?_; clear S a; intro v100 F100 a w hv hF100 S; obtain ⟨c100, rfl, -, r100⟩ := hv; obtain ⟨xa100, xb100, he100, -, -⟩ := vac_slc (ror_vac r100); subst he100)
           refine wpList_nil ?_
           refine wpm_two rfl rfl (kwa S) ?_ ?_
           · skip
             (refine wpl_callF S rfl rfl rfl rfl rfl rfl (llitCt F100 _ _ r100) rfl ?_; clear S a; intro v101 F101 a w hv hF101 S; obtain ⟨c101, rfl, -, r101⟩ := hv; obtain ⟨xa101, xb101, xc101, xd101, xe101, he101, -, -⟩ := exc_slc (ror_exc r101); subst he101)
             refine wpList_nil ?_
             refine wpm_three rfl rfl rfl (kwa S) ?_ ?_ ?_
             · skip
               (refine wpl_sl3 (x := litX (boolV false)) (y := o) (u := e) S rfl rfl rfl rfl rfl rfl rfl rfl (Mon.h mn r101) (exc_ror (hOc.mono mn)) (exc_ror (hXc.mono mn)) ?_; clear S a; intro b104 F104 a w hF104 k104 S)
               refine wpList_nil ?_
               (refine wpm_b S rfl rfl rfl (want_none _ rfl) rfl rfl ?_; clear S a; intro a S)
               refine wpm_two rfl rfl (kwa S) ?_ ?_
               · skip
                 (refine wpl_bind S rfl rfl rfl rfl rfl rfl hvn hvz (hvc.mono mn) ?_; clear S a; intro ab107 cb107 Fy107 a w hFy107 k107 S)
                 refine wpList_nil ?_
                 refine wpm_two rfl rfl (kwa S) ?_ ?_
                 · skip
                   (refine wpl_ev0 S rfl rfl rfl rfl rfl rfl (hT.mono mn) (hE.mono mn) (k107.mono mn) gB (exc_if (k104.mono mn)) (GE_if (x := litX (boolV false)) (y := o) (z := e) (GE_truth _) gO gE) eD ?_; clear S a; intro xa108 xb108 F108 a w hF108 q108 S)
                   refine wpList_nil ?_
                   iterate 3 (refine wpm_p S rfl rfl rfl (want_none _ rfl) rfl rfl ?_; clear S a; intro a S)
                   refine wpm_eff rfl rfl (kwa S) ?_
                   (refine wpl_alloc S rfl rfl rfl rfl ?_; clear S a; intro b18 a w S)
                   refine wpList_nil ?_
                   refine wpm_eff rfl rfl (kwa S) ?_
                   (refine wpl_storeO S rfl rfl rfl rfl rfl (by rfl) (by simp [Value.cells, Value.oneCell', splice]) (by rfl) ?_; clear S; intro w S)
                   refine wpList_nil ?_
                   refine wpm_eff rfl rfl (kwa S) ?_
                   (revert S a; refine go00 2 ?_; intro a S)
                   refine wpm_nil (kwa S) ?_
                   (refine hZ _ _ ?_)
                   exact zzEwJ1
                 skip
                 (refine wpl_alloc S rfl rfl rfl rfl ?_; clear S a; intro b18 a w S)
                 refine wpList_nil ?_
                 refine wpm_eff rfl rfl (kwa S) ?_
                 (refine wpl_ev0 S rfl rfl rfl rfl rfl rfl (hT.mono mn) (hE.mono mn) (k107.mono mn) gB (exc_if (k104.mono mn)) (GE_if (x := litX (boolV false)) (y := o) (z := e) (GE_truth _) gO gE) eD ?_; clear S a; intro xa108 xb108 F108 a w hF108 q108 S)
                 refine wpList_nil ?_
                 iterate 3 (refine wpm_p S rfl rfl rfl (want_none _ rfl) rfl rfl ?_; clear S a; intro a S)
                 refine wpm_eff rfl rfl (kwa S) ?_
                 (refine wpl_storeO S rfl rfl rfl rfl rfl (by rfl) (by simp [Value.cells, Value.oneCell', splice]) (by rfl) ?_; clear S; intro w S)
                 refine wpList_nil ?_
                 refine wpm_eff rfl rfl (kwa S) ?_
                 (revert S a; refine go00 2 ?_; intro a S)
                 refine wpm_nil (kwa S) ?_
                 (refine hZ _ _ ?_)
                 exact zzEwJ1
               skip
               (refine wpl_alloc S rfl rfl rfl rfl ?_; clear S a; intro b18 a w S)
               refine wpList_nil ?_
               refine wpm_eff rfl rfl (kwa S) ?_
               (refine wpl_bind S rfl rfl rfl rfl rfl rfl hvn hvz (hvc.mono mn) ?_; clear S a; intro ab107 cb107 Fy107 a w hFy107 k107 S)
               refine wpList_nil ?_
               refine wpm_eff rfl rfl (kwa S) ?_
               (refine wpl_ev0 S rfl rfl rfl rfl rfl rfl (hT.mono mn) (hE.mono mn) (k107.mono mn) gB (exc_if (k104.mono mn)) (GE_if (x := litX (boolV false)) (y := o) (z := e) (GE_truth _) gO gE) eD ?_; clear S a; intro xa108 xb108 F108 a w hF108 q108 S)
               refine wpList_nil ?_
               iterate 3 (refine wpm_p S rfl rfl rfl (want_none _ rfl) rfl rfl ?_; clear S a; intro a S)
               refine wpm_eff rfl rfl (kwa S) ?_
               (refine wpl_storeO S rfl rfl rfl rfl rfl (by rfl) (by simp [Value.cells, Value.oneCell', splice]) (by rfl) ?_; clear S; intro w S)
               refine wpList_nil ?_
               refine wpm_eff rfl rfl (kwa S) ?_
               (revert S a; refine go00 2 ?_; intro a S)
               refine wpm_nil (kwa S) ?_
               (refine hZ _ _ ?_)
               exact zzEwJ1
             · skip
               (refine wpl_bind S rfl rfl rfl rfl rfl rfl hvn hvz (hvc.mono mn) ?_; clear S a; intro ab107 cb107 Fy107 a w hFy107 k107 S)
               refine wpList_nil ?_
               refine wpm_two rfl rfl (kwa S) ?_ ?_
               · skip
                 (refine wpl_sl3 (x := litX (boolV false)) (y := o) (u := e) S rfl rfl rfl rfl rfl rfl rfl rfl (Mon.h mn r101) (exc_ror (hOc.mono mn)) (exc_ror (hXc.mono mn)) ?_; clear S a; intro b104 F104 a w hF104 k104 S)
                 refine wpList_nil ?_
                 (refine wpm_b S rfl rfl rfl (want_none _ rfl) rfl rfl ?_; clear S a; intro a S)
                 refine wpm_two rfl rfl (kwa S) ?_ ?_
                 · skip
                   (refine wpl_ev0 S rfl rfl rfl rfl rfl rfl (hT.mono mn) (hE.mono mn) (k107.mono mn) gB (exc_if (k104.mono mn)) (GE_if (x := litX (boolV false)) (y := o) (z := e) (GE_truth _) gO gE) eD ?_; clear S a; intro xa108 xb108 F108 a w hF108 q108 S)
                   refine wpList_nil ?_
                   iterate 3 (refine wpm_p S rfl rfl rfl (want_none _ rfl) rfl rfl ?_; clear S a; intro a S)
                   refine wpm_eff rfl rfl (kwa S) ?_
                   (refine wpl_alloc S rfl rfl rfl rfl ?_; clear S a; intro b18 a w S)
                   refine wpList_nil ?_
                   refine wpm_eff rfl rfl (kwa S) ?_
                   (refine wpl_storeO S rfl rfl rfl rfl rfl (by rfl) (by simp [Value.cells, Value.oneCell', splice]) (by rfl) ?_; clear S; intro w S)
                   refine wpList_nil ?_
                   refine wpm_eff rfl rfl (kwa S) ?_
                   (revert S a; refine go00 2 ?_; intro a S)
                   refine wpm_nil (kwa S) ?_
                   (refine hZ _ _ ?_)
                   exact zzEwJ1
                 skip
                 (refine wpl_alloc S rfl rfl rfl rfl ?_; clear S a; intro b18 a w S)
                 refine wpList_nil ?_
                 refine wpm_eff rfl rfl (kwa S) ?_
                 (refine wpl_ev0 S rfl rfl rfl rfl rfl rfl (hT.mono mn) (hE.mono mn) (k107.mono mn) gB (exc_if (k104.mono mn)) (GE_if (x := litX (boolV false)) (y := o) (z := e) (GE_truth _) gO gE) eD ?_; clear S a; intro xa108 xb108 F108 a w hF108 q108 S)
                 refine wpList_nil ?_
                 iterate 3 (refine wpm_p S rfl rfl rfl (want_none _ rfl) rfl rfl ?_; clear S a; intro a S)
                 refine wpm_eff rfl rfl (kwa S) ?_
                 (refine wpl_storeO S rfl rfl rfl rfl rfl (by rfl) (by simp [Value.cells, Value.oneCell', splice]) (by rfl) ?_; clear S; intro w S)
                 refine wpList_nil ?_
                 refine wpm_eff rfl rfl (kwa S) ?_
                 (revert S a; refine go00 2 ?_; intro a S)
                 refine wpm_nil (kwa S) ?_
                 (refine hZ _ _ ?_)
                 exact zzEwJ1
               skip
               (refine wpl_alloc S rfl rfl rfl rfl ?_; clear S a; intro b18 a w S)
               refine wpList_nil ?_
               refine wpm_eff rfl rfl (kwa S) ?_
               (refine wpl_sl3 (x := litX (boolV false)) (y := o) (u := e) S rfl rfl rfl rfl rfl rfl rfl rfl (Mon.h mn r101) (exc_ror (hOc.mono mn)) (exc_ror (hXc.mono mn)) ?_; clear S a; intro b104 F104 a w hF104 k104 S)
               refine wpList_nil ?_
               (refine wpm_b S rfl rfl rfl (want_none _ rfl) rfl rfl ?_; clear S a; intro a S)
               refine wpm_eff rfl rfl (kwa S) ?_
               (refine wpl_ev0 S rfl rfl rfl rfl rfl rfl (hT.mono mn) (hE.mono mn) (k107.mono mn) gB (exc_if (k104.mono mn)) (GE_if (x := litX (boolV false)) (y := o) (z := e) (GE_truth _) gO gE) eD ?_; clear S a; intro xa108 xb108 F108 a w hF108 q108 S)
               refine wpList_nil ?_
               iterate 3 (refine wpm_p S rfl rfl rfl (want_none _ rfl) rfl rfl ?_; clear S a; intro a S)
               refine wpm_eff rfl rfl (kwa S) ?_
               (refine wpl_storeO S rfl rfl rfl rfl rfl (by rfl) (by simp [Value.cells, Value.oneCell', splice]) (by rfl) ?_; clear S; intro w S)
               refine wpList_nil ?_
               refine wpm_eff rfl rfl (kwa S) ?_
               (revert S a; refine go00 2 ?_; intro a S)
               refine wpm_nil (kwa S) ?_
               (refine hZ _ _ ?_)
               exact zzEwJ1
             skip
             (refine wpl_alloc S rfl rfl rfl rfl ?_; clear S a; intro b18 a w S)
             refine wpList_nil ?_
             refine wpm_two rfl rfl (kwa S) ?_ ?_
             · skip
               (refine wpl_sl3 (x := litX (boolV false)) (y := o) (u := e) S rfl rfl rfl rfl rfl rfl rfl rfl (Mon.h mn r101) (exc_ror (hOc.mono mn)) (exc_ror (hXc.mono mn)) ?_; clear S a; intro b104 F104 a w hF104 k104 S)
               refine wpList_nil ?_
               (refine wpm_b S rfl rfl rfl (want_none _ rfl) rfl rfl ?_; clear S a; intro a S)
               refine wpm_eff rfl rfl (kwa S) ?_
               (refine wpl_bind S rfl rfl rfl rfl rfl rfl hvn hvz (hvc.mono mn) ?_; clear S a; intro ab107 cb107 Fy107 a w hFy107 k107 S)
               refine wpList_nil ?_
               refine wpm_eff rfl rfl (kwa S) ?_
               (refine wpl_ev0 S rfl rfl rfl rfl rfl rfl (hT.mono mn) (hE.mono mn) (k107.mono mn) gB (exc_if (k104.mono mn)) (GE_if (x := litX (boolV false)) (y := o) (z := e) (GE_truth _) gO gE) eD ?_; clear S a; intro xa108 xb108 F108 a w hF108 q108 S)
               refine wpList_nil ?_
               iterate 3 (refine wpm_p S rfl rfl rfl (want_none _ rfl) rfl rfl ?_; clear S a; intro a S)
               refine wpm_eff rfl rfl (kwa S) ?_
               (refine wpl_storeO S rfl rfl rfl rfl rfl (by rfl) (by simp [Value.cells, Value.oneCell', splice]) (by rfl) ?_; clear S; intro w S)
               refine wpList_nil ?_
               refine wpm_eff rfl rfl (kwa S) ?_
               (revert S a; refine go00 2 ?_; intro a S)
               refine wpm_nil (kwa S) ?_
               (refine hZ _ _ ?_)
               exact zzEwJ1
             skip
             (refine wpl_bind S rfl rfl rfl rfl rfl rfl hvn hvz (hvc.mono mn) ?_; clear S a; intro ab107 cb107 Fy107 a w hFy107 k107 S)
             refine wpList_nil ?_
             refine wpm_eff rfl rfl (kwa S) ?_
             (refine wpl_sl3 (x := litX (boolV false)) (y := o) (u := e) S rfl rfl rfl rfl rfl rfl rfl rfl (Mon.h mn r101) (exc_ror (hOc.mono mn)) (exc_ror (hXc.mono mn)) ?_; clear S a; intro b104 F104 a w hF104 k104 S)
             refine wpList_nil ?_
             (refine wpm_b S rfl rfl rfl (want_none _ rfl) rfl rfl ?_; clear S a; intro a S)
             refine wpm_eff rfl rfl (kwa S) ?_
             (refine wpl_ev0 S rfl rfl rfl rfl rfl rfl (hT.mono mn) (hE.mono mn) (k107.mono mn) gB (exc_if (k104.mono mn)) (GE_if (x := litX (boolV false)) (y := o) (z := e) (GE_truth _) gO gE) eD ?_; clear S a; intro xa108 xb108 F108 a w hF108 q108 S)
             refine wpList_nil ?_
             iterate 3 (refine wpm_p S rfl rfl rfl (want_none _ rfl) rfl rfl ?_; clear S a; intro a S)
             refine wpm_eff rfl rfl (kwa S) ?_
             (refine wpl_storeO S rfl rfl rfl rfl rfl (by rfl) (by simp [Value.cells, Value.oneCell', splice]) (by rfl) ?_; clear S; intro w S)
             refine wpList_nil ?_
             refine wpm_eff rfl rfl (kwa S) ?_
             (revert S a; refine go00 2 ?_; intro a S)
             refine wpm_nil (kwa S) ?_
             (refine hZ _ _ ?_)
             exact zzEwJ1
           skip
           (refine wpl_alloc S rfl rfl rfl rfl ?_; clear S a; intro b18 a w S)
           refine wpList_nil ?_
           refine wpm_eff rfl rfl (kwa S) ?_
           (refine wpl_callF S rfl rfl rfl rfl rfl rfl (llitCt F100 _ _ r100) rfl ?_; clear S a; intro v101 F101 a w hv hF101 S; obtain ⟨c101, rfl, -, r101⟩ := hv; obtain ⟨xa101, xb101, xc101, xd101, xe101, he101, -, -⟩ := exc_slc (ror_exc r101); subst he101)
           refine wpList_nil ?_
           refine wpm_two rfl rfl (kwa S) ?_ ?_
           · skip
             (refine wpl_sl3 (x := litX (boolV false)) (y := o) (u := e) S rfl rfl rfl rfl rfl rfl rfl rfl (Mon.h mn r101) (exc_ror (hOc.mono mn)) (exc_ror (hXc.mono mn)) ?_; clear S a; intro b104 F104 a w hF104 k104 S)
             refine wpList_nil ?_
             (refine wpm_b S rfl rfl rfl (want_none _ rfl) rfl rfl ?_; clear S a; intro a S)
             refine wpm_eff rfl rfl (kwa S) ?_
             (refine wpl_bind S rfl rfl rfl rfl rfl rfl hvn hvz (hvc.mono mn) ?_; clear S a; intro ab107 cb107 Fy107 a w hFy107 k107 S)
             refine wpList_nil ?_
             refine wpm_eff rfl rfl (kwa S) ?_
             (refine wpl_ev0 S rfl rfl rfl rfl rfl rfl (hT.mono mn) (hE.mono mn) (k107.mono mn) gB (exc_if (k104.mono mn)) (GE_if (x := litX (boolV false)) (y := o) (z := e) (GE_truth _) gO gE) eD ?_; clear S a; intro xa108 xb108 F108 a w hF108 q108 S)
             refine wpList_nil ?_
             iterate 3 (refine wpm_p S rfl rfl rfl (want_none _ rfl) rfl rfl ?_; clear S a; intro a S)
             refine wpm_eff rfl rfl (kwa S) ?_
             (refine wpl_storeO S rfl rfl rfl rfl rfl (by rfl) (by simp [Value.cells, Value.oneCell', splice]) (by rfl) ?_; clear S; intro w S)
             refine wpList_nil ?_
             refine wpm_eff rfl rfl (kwa S) ?_
             (revert S a; refine go00 2 ?_; intro a S)
             refine wpm_nil (kwa S) ?_
             (refine hZ _ _ ?_)
             exact zzEwJ1
           skip
           (refine wpl_bind S rfl rfl rfl rfl rfl rfl hvn hvz (hvc.mono mn) ?_; clear S a; intro ab107 cb107 Fy107 a w hFy107 k107 S)
           refine wpList_nil ?_
           refine wpm_eff rfl rfl (kwa S) ?_
           (refine wpl_sl3 (x := litX (boolV false)) (y := o) (u := e) S rfl rfl rfl rfl rfl rfl rfl rfl (Mon.h mn r101) (exc_ror (hOc.mono mn)) (exc_ror (hXc.mono mn)) ?_; clear S a; intro b104 F104 a w hF104 k104 S)
           refine wpList_nil ?_
           (refine wpm_b S rfl rfl rfl (want_none _ rfl) rfl rfl ?_; clear S a; intro a S)
           refine wpm_eff rfl rfl (kwa S) ?_
           (refine wpl_ev0 S rfl rfl rfl rfl rfl rfl (hT.mono mn) (hE.mono mn) (k107.mono mn) gB (exc_if (k104.mono mn)) (GE_if (x := litX (boolV false)) (y := o) (z := e) (GE_truth _) gO gE) eD ?_; clear S a; intro xa108 xb108 F108 a w hF108 q108 S)
           refine wpList_nil ?_
           iterate 3 (refine wpm_p S rfl rfl rfl (want_none _ rfl) rfl rfl ?_; clear S a; intro a S)
           refine wpm_eff rfl rfl (kwa S) ?_
           (refine wpl_storeO S rfl rfl rfl rfl rfl (by rfl) (by simp [Value.cells, Value.oneCell', splice]) (by rfl) ?_; clear S; intro w S)
           refine wpList_nil ?_
           refine wpm_eff rfl rfl (kwa S) ?_
           (revert S a; refine go00 2 ?_; intro a S)
           refine wpm_nil (kwa S) ?_
           (refine hZ _ _ ?_)
           exact zzEwJ1
         skip
         (refine wpl_alloc S rfl rfl rfl rfl ?_; clear S a; intro b18 a w S)
         refine wpList_nil ?_
         refine wpm_eff rfl rfl (kwa S) ?_
         (refine wpl_callF S rfl rfl rfl rfl rfl rfl (ltruthCt Fh _) rfl ?_; clear S a; intro v100 F100 a w hv hF100 S; obtain ⟨c100, rfl, -, r100⟩ := hv; obtain ⟨xa100, xb100, he100, -, -⟩ := vac_slc (ror_vac r100); subst he100)
         refine wpList_nil ?_
         refine wpm_eff rfl rfl (kwa S) ?_
         (refine wpl_callF S rfl rfl rfl rfl rfl rfl (llitCt F100 _ _ r100) rfl ?_; clear S a; intro v101 F101 a w hv hF101 S; obtain ⟨c101, rfl, -, r101⟩ := hv; obtain ⟨xa101, xb101, xc101, xd101, xe101, he101, -, -⟩ := exc_slc (ror_exc r101); subst he101)
         refine wpList_nil ?_
         refine wpm_two rfl rfl (kwa S) ?_ ?_
         · skip
           (refine wpl_sl3 (x := litX (boolV false)) (y := o) (u := e) S rfl rfl rfl rfl rfl rfl rfl rfl (Mon.h mn r101) (exc_ror (hOc.mono mn)) (exc_ror (hXc.mono mn)) ?_; clear S a; intro b104 F104 a w hF104 k104 S)
           refine wpList_nil ?_
           (refine wpm_b S rfl rfl rfl (want_none _ rfl) rfl rfl ?_; clear S a; intro a S)
           refine wpm_eff rfl rfl (kwa S) ?_
           (refine wpl_bind S rfl rfl rfl rfl rfl rfl hvn hvz (hvc.mono mn) ?_; clear S a; intro ab107 cb107 Fy107 a w hFy107 k107 S)
           refine wpList_nil ?_
           refine wpm_eff rfl rfl (kwa S) ?_
           (refine wpl_ev0 S rfl rfl rfl rfl rfl rfl (hT.mono mn) (hE.mono mn) (k107.mono mn) gB (exc_if (k104.mono mn)) (GE_if (x := litX (boolV false)) (y := o) (z := e) (GE_truth _) gO gE) eD ?_; clear S a; intro xa108 xb108 F108 a w hF108 q108 S)
           refine wpList_nil ?_
           iterate 3 (refine wpm_p S rfl rfl rfl (want_none _ rfl) rfl rfl ?_; clear S a; intro a S)
           refine wpm_eff rfl rfl (kwa S) ?_
           (refine wpl_storeO S rfl rfl rfl rfl rfl (by rfl) (by simp [Value.cells, Value.oneCell', splice]) (by rfl) ?_; clear S; intro w S)
           refine wpList_nil ?_
           refine wpm_eff rfl rfl (kwa S) ?_
           (revert S a; refine go00 2 ?_; intro a S)
           refine wpm_nil (kwa S) ?_
           (refine hZ _ _ ?_)
           exact zzEwJ1
         skip
         (refine wpl_bind S rfl rfl rfl rfl rfl rfl hvn hvz (hvc.mono mn) ?_; clear S a; intro ab107 cb107 Fy107 a w hFy107 k107 S)
         refine wpList_nil ?_
         refine wpm_eff rfl rfl (kwa S) ?_
         (refine wpl_sl3 (x := litX (boolV false)) (y := o) (u := e) S rfl rfl rfl rfl rfl rfl rfl rfl (Mon.h mn r101) (exc_ror (hOc.mono mn)) (exc_ror (hXc.mono mn)) ?_; clear S a; intro b104 F104 a w hF104 k104 S)
         refine wpList_nil ?_
         (refine wpm_b S rfl rfl rfl (want_none _ rfl) rfl rfl ?_; clear S a; intro a S)
         refine wpm_eff rfl rfl (kwa S) ?_
         (refine wpl_ev0 S rfl rfl rfl rfl rfl rfl (hT.mono mn) (hE.mono mn) (k107.mono mn) gB (exc_if (k104.mono mn)) (GE_if (x := litX (boolV false)) (y := o) (z := e) (GE_truth _) gO gE) eD ?_; clear S a; intro xa108 xb108 F108 a w hF108 q108 S)
         refine wpList_nil ?_
         iterate 3 (refine wpm_p S rfl rfl rfl (want_none _ rfl) rfl rfl ?_; clear S a; intro a S)
         refine wpm_eff rfl rfl (kwa S) ?_
         (refine wpl_storeO S rfl rfl rfl rfl rfl (by rfl) (by simp [Value.cells, Value.oneCell', splice]) (by rfl) ?_; clear S; intro w S)
         refine wpList_nil ?_
         refine wpm_eff rfl rfl (kwa S) ?_
         (revert S a; refine go00 2 ?_; intro a S)
         refine wpm_nil (kwa S) ?_
         (refine hZ _ _ ?_)
         (have S' := frz1 S; clear S; obtain ⟨Fz, hFz, hbz, S⟩ := S'; refine ⟨Fz, b18, [.int .u8 (D.2.1.k : Int), .int .i64 D.2.1.n, .string (bs D.2.1.s), .slice xa108 D.2.2.len xb108],  mn, cels_of (show Fz b18 = some (.cells ⟨[.int .u8 (D.2.1.k : Int), .int .i64 D.2.1.n, .string (bs D.2.1.s), .slice xa108 D.2.2.len xb108]⟩ _ (0, 0)) from hbz), q108.mono hFz, ?_⟩; refine S.keep ?_; repeat (first | exact trivial | refine ⟨rfl, ?_⟩)))
        (refine wpc_mixM [2, 3, 5, 6, 9, 10, 11] [2, 3] [] (.one 2 (.one 3 (.one 6 (.two 0 12 (.two 1 12 (.three 4 7 12 (.one 5 (.two 7 12 (.two 8 12 (.one 9 (.one 10 (.one 11 (.one 12 (.one 13 (.one 14 .nil)))))) (.one 8 (.one 9 (.one 10 (.one 11 (.one 13 (.one 14 .nil))))))) (.one 7 (.one 8 (.one 9 (.one 10 (.one 11 (.one 13 (.one 14 .nil))))))))) (.two 4 12 (.one 5 (.two 8 12 (.one 9 (.one 10 (.one 11 (.one 12 (.one 13 (.one 14 .nil)))))) (.one 8 (.one 9 (.one 10 (.one 11 (.one 13 (.one 14 .nil)))))))) (.one 4 (.one 5 (.one 8 (.one 9 (.one 10 (.one 11 (.one 13 (.one 14 .nil))))))))) (.two 4 7 (.one 5 (.one 7 (.one 8 (.one 9 (.one 10 (.one 11 (.one 13 (.one 14 .nil)))))))) (.one 4 (.one 5 (.one 8 (.one 9 (.one 10 (.one 11 (.one 13 (.one 14 .nil)))))))))) (.one 1 (.two 4 7 (.one 5 (.one 7 (.one 8 (.one 9 (.one 10 (.one 11 (.one 13 (.one 14 .nil)))))))) (.one 4 (.one 5 (.one 8 (.one 9 (.one 10 (.one 11 (.one 13 (.one 14 .nil))))))))))) (.one 0 (.one 1 (.two 4 7 (.one 5 (.one 7 (.one 8 (.one 9 (.one 10 (.one 11 (.one 13 (.one 14 .nil)))))))) (.one 4 (.one 5 (.one 8 (.one 9 (.one 10 (.one 11 (.one 13 (.one 14 .nil))))))))))))))) [] S mixed (by kernel_rfl) ?_; clear S; intro w S)
        (refine wpm_lateF S rfl rfl rfl (want_none _ rfl) rfl rfl (fun w' S => sv_loadAF S rfl rfl (Cels.mono (fun b o h => hFg _ _ (hFn _ _ (hF48 _ _ (hFe _ _ (hFd _ _ h))))) c4) (by rfl)) ?_; clear S a; intro a S)
        (refine wpm_lateF S rfl rfl rfl (want_none _ rfl) rfl rfl (fun w' S => sv_loadAF S rfl rfl (Cels.mono (fun b o h => hFg _ _ (hFn _ _ (hF48 _ _ (hFe _ _ (hFd _ _ h))))) c5) (by rfl)) ?_; clear S a; intro a S)
        (refine wpm_p S rfl rfl rfl (want_none _ rfl) rfl rfl ?_; clear S a; intro a S)
        refine wpm_two rfl rfl (kwa S) ?_ ?_
        · skip
          (refine wpl_callF S rfl rfl rfl rfl rfl rfl (ltruthCt Fg _) rfl ?_; clear S a; intro v88 F88 a w hv hF88 S; obtain ⟨c88, rfl, -, r88⟩ := hv; obtain ⟨xa88, xb88, he88, -, -⟩ := vac_slc (ror_vac r88); subst he88)
          refine wpList_nil ?_
          refine wpm_two rfl rfl (kwa S) ?_ ?_
          · skip
            (refine wpl_callF S rfl rfl rfl rfl rfl rfl (llitCt F88 _ _ r88) rfl ?_; clear S a; intro v89 F89 a w hv hF89 S; obtain ⟨c89, rfl, -, r89⟩ := hv; obtain ⟨xa89, xb89, xc89, xd89, xe89, he89, -, -⟩ := exc_slc (ror_exc r89); subst he89)
            refine wpList_nil ?_
            refine wpm_three rfl rfl rfl (kwa S) ?_ ?_ ?_
            · skip
              (refine wpl_sl3 (x := litX (boolV true)) (y := e) (u := o) S rfl rfl rfl rfl rfl rfl rfl rfl (Mon.h mn r89) (exc_ror (hXc.mono mn)) (exc_ror (hOc.mono mn)) ?_; clear S a; intro b92 F92 a w hF92 k92 S)
              refine wpList_nil ?_
              (refine wpm_b S rfl rfl rfl (want_none _ rfl) rfl rfl ?_; clear S a; intro a S)
              refine wpm_two rfl rfl (kwa S) ?_ ?_
              · skip
                (refine wpl_bind S rfl rfl rfl rfl rfl rfl hvn hvz (hvc.mono mn) ?_; clear S a; intro ab95 cb95 Fy95 a w hFy95 k95 S)
                refine wpList_nil ?_
                refine wpm_two rfl rfl (kwa S) ?_ ?_
                · skip
                  (refine wpl_ev0 S rfl rfl rfl rfl rfl rfl (hT.mono mn) (hE.mono mn) (k95.mono mn) gB (exc_if (k92.mono mn)) (GE_if (x := litX (boolV true)) (y := e) (z := o) (GE_truth _) gE gO) eC ?_; clear S a; intro xa96 xb96 F96 a w hF96 q96 S)
                  refine wpList_nil ?_
                  iterate 3 (refine wpm_p S rfl rfl rfl (want_none _ rfl) rfl rfl ?_; clear S a; intro a S)
                  refine wpm_eff rfl rfl (kwa S) ?_
                  (refine wpl_alloc S rfl rfl rfl rfl ?_; clear S a; intro b16 a w S)
                  refine wpList_nil ?_
                  refine wpm_eff rfl rfl (kwa S) ?_
                  (refine wpl_storeO S rfl rfl rfl rfl rfl (by rfl) (by simp [Value.cells, Value.oneCell', splice]) (by rfl) ?_; clear S; intro w S)
                  refine wpList_nil ?_
                  refine wpm_eff rfl rfl (kwa S) ?_
                  (revert S a; refine go00 2 ?_; intro a S)
                  refine wpm_nil (kwa S) ?_
                  (refine hZ _ _ ?_)
                  exact zzEwJ2
                skip
                (refine wpl_alloc S rfl rfl rfl rfl ?_; clear S a; intro b16 a w S)
                refine wpList_nil ?_
                refine wpm_eff rfl rfl (kwa S) ?_
                (refine wpl_ev0 S rfl rfl rfl rfl rfl rfl (hT.mono mn) (hE.mono mn) (k95.mono mn) gB (exc_if (k92.mono mn)) (GE_if (x := litX (boolV true)) (y := e) (z := o) (GE_truth _) gE gO) eC ?_; clear S a; intro xa96 xb96 F96 a w hF96 q96 S)
                refine wpList_nil ?_
                iterate 3 (refine wpm_p S rfl rfl rfl (want_none _ rfl) rfl rfl ?_; clear S a; intro a S)
                refine wpm_eff rfl rfl (kwa S) ?_
                (refine wpl_storeO S rfl rfl rfl rfl rfl (by rfl) (by simp [Value.cells, Value.oneCell', splice]) (by rfl) ?_; clear S; intro w S)
                refine wpList_nil ?_
                refine wpm_eff rfl rfl (kwa S) ?_
                (revert S a; refine go00 2 ?_; intro a S)
                refine wpm_nil (kwa S) ?_
                (refine hZ _ _ ?_)
                exact zzEwJ2
              skip
              (refine wpl_alloc S rfl rfl rfl rfl ?_; clear S a; intro b16 a w S)
              refine wpList_nil ?_
              refine wpm_eff rfl rfl (kwa S) ?_
              (refine wpl_bind S rfl rfl rfl rfl rfl rfl hvn hvz (hvc.mono mn) ?_; clear S a; intro ab95 cb95 Fy95 a w hFy95 k95 S)
              refine wpList_nil ?_
              refine wpm_eff rfl rfl (kwa S) ?_
              (refine wpl_ev0 S rfl rfl rfl rfl rfl rfl (hT.mono mn) (hE.mono mn) (k95.mono mn) gB (exc_if (k92.mono mn)) (GE_if (x := litX (boolV true)) (y := e) (z := o) (GE_truth _) gE gO) eC ?_; clear S a; intro xa96 xb96 F96 a w hF96 q96 S)
              refine wpList_nil ?_
              iterate 3 (refine wpm_p S rfl rfl rfl (want_none _ rfl) rfl rfl ?_; clear S a; intro a S)
              refine wpm_eff rfl rfl (kwa S) ?_
              (refine wpl_storeO S rfl rfl rfl rfl rfl (by rfl) (by simp [Value.cells, Value.oneCell', splice]) (by rfl) ?_; clear S; intro w S)
              refine wpList_nil ?_
              refine wpm_eff rfl rfl (kwa S) ?_
              (revert S a; refine go00 2 ?_; intro a S)
              refine wpm_nil (kwa S) ?_
              (refine hZ _ _ ?_)
              exact zzEwJ2
            · skip
              (refine wpl_bind S rfl rfl rfl rfl rfl rfl hvn hvz (hvc.mono mn) ?_; clear S a; intro ab95 cb95 Fy95 a w hFy95 k95 S)
              refine wpList_nil ?_
              refine wpm_two rfl rfl (kwa S) ?_ ?_
              · skip
                (refine wpl_sl3 (x := litX (boolV true)) (y := e) (u := o) S rfl rfl rfl rfl rfl rfl rfl rfl (Mon.h mn r89) (exc_ror (hXc.mono mn)) (exc_ror (hOc.mono mn)) ?_; clear S a; intro b92 F92 a w hF92 k92 S)
                refine wpList_nil ?_
                (refine wpm_b S rfl rfl rfl (want_none _ rfl) rfl rfl ?_; clear S a; intro a S)
                refine wpm_two rfl rfl (kwa S) ?_ ?_
                · skip
                  (refine wpl_ev0 S rfl rfl rfl rfl rfl rfl (hT.mono mn) (hE.mono mn) (k95.mono mn) gB (exc_if (k92.mono mn)) (GE_if (x := litX (boolV true)) (y := e) (z := o) (GE_truth _) gE gO) eC ?_; clear S a; intro xa96 xb96 F96 a w hF96 q96 S)
                  refine wpList_nil ?_
                  iterate 3 (refine wpm_p S rfl rfl rfl (want_none _ rfl) rfl rfl ?_; clear S a; intro a S)
                  refine wpm_eff rfl rfl (kwa S) ?_
                  (refine wpl_alloc S rfl rfl rfl rfl ?_; clear S a; intro b16 a w S)
                  refine wpList_nil ?_
                  refine wpm_eff rfl rfl (kwa S) ?_
                  (refine wpl_storeO S rfl rfl rfl rfl rfl (by rfl) (by simp [Value.cells, Value.oneCell', splice]) (by rfl) ?_; clear S; intro w S)
                  refine wpList_nil ?_
                  refine wpm_eff rfl rfl (kwa S) ?_
                  (revert S a; refine go00 2 ?_; intro a S)
                  refine wpm_nil (kwa S) ?_
                  (refine hZ _ _ ?_)
                  exact zzEwJ2
                skip
                (refine wpl_alloc S rfl rfl rfl rfl ?_; clear S a; intro b16 a w S)
                refine wpList_nil ?_
                refine wpm_eff rfl rfl (kwa S) ?_
                (refine wpl_ev0 S rfl rfl rfl rfl rfl rfl (hT.mono mn) (hE.mono mn) (k95.mono mn) gB (exc_if (k92.mono mn)) (GE_if (x := litX (boolV true)) (y := e) (z := o) (GE_truth _) gE gO) eC ?_; clear S a; intro xa96 xb96 F96 a w hF96 q96 S)
                refine wpList_nil ?_
                iterate 3 (refine wpm_p S rfl rfl rfl (want_none _ rfl) rfl rfl ?_; clear S a; intro a S)
                refine wpm_eff rfl rfl (kwa S) ?_
                (refine wpl_storeO S rfl rfl rfl rfl rfl (by rfl) (by simp [Value.cells, Value.oneCell', splice]) (by rfl) ?_; clear S; intro w S)
                refine wpList_nil ?_
                refine wpm_eff rfl rfl (kwa S) ?_
                (revert S a; refine go00 2 ?_; intro a S)
                refine wpm_nil (kwa S) ?_
                (refine hZ _ _ ?_)
                exact zzEwJ2
              skip
              (refine wpl_alloc S rfl rfl rfl rfl ?_; clear S a; intro b16 a w S)
              refine wpList_nil ?_
              refine wpm_eff rfl rfl (kwa S) ?_
              (refine wpl_sl3 (x := litX (boolV true)) (y := e) (u := o) S rfl rfl rfl rfl rfl rfl rfl rfl (Mon.h mn r89) (exc_ror (hXc.mono mn)) (exc_ror (hOc.mono mn)) ?_; clear S a; intro b92 F92 a w hF92 k92 S)
              refine wpList_nil ?_
              (refine wpm_b S rfl rfl rfl (want_none _ rfl) rfl rfl ?_; clear S a; intro a S)
              refine wpm_eff rfl rfl (kwa S) ?_
              (refine wpl_ev0 S rfl rfl rfl rfl rfl rfl (hT.mono mn) (hE.mono mn) (k95.mono mn) gB (exc_if (k92.mono mn)) (GE_if (x := litX (boolV true)) (y := e) (z := o) (GE_truth _) gE gO) eC ?_; clear S a; intro xa96 xb96 F96 a w hF96 q96 S)
              refine wpList_nil ?_
              iterate 3 (refine wpm_p S rfl rfl rfl (want_none _ rfl) rfl rfl ?_; clear S a; intro a S)
              refine wpm_eff rfl rfl (kwa S) ?_
              (refine wpl_storeO S rfl rfl rfl rfl rfl (by rfl) (by simp [Value.cells, Value.oneCell', splice]) (by rfl) ?_; clear S; intro w S)
              refine wpList_nil ?_
              refine wpm_eff rfl rfl (kwa S) ?_
              (revert S a; refine go00 2 ?_; intro a S)
              refine wpm_nil (kwa S) ?_
              (refine hZ _ _ ?_)
              exact zzEwJ2
            skip
            (refine wpl_alloc S rfl rfl rfl rfl ?_; clear S a; intro b16 a w S)
            refine wpList_nil ?_
            refine wpm_two rfl rfl (kwa S) ?_ ?_
            · skip
              (refine wpl_sl3 (x := litX (boolV true)) (y := e) (u := o) S rfl rfl rfl rfl rfl rfl rfl rfl (Mon.h mn r89) (exc_ror (hXc.mono mn)) (exc_ror (hOc.mono mn)) ?_; clear S a; intro b92 F92 a w hF92 k92 S)
              refine wpList_nil ?_
              (refine wpm_b S rfl rfl rfl (want_none _ rfl) rfl rfl ?_; clear S a; intro a S)
              refine wpm_eff rfl rfl (kwa S) ?_
              (refine wpl_bind S rfl rfl rfl rfl rfl rfl hvn hvz (hvc.mono mn) ?_; clear S a; intro ab95 cb95 Fy95 a w hFy95 k95 S)
              refine wpList_nil ?_
              refine wpm_eff rfl rfl (kwa S) ?_
              (refine wpl_ev0 S rfl rfl rfl rfl rfl rfl (hT.mono mn) (hE.mono mn) (k95.mono mn) gB (exc_if (k92.mono mn)) (GE_if (x := litX (boolV true)) (y := e) (z := o) (GE_truth _) gE gO) eC ?_; clear S a; intro xa96 xb96 F96 a w hF96 q96 S)
              refine wpList_nil ?_
              iterate 3 (refine wpm_p S rfl rfl rfl (want_none _ rfl) rfl rfl ?_; clear S a; intro a S)
              refine wpm_eff rfl rfl (kwa S) ?_
              (refine wpl_storeO S rfl rfl rfl rfl rfl (by rfl) (by simp [Value.cells, Value.oneCell', splice]) (by rfl) ?_; clear S; intro w S)
              refine wpList_nil ?_
              refine wpm_eff rfl rfl (kwa S) ?_
              (revert S a; refine go00 2 ?_; intro a S)
              refine wpm_nil (kwa S) ?_
              (refine hZ _ _ ?_)
              exact zzEwJ2
            skip
            (refine wpl_bind S rfl rfl rfl rfl rfl rfl hvn hvz (hvc.mono mn) ?_; clear S a; intro ab95 cb95 Fy95 a w hFy95 k95 S)
            refine wpList_nil ?_
            refine wpm_eff rfl rfl (kwa S) ?_
            (refine wpl_sl3 (x := litX (boolV true)) (y := e) (u := o) S rfl rfl rfl rfl rfl rfl rfl rfl (Mon.h mn r89) (exc_ror (hXc.mono mn)) (exc_ror (hOc.mono mn)) ?_; clear S a; intro b92 F92 a w hF92 k92 S)
            refine wpList_nil ?_
            (refine wpm_b S rfl rfl rfl (want_none _ rfl) rfl rfl ?_; clear S a; intro a S)
            refine wpm_eff rfl rfl (kwa S) ?_
            (refine wpl_ev0 S rfl rfl rfl rfl rfl rfl (hT.mono mn) (hE.mono mn) (k95.mono mn) gB (exc_if (k92.mono mn)) (GE_if (x := litX (boolV true)) (y := e) (z := o) (GE_truth _) gE gO) eC ?_; clear S a; intro xa96 xb96 F96 a w hF96 q96 S)
            refine wpList_nil ?_
            iterate 3 (refine wpm_p S rfl rfl rfl (want_none _ rfl) rfl rfl ?_; clear S a; intro a S)
            refine wpm_eff rfl rfl (kwa S) ?_
            (refine wpl_storeO S rfl rfl rfl rfl rfl (by rfl) (by simp [Value.cells, Value.oneCell', splice]) (by rfl) ?_; clear S; intro w S)
            refine wpList_nil ?_
            refine wpm_eff rfl rfl (kwa S) ?_
            (revert S a; refine go00 2 ?_; intro a S)
            refine wpm_nil (kwa S) ?_
            (refine hZ _ _ ?_)
            exact zzEwJ2
          skip
          (refine wpl_alloc S rfl rfl rfl rfl ?_; clear S a; intro b16 a w S)
          refine wpList_nil ?_
          refine wpm_eff rfl rfl (kwa S) ?_
          (refine wpl_callF S rfl rfl rfl rfl rfl rfl (llitCt F88 _ _ r88) rfl ?_; clear S a; intro v89 F89 a w hv hF89 S; obtain ⟨c89, rfl, -, r89⟩ := hv; obtain ⟨xa89, xb89, xc89, xd89, xe89, he89, -, -⟩ := exc_slc (ror_exc r89); subst he89)
          refine wpList_nil ?_
          refine wpm_two rfl rfl (kwa S) ?_ ?_
          · skip
            (refine wpl_sl3 (x := litX (boolV true)) (y := e) (u := o) S rfl rfl rfl rfl rfl rfl rfl rfl (Mon.h mn r89) (exc_ror (hXc.mono mn)) (exc_ror (hOc.mono mn)) ?_; clear S a; intro b92 F92 a w hF92 k92 S)
            refine wpList_nil ?_
            (refine wpm_b S rfl rfl rfl (want_none _ rfl) rfl rfl ?_; clear S a; intro a S)
            refine wpm_eff rfl rfl (kwa S) ?_
            (refine wpl_bind S rfl rfl rfl rfl rfl rfl hvn hvz (hvc.mono mn) ?_; clear S a; intro ab95 cb95 Fy95 a w hFy95 k95 S)
            refine wpList_nil ?_
            refine wpm_eff rfl rfl (kwa S) ?_
            (refine wpl_ev0 S rfl rfl rfl rfl rfl rfl (hT.mono mn) (hE.mono mn) (k95.mono mn) gB (exc_if (k92.mono mn)) (GE_if (x := litX (boolV true)) (y := e) (z := o) (GE_truth _) gE gO) eC ?_; clear S a; intro xa96 xb96 F96 a w hF96 q96 S)
            refine wpList_nil ?_
            iterate 3 (refine wpm_p S rfl rfl rfl (want_none _ rfl) rfl rfl ?_; clear S a; intro a S)
            refine wpm_eff rfl rfl (kwa S) ?_
            (refine wpl_storeO S rfl rfl rfl rfl rfl (by rfl) (by simp [Value.cells, Value.oneCell', splice]) (by rfl) ?_; clear S; intro w S)
            refine wpList_nil ?_
            refine wpm_eff rfl rfl (kwa S) ?_
            (revert S a; refine go00 2 ?_; intro a S)
            refine wpm_nil (kwa S) ?_
            (refine hZ _ _ ?_)
            exact zzEwJ2
          skip
          (refine wpl_bind S rfl rfl rfl rfl rfl rfl hvn hvz (hvc.mono mn) ?_; clear S a; intro ab95 cb95 Fy95 a w hFy95 k95 S)
          refine wpList_nil ?_
          refine wpm_eff rfl rfl (kwa S) ?_
          (refine wpl_sl3 (x := litX (boolV true)) (y := e) (u := o) S rfl rfl rfl rfl rfl rfl rfl rfl (Mon.h mn r89) (exc_ror (hXc.mono mn)) (exc_ror (hOc.mono mn)) ?_; clear S a; intro b92 F92 a w hF92 k92 S)
          refine wpList_nil ?_
          (refine wpm_b S rfl rfl rfl (want_none _ rfl) rfl rfl ?_; clear S a; intro a S)
          refine wpm_eff rfl rfl (kwa S) ?_
          (refine wpl_ev0 S rfl rfl rfl rfl rfl rfl (hT.mono mn) (hE.mono mn) (k95.mono mn) gB (exc_if (k92.mono mn)) (GE_if (x := litX (boolV true)) (y := e) (z := o) (GE_truth _) gE gO) eC ?_; clear S a; intro xa96 xb96 F96 a w hF96 q96 S)
          refine wpList_nil ?_
          iterate 3 (refine wpm_p S rfl rfl rfl (want_none _ rfl) rfl rfl ?_; clear S a; intro a S)
          refine wpm_eff rfl rfl (kwa S) ?_
          (refine wpl_storeO S rfl rfl rfl rfl rfl (by rfl) (by simp [Value.cells, Value.oneCell', splice]) (by rfl) ?_; clear S; intro w S)
          refine wpList_nil ?_
          refine wpm_eff rfl rfl (kwa S) ?_
          (revert S a; refine go00 2 ?_; intro a S)
          refine wpm_nil (kwa S) ?_
          (refine hZ _ _ ?_)
          exact zzEwJ2
        skip
        (refine wpl_alloc S rfl rfl rfl rfl ?_; clear S a; intro b16 a w S)
        refine wpList_nil ?_
        refine wpm_eff rfl rfl (kwa S) ?_
        (refine wpl_callF S rfl rfl rfl rfl rfl rfl (ltruthCt Fg _) rfl ?_; clear S a; intro v88 F88 a w hv hF88 S; obtain ⟨c88, rfl, -, r88⟩ := hv; obtain ⟨xa88, xb88, he88, -, -⟩ := vac_slc (ror_vac r88); subst he88)
        refine wpList_nil ?_
        refine wpm_eff rfl rfl (kwa S) ?_
        (refine wpl_callF S rfl rfl rfl rfl rfl rfl (llitCt F88 _ _ r88) rfl ?_; clear S a; intro v89 F89 a w hv hF89 S; obtain ⟨c89, rfl, -, r89⟩ := hv; obtain ⟨xa89, xb89, xc89, xd89, xe89, he89, -, -⟩ := exc_slc (ror_exc r89); subst he89)
        refine wpList_nil ?_
        refine wpm_two rfl rfl (kwa S) ?_ ?_
        · skip
          (refine wpl_sl3 (x := litX (boolV true)) (y := e) (u := o) S rfl rfl rfl rfl rfl rfl rfl rfl (Mon.h mn r89) (exc_ror (hXc.mono mn)) (exc_ror (hOc.mono mn)) ?_; clear S a; intro b92 F92 a w hF92 k92 S)
          refine wpList_nil ?_
          (refine wpm_b S rfl rfl rfl (want_none _ rfl) rfl rfl ?_; clear S a; intro a S)
          refine wpm_eff rfl rfl (kwa S) ?_
          (refine wpl_bind S rfl rfl rfl rfl rfl rfl hvn hvz (hvc.mono mn) ?_; clear S a; intro ab95 cb95 Fy95 a w hFy95 k95 S)
          refine wpList_nil ?_
          refine wpm_eff rfl rfl (kwa S) ?_
          (refine wpl_ev0 S rfl rfl rfl rfl rfl rfl (hT.mono mn) (hE.mono mn) (k95.mono mn) gB (exc_if (k92.mono mn)) (GE_if (x := litX (boolV true)) (y := e) (z := o) (GE_truth _) gE gO) eC ?_; clear S a; intro xa96 xb96 F96 a w hF96 q96 S)
          refine wpList_nil ?_
          iterate 3 (refine wpm_p S rfl rfl rfl (want_none _ rfl) rfl rfl ?_; clear S a; intro a S)
          refine wpm_eff rfl rfl (kwa S) ?_
          (refine wpl_storeO S rfl rfl rfl rfl rfl (by rfl) (by simp [Value.cells, Value.oneCell', splice]) (by rfl) ?_; clear S; intro w S)
          refine wpList_nil ?_
          refine wpm_eff rfl rfl (kwa S) ?_
          (revert S a; refine go00 2 ?_; intro a S)
          refine wpm_nil (kwa S) ?_
          (refine hZ _ _ ?_)
          exact zzEwJ2
        skip
        (refine wpl_bind S rfl rfl rfl rfl rfl rfl hvn hvz (hvc.mono mn) ?_; clear S a; intro ab95 cb95 Fy95 a w hFy95 k95 S)
        refine wpList_nil ?_
        refine wpm_eff rfl rfl (kwa S) ?_
        (refine wpl_sl3 (x := litX (boolV true)) (y := e) (u := o) S rfl rfl rfl rfl rfl rfl rfl rfl (Mon.h mn r89) (exc_ror (hXc.mono mn)) (exc_ror (hOc.mono mn)) ?_; clear S a; intro b92 F92 a w hF92 k92 S)
        refine wpList_nil ?_
        (refine wpm_b S rfl rfl rfl (want_none _ rfl) rfl rfl ?_; clear S a; intro a S)
        refine wpm_eff rfl rfl (kwa S) ?_
        (refine wpl_ev0 S rfl rfl rfl rfl rfl rfl (hT.mono mn) (hE.mono mn) (k95.mono mn) gB (exc_if (k92.mono mn)) (GE_if (x := litX (boolV true)) (y := e) (z := o) (GE_truth _) gE gO) eC ?_; clear S a; intro xa96 xb96 F96 a w hF96 q96 S)
        refine wpList_nil ?_
        iterate 3 (refine wpm_p S rfl rfl rfl (want_none _ rfl) rfl rfl ?_; clear S a; intro a S)
        refine wpm_eff rfl rfl (kwa S) ?_
        (refine wpl_storeO S rfl rfl rfl rfl rfl (by rfl) (by simp [Value.cells, Value.oneCell', splice]) (by rfl) ?_; clear S; intro w S)
        refine wpList_nil ?_
        refine wpm_eff rfl rfl (kwa S) ?_
        (revert S a; refine go00 2 ?_; intro a S)
        refine wpm_nil (kwa S) ?_
        (refine hZ _ _ ?_)
        (have S' := frz1 S; clear S; obtain ⟨Fz, hFz, hbz, S⟩ := S'; refine ⟨Fz, b16, [.int .u8 (C.2.1.k : Int), .int .i64 C.2.1.n, .string (bs C.2.1.s), .slice xa96 C.2.2.len xb96],  mn, cels_of (show Fz b16 = some (.cells ⟨[.int .u8 (C.2.1.k : Int), .int .i64 C.2.1.n, .string (bs C.2.1.s), .slice xa96 C.2.2.len xb96]⟩ _ (0, 0)) from hbz), q96.mono hFz, ?_⟩; refine S.keep ?_; repeat (first | exact trivial | refine ⟨rfl, ?_⟩)))
       (revert S a; refine go00 5 ?_; intro a S)
       refine wpc_split S rfl (fun h => ?_) (fun h => ?_)
       · (skip; (try simp only [tq] at h))
         (refine wp_seq_k ?_; intro Z hZ)
         replace hZ : ∀ (a' : Act) (w' : World), (∃ (Fk : Heap) (b14 : Nat) (cB : List Value), (∀ b o, Fn b = some o → Fk b = some o) ∧ Cels Fk b14 0 cB ∧ VaC Fk cB A.2.1 A.2.2 ∧ St 136 [(2, .slice av vs.length cv), (4, ptr b4), (5, ptr b5), (9, ptr b9), (10, .int .i64 A.1), (14, ptr b14), (15, .int .i64 A.1)] w0 F [] Fk [] a' w') → Z a' w' := (by
          (intro a w hM; refine hZ _ _ ?_; clear hZ Z; clear S; obtain ⟨Fk, b14, cB, hFk, c14, qB, S⟩ := hM)
          (refine wp_seq_k ?_; intro Z hZ)
          (have qBc := qB; obtain ⟨xaB, xbB, exB, -, -⟩ := vac_slc qBc; subst exB)
          (revert S a; refine go00 3 ?_; intro a S)
          (refine wpl_v S rfl rfl rfl (sv_lit (c := false) (sv_pure S rfl) (by simp)) ?_; clear S a; intro a S)
          (revert S a; refine go00 2 ?_; intro a S)
          (refine wpl_v S rfl rfl rfl (sv_loadAF S rfl rfl (Cels.mono (fun b o h => hFk _ _ (hFn _ _ (hF48 _ _ h))) c9) (by rfl)) ?_; clear S a; intro a S)
          refine wpl_take S rfl rfl rfl ?_
          (refine wpl_v S rfl rfl rfl (sv_loadAF S rfl rfl c14 (by rfl)) ?_; clear S a; intro a S)
          refine wpl_take S rfl rfl rfl ?_
          (refine wpl_call0 S rfl rfl rfl rfl rfl rfl (sameCt (A.2.2.size + 1) Fk A.2 A.2 _ _ (Nat.lt_succ_self _) (qA.mono (fun b o h => hFk _ _ (hFn _ _ (hF48 _ _ h)))) qB) rfl ?_; clear S a; intro v a w hv S; subst hv)
          (rw [sameV_iff.2 rfl] at S)
          (revert S a; revert hZ Z; refine go10 5 ?_; intro a S)
          refine wpc_false S rfl ?_
          refine wp_skip ?_
          (refine hZ _ _ ?_)
          (first | (refine ⟨Fk, _, _, rfl, rfl, hFk, ?_⟩; refine S.keep ?_; repeat (first | exact trivial | refine ⟨rfl, ?_⟩)) | (refine ⟨Fn, _, _, rfl, rfl, fun _ _ h => h, ?_⟩; refine S.keep ?_; repeat (first | exact trivial | refine ⟨rfl, ?_⟩))))
         (have hnu : y.1 ∉ namesE e.1 e.2 := (by rw [hnm]; have h9 := htk; rw [List.take_of_length_le (by omega)] at h9; intro h8; rw [decide_eq_true h8] at h9; simp_all))
         (refine wpc_mixM [0, 1, 4, 8, 9, 10] [0, 1] [] (.one 0 (.one 1 (.one 4 (.two 2 11 (.two 3 11 (.two 5 11 (.two 6 11 (.two 7 11 (.one 8 (.one 9 (.one 10 (.one 11 (.one 12 (.one 13 .nil)))))) (.one 7 (.one 8 (.one 9 (.one 10 (.one 12 (.one 13 .nil))))))) (.one 6 (.one 7 (.one 8 (.one 9 (.one 10 (.one 12 (.one 13 .nil)))))))) (.one 5 (.one 6 (.one 7 (.one 8 (.one 9 (.one 10 (.one 12 (.one 13 .nil))))))))) (.one 3 (.one 5 (.one 6 (.one 7 (.one 8 (.one 9 (.one 10 (.one 12 (.one 13 .nil)))))))))) (.one 2 (.one 3 (.one 5 (.one 6 (.one 7 (.one 8 (.one 9 (.one 10 (.one 12 (.one 13 .nil)))))))))))))) [] S mixed (by kernel_rfl) ?_; clear S; intro w S)
         (refine wpm_lateF S rfl rfl rfl (want_none _ rfl) rfl rfl (fun w' S => sv_loadAF S rfl rfl (Cels.mono (fun b o h => hFn _ _ (hF48 _ _ (hFe _ _ (hFd _ _ h)))) c4) (by rfl)) ?_; clear S a; intro a S)
         (refine wpm_lateF S rfl rfl rfl (want_none _ rfl) rfl rfl (fun w' S => sv_loadAF S rfl rfl (Cels.mono (fun b o h => hFn _ _ (hF48 _ _ (hFe _ _ (hFd _ _ h)))) c7) (by rfl)) ?_; clear S a; intro a S)
         (refine wpm_p S rfl rfl rfl (want_none _ rfl) rfl rfl ?_; clear S a; intro a S)
         refine wpm_two rfl rfl (kwa S) ?_ ?_
         · skip
           (refine wpl_buildSlice S rfl rfl rfl rfl rfl rfl (by rfl) (by simp [Value.cells, splice]) rfl (by rfl) (by rfl) ?_; clear S a; intro b70 a w hown2 S; have S' := frz1 S; clear S; obtain ⟨F70, hF70, hb70, S⟩ := S'; have k70 : LiM F70 5 BdR (.slice (some ⟨b70, 0, none⟩) 1 1) [y] := lim_of (l := ([y] : List Bd)) hb70 (LiC.one rfl (Mon.h (fun b o h => hF70 _ _ (hFn _ _ (hF48 _ _ (hFe _ _ (hFd _ _ h))))) hYc)) (show 1 ≤ _ by decide))
           refine wpList_nil ?_
           refine wpm_two rfl rfl (kwa S) ?_ ?_
           · skip
             (refine wpl_call (Gs := []) S rfl rfl rfl rfl rfl rfl (lbindCt F70 [y] _ (show 1 ≤ 1000000 by decide) (fun x hx => Nat.le_trans (gY x hx).2.2 (by decide)) k70) rfl permNil ?_; clear S a; intro u71 F71 G9 a w hv71 hF71 S; obtain ⟨g71, xs71, rfl, hown71, hli71⟩ := hv71; replace S := consG (g := g71) S; have hx71 := hown71.at; obtain ⟨ab71, cb71, rfl, -⟩ := hx71)
             refine wpList_nil ?_
             refine wpm_two rfl rfl (kwa S) ?_ ?_
             · skip
               (refine wpl_call (Gs := []) S rfl rfl rfl rfl rfl rfl (lbindCt F71 vs _ hvn hvz (hvc.mono (fun b o h => hF71 _ _ (hF70 _ _ (hFn _ _ (hF48 _ _ (hFe _ _ (hFd _ _ h)))))))) rfl permNil ?_; clear S a; intro u73 F73 G9 a w hv73 hF73 S; obtain ⟨g73, xs73, rfl, hown73, hli73⟩ := hv73; replace S := consG (g := g73) S; have hx73 := hown73.at; obtain ⟨ab73, cb73, rfl, -⟩ := hx73)
               refine wpList_nil ?_
               refine wpm_two rfl rfl (kwa S) ?_ ?_
               · skip
                 (refine wpl_appendOwn S rfl rfl rfl rfl rfl rfl hown71 hown73 (by rfl) (bdr_one hli73) (by simp only [List.length_cons, List.length_nil]; omega) (by simp only [List.length_cons, List.length_nil]; omega) ?_; clear S a; intro v74 g74 a w hown74 S; replace S := pullG g74 S; have hx74 := hown74.at; obtain ⟨ab74, cb74, rfl, -⟩ := hx74; have hF74 := add_le (G1 := []) S; have S' := St.freeze (G1 := []) S; clear S; have S := S'; clear S'; (try simp only [List.nil_append] at S); have k74 : LiM (Heap.add F73 g74) 5 BdR _ (y :: vs) := LiC.lim hown74 (LiC.app (l := [y]) (hli71.mono hF73) hli73) (by simp only [List.length_cons, List.length_nil]; omega) hF74 (by simp only [List.length_cons, List.length_nil]; omega); generalize hgF74 : Heap.add F73 g74 = F74 at S hF74 k74; clear hgF74)
                 refine wpList_nil ?_
                 refine wpm_two rfl rfl (kwa S) ?_ ?_
                 · skip
                   (obtain ⟨B, eB⟩ : ∃ A, evalO [] (y :: vs) e.1 e.2 = A := ⟨_, rfl⟩; refine wpl_ev0 S rfl rfl rfl rfl rfl rfl (hT.mono mn) (hE.mono mn) k74 (gvb_cons gy gB) (hXc.mono (fun b o h => hF74 _ _ (hF73 _ _ (hF71 _ _ (hF70 _ _ (hFn _ _ (hF48 _ _ (hFe _ _ (hFd _ _ h))))))))) gE eB ?_; clear S a; intro xa75 xb75 F75 a w hF75 q75 S)
                   (have hBA : B = A := (by rw [← eB, ← eA]; exact eval_more hmy hnu); subst hBA)
                   refine wpList_nil ?_
                   iterate 3 (refine wpm_p S rfl rfl rfl (want_none _ rfl) rfl rfl ?_; clear S a; intro a S)
                   refine wpm_eff rfl rfl (kwa S) ?_
                   (refine wpl_alloc S rfl rfl rfl rfl ?_; clear S a; intro b14 a w S)
                   refine wpList_nil ?_
                   refine wpm_eff rfl rfl (kwa S) ?_
                   (refine wpl_storeO S rfl rfl rfl rfl rfl (by rfl) (by simp [Value.cells, Value.oneCell', splice]) (by rfl) ?_; clear S; intro w S)
                   refine wpList_nil ?_
                   refine wpm_eff rfl rfl (kwa S) ?_
                   (revert S a; refine go00 2 ?_; intro a S)
                   refine wpm_nil (kwa S) ?_
                   (refine hZ _ _ ?_)
                   exact zzEwJ3
                 skip
                 (refine wpl_alloc S rfl rfl rfl rfl ?_; clear S a; intro b14 a w S)
                 refine wpList_nil ?_
                 refine wpm_eff rfl rfl (kwa S) ?_
                 (obtain ⟨B, eB⟩ : ∃ A, evalO [] (y :: vs) e.1 e.2 = A := ⟨_, rfl⟩; refine wpl_ev0 S rfl rfl rfl rfl rfl rfl (hT.mono mn) (hE.mono mn) k74 (gvb_cons gy gB) (hXc.mono (fun b o h => hF74 _ _ (hF73 _ _ (hF71 _ _ (hF70 _ _ (hFn _ _ (hF48 _ _ (hFe _ _ (hFd _ _ h))))))))) gE eB ?_; clear S a; intro xa75 xb75 F75 a w hF75 q75 S)
                 (have hBA : B = A := (by rw [← eB, ← eA]; exact eval_more hmy hnu); subst hBA)
                 refine wpList_nil ?_
                 iterate 3 (refine wpm_p S rfl rfl rfl (want_none _ rfl) rfl rfl ?_; clear S a; intro a S)
                 refine wpm_eff rfl rfl (kwa S) ?_
                 (refine wpl_storeO S rfl rfl rfl rfl rfl (by rfl) (by simp [Value.cells, Value.oneCell', splice]) (by rfl) ?_; clear S; intro w S)
                 refine wpList_nil ?_
                 refine wpm_eff rfl rfl (kwa S) ?_
                 (revert S a; refine go00 2 ?_; intro a S)
                 refine wpm_nil (kwa S) ?_
                 (refine hZ _ _ ?_)
                 exact zzEwJ3
               skip
               (refine wpl_alloc S rfl rfl rfl rfl ?_; clear S a; intro b14 a w S)
               refine wpList_nil ?_
               refine wpm_eff rfl rfl (kwa S) ?_
               (refine wpl_appendOwn S rfl rfl rfl rfl rfl rfl hown71 hown73 (by rfl) (bdr_one hli73) (by simp only [List.length_cons, List.length_nil]; omega) (by simp only [List.length_cons, List.length_nil]; omega) ?_; clear S a; intro v74 g74 a w hown74 S; replace S := pullG g74 S; have hx74 := hown74.at; obtain ⟨ab74, cb74, rfl, -⟩ := hx74; have hF74 := add_le (G1 := []) S; have S' := St.freeze (G1 := []) S; clear S; have S := S'; clear S'; (try simp only [List.nil_append] at S); have k74 : LiM (Heap.add F73 g74) 5 BdR _ (y :: vs) := LiC.lim hown74 (LiC.app (l := [y]) (hli71.mono hF73) hli73) (by simp only [List.length_cons, List.length_nil]; omega) hF74 (by simp only [List.length_cons, List.length_nil]; omega); generalize hgF74 : Heap.add F73 g74 = F74 at S hF74 k74; clear hgF74)
               refine wpList_nil ?_
               refine wpm_eff rfl rfl (kwa S) ?_
               (obtain ⟨B, eB⟩ : ∃ A, evalO [] (y :: vs) e.1 e.2 = A := ⟨_, rfl⟩; refine wpl_ev0 S rfl rfl rfl rfl rfl rfl (hT.mono mn) (hE.mono mn) k74 (gvb_cons gy gB) (hXc.mono (fun b o h => hF74 _ _ (hF73 _ _ (hF71 _ _ (hF70 _ _ (hFn _ _ (hF48 _ _ (hFe _ _ (hFd _ _ h))))))))) gE eB ?_; clear S a; intro xa75 xb75 F75 a w hF75 q75 S)
               (have hBA : B = A := (by rw [← eB, ← eA]; exact eval_more hmy hnu); subst hBA)
               refine wpList_nil ?_
               iterate 3 (refine wpm_p S rfl rfl rfl (want_none _ rfl) rfl rfl ?_; clear S a; intro a S)
               refine wpm_eff rfl rfl (kwa S) ?_
               (refine wpl_storeO S rfl rfl rfl rfl rfl (by rfl) (by simp [Value.cells, Value.oneCell', splice]) (by rfl) ?_; clear S; intro w S)
               refine wpList_nil ?_
               refine wpm_eff rfl rfl (kwa S) ?_
               (revert S a; refine go00 2 ?_; intro a S)
               refine wpm_nil (kwa S) ?_
               (refine hZ _ _ ?_)
               exact zzEwJ3
             skip
             (refine wpl_alloc S rfl rfl rfl rfl ?_; clear S a; intro b14 a w S)
             refine wpList_nil ?_
             refine wpm_eff rfl rfl (kwa S) ?_
             (refine wpl_call (Gs := []) S rfl rfl rfl rfl rfl rfl (lbindCt F71 vs _ hvn hvz (hvc.mono (fun b o h => hF71 _ _ (hF70 _ _ (hFn _ _ (hF48 _ _ (hFe _ _ (hFd _ _ h)))))))) rfl permNil ?_; clear S a; intro u73 F73 G9 a w hv73 hF73 S; obtain ⟨g73, xs73, rfl, hown73, hli73⟩ := hv73; replace S := consG (g := g73) S; have hx73 := hown73.at; obtain ⟨ab73, cb73, rfl, -⟩ := hx73)
             refine wpList_nil ?_
             refine wpm_eff rfl rfl (kwa S) ?_
             (refine wpl_appendOwn S rfl rfl rfl rfl rfl rfl hown71 hown73 (by rfl) (bdr_one hli73) (by simp only [List.length_cons, List.length_nil]; omega) (by simp only [List.length_cons, List.length_nil]; omega) ?_; clear S a; intro v74 g74 a w hown74 S; replace S := pullG g74 S; have hx74 := hown74.at; obtain ⟨ab74, cb74, rfl, -⟩ := hx74; have hF74 := add_le (G1 := []) S; have S' := St.freeze (G1 := []) S; clear S; have S := S'; clear S'; (try simp only [List.nil_append] at S); have k74 : LiM (Heap.add F73 g74) 5 BdR _ (y :: vs) := LiC.lim hown74 (LiC.app (l := [y]) (hli71.mono hF73) hli73) (by simp only [List.length_cons, List.length_nil]; omega) hF74 (by simp only [List.length_cons, List.length_nil]; omega); generalize hgF74 : Heap.add F73 g74 = F74 at S hF74 k74; clear hgF74)
             refine wpList_nil ?_
             refine wpm_eff rfl rfl (kwa S) ?_
             (obtain ⟨B, eB⟩ : ∃ A, evalO [] (y :: vs) e.1 e.2 = A := ⟨_, rfl⟩; refine wpl_ev0 S rfl rfl rfl rfl rfl rfl (hT.mono mn) (hE.mono mn) k74 (gvb_cons gy gB) (hXc.mono (fun b o h => hF74 _ _ (hF73 _ _ (hF71 _ _ (hF70 _ _ (hFn _ _ (hF48 _ _ (hFe _ _ (hFd _ _ h))))))))) gE eB ?_; clear S a; intro xa75 xb75 F75 a w hF75 q75 S)
             (have hBA : B = A := (by rw [← eB, ← eA]; exact eval_more hmy hnu); subst hBA)
             refine wpList_nil ?_
             iterate 3 (refine wpm_p S rfl rfl rfl (want_none _ rfl) rfl rfl ?_; clear S a; intro a S)
             refine wpm_eff rfl rfl (kwa S) ?_
             (refine wpl_storeO S rfl rfl rfl rfl rfl (by rfl) (by simp [Value.cells, Value.oneCell', splice]) (by rfl) ?_; clear S; intro w S)
             refine wpList_nil ?_
             refine wpm_eff rfl rfl (kwa S) ?_
             (revert S a; refine go00 2 ?_; intro a S)
             refine wpm_nil (kwa S) ?_
             (refine hZ _ _ ?_)
             exact zzEwJ3
           skip
           (refine wpl_alloc S rfl rfl rfl rfl ?_; clear S a; intro b14 a w S)
           refine wpList_nil ?_
           refine wpm_eff rfl rfl (kwa S) ?_
           (refine wpl_call (Gs := []) S rfl rfl rfl rfl rfl rfl (lbindCt F70 [y] _ (show 1 ≤ 1000000 by decide) (fun x hx => Nat.le_trans (gY x hx).2.2 (by decide)) k70) rfl permNil ?_; clear S a; intro u71 F71 G9 a w hv71 hF71 S; obtain ⟨g71, xs71, rfl, hown71, hli71⟩ := hv71; replace S := consG (g := g71) S; have hx71 := hown71.at; obtain ⟨ab71, cb71, rfl, -⟩ := hx71)
           refine wpList_nil ?_
           refine wpm_eff rfl rfl (kwa S) ?_
           (refine wpl_call (Gs := []) S rfl rfl rfl rfl rfl rfl (lbindCt F71 vs _ hvn hvz (hvc.mono (fun b o h => hF71 _ _ (hF70 _ _ (hFn _ _ (hF48 _ _ (hFe _ _ (hFd _ _ h)))))))) rfl permNil ?_; clear S a; intro u73 F73 G9 a w hv73 hF73 S; obtain ⟨g73, xs73, rfl, hown73, hli73⟩ := hv73; replace S := consG (g := g73) S; have hx73 := hown73.at; obtain ⟨ab73, cb73, rfl, -⟩ := hx73)
           refine wpList_nil ?_
           refine wpm_eff rfl rfl (kwa S) ?_
           (refine wpl_appendOwn S rfl rfl rfl rfl rfl rfl hown71 hown73 (by rfl) (bdr_one hli73) (by simp only [List.length_cons, List.length_nil]; omega) (by simp only [List.length_cons, List.length_nil]; omega) ?_; clear S a; intro v74 g74 a w hown74 S; replace S := pullG g74 S; have hx74 := hown74.at; obtain ⟨ab74, cb74, rfl, -⟩ := hx74; have hF74 := add_le (G1 := []) S; have S' := St.freeze (G1 := []) S; clear S; have S := S'; clear S'; (try simp only [List.nil_append] at S); have k74 : LiM (Heap.add F73 g74) 5 BdR _ (y :: vs) := LiC.lim hown74 (LiC.app (l := [y]) (hli71.mono hF73) hli73) (by simp only [List.length_cons, List.length_nil]; omega) hF74 (by simp only [List.length_cons, List.length_nil]; omega); generalize hgF74 : Heap.add F73 g74 = F74 at S hF74 k74; clear hgF74)
           refine wpList_nil ?_
           refine wpm_eff rfl rfl (kwa S) ?_
           (obtain ⟨B, eB⟩ : ∃ A, evalO [] (y :: vs) e.1 e.2 = A := ⟨_, rfl⟩; refine wpl_ev0 S rfl rfl rfl rfl rfl rfl (hT.mono mn) (hE.mono mn) k74 (gvb_cons gy gB) (hXc.mono (fun b o h => hF74 _ _ (hF73 _ _ (hF71 _ _ (hF70 _ _ (hFn _ _ (hF48 _ _ (hFe _ _ (hFd _ _ h))))))))) gE eB ?_; clear S a; intro xa75 xb75 F75 a w hF75 q75 S)
           (have hBA : B = A := (by rw [← eB, ← eA]; exact eval_more hmy hnu); subst hBA)
           refine wpList_nil ?_
           iterate 3 (refine wpm_p S rfl rfl rfl (want_none _ rfl) rfl rfl ?_; clear S a; intro a S)
           refine wpm_eff rfl rfl (kwa S) ?_
           (refine wpl_storeO S rfl rfl rfl rfl rfl (by rfl) (by simp [Value.cells, Value.oneCell', splice]) (by rfl) ?_; clear S; intro w S)
           refine wpList_nil ?_
           refine wpm_eff rfl rfl (kwa S) ?_
           (revert S a; refine go00 2 ?_; intro a S)
           refine wpm_nil (kwa S) ?_
           (refine hZ _ _ ?_)
           exact zzEwJ3
         skip
         (refine wpl_alloc S rfl rfl rfl rfl ?_; clear S a; intro b14 a w S)
         refine wpList_nil ?_
         refine wpm_eff rfl rfl (kwa S) ?_
         (refine wpl_buildSlice S rfl rfl rfl rfl rfl rfl (by rfl) (by simp [Value.cells, splice]) rfl (by rfl) (by rfl) ?_; clear S a; intro b70 a w hown2 S; have S' := frz1 S; clear S; obtain ⟨F70, hF70, hb70, S⟩ := S'; have k70 : LiM F70 5 BdR (.slice (some ⟨b70, 0, none⟩) 1 1) [y] := lim_of (l := ([y] : List Bd)) hb70 (LiC.one rfl (Mon.h (fun b o h => hF70 _ _ (hFn _ _ (hF48 _ _ (hFe _ _ (hFd _ _ h))))) hYc)) (show 1 ≤ _ by decide))
         refine wpList_nil ?_
         refine wpm_eff rfl rfl (kwa S) ?_
         (refine wpl_call (Gs := []) S rfl rfl rfl rfl rfl rfl (lbindCt F70 [y] _ (show 1 ≤ 1000000 by decide) (fun x hx => Nat.le_trans (gY x hx).2.2 (by decide)) k70) rfl permNil ?_; clear S a; intro u71 F71 G9 a w hv71 hF71 S; obtain ⟨g71, xs71, rfl, hown71, hli71⟩ := hv71; replace S := consG (g := g71) S; have hx71 := hown71.at; obtain ⟨ab71, cb71, rfl, -⟩ := hx71)
         refine wpList_nil ?_
         refine wpm_eff rfl rfl (kwa S) ?_
         (refine wpl_call (Gs := []) S rfl rfl rfl rfl rfl rfl (lbindCt F71 vs _ hvn hvz (hvc.mono (fun b o h => hF71 _ _ (hF70 _ _ (hFn _ _ (hF48 _ _ (hFe _ _ (hFd _ _ h)))))))) rfl permNil ?_; clear S a; intro u73 F73 G9 a w hv73 hF73 S; obtain ⟨g73, xs73, rfl, hown73, hli73⟩ := hv73; replace S := consG (g := g73) S; have hx73 := hown73.at; obtain ⟨ab73, cb73, rfl, -⟩ := hx73)
         refine wpList_nil ?_
         refine wpm_eff rfl rfl (kwa S) ?_
         (refine wpl_appendOwn S rfl rfl rfl rfl rfl rfl hown71 hown73 (by rfl) (bdr_one hli73) (by simp only [List.length_cons, List.length_nil]; omega) (by simp only [List.length_cons, List.length_nil]; omega) ?_; clear S a; intro v74 g74 a w hown74 S; replace S := pullG g74 S; have hx74 := hown74.at; obtain ⟨ab74, cb74, rfl, -⟩ := hx74; have hF74 := add_le (G1 := []) S; have S' := St.freeze (G1 := []) S; clear S; have S := S'; clear S'; (try simp only [List.nil_append] at S); have k74 : LiM (Heap.add F73 g74) 5 BdR _ (y :: vs) := LiC.lim hown74 (LiC.app (l := [y]) (hli71.mono hF73) hli73) (by simp only [List.length_cons, List.length_nil]; omega) hF74 (by simp only [List.length_cons, List.length_nil]; omega); generalize hgF74 : Heap.add F73 g74 = F74 at S hF74 k74; clear hgF74)
         refine wpList_nil ?_
         refine wpm_eff rfl rfl (kwa S) ?_
         (obtain ⟨B, eB⟩ : ∃ A, evalO [] (y :: vs) e.1 e.2 = A := ⟨_, rfl⟩; refine wpl_ev0 S rfl rfl rfl rfl rfl rfl (hT.mono mn) (hE.mono mn) k74 (gvb_cons gy gB) (hXc.mono (fun b o h => hF74 _ _ (hF73 _ _ (hF71 _ _ (hF70 _ _ (hFn _ _ (hF48 _ _ (hFe _ _ (hFd _ _ h))))))))) gE eB ?_; clear S a; intro xa75 xb75 F75 a w hF75 q75 S)
         (have hBA : B = A := (by rw [← eB, ← eA]; exact eval_more hmy hnu); subst hBA)
         refine wpList_nil ?_
         iterate 3 (refine wpm_p S rfl rfl rfl (want_none _ rfl) rfl rfl ?_; clear S a; intro a S)
         refine wpm_eff rfl rfl (kwa S) ?_
         (refine wpl_storeO S rfl rfl rfl rfl rfl (by rfl) (by simp [Value.cells, Value.oneCell', splice]) (by rfl) ?_; clear S; intro w S)
         refine wpList_nil ?_
         refine wpm_eff rfl rfl (kwa S) ?_
         (revert S a; refine go00 2 ?_; intro a S)
         refine wpm_nil (kwa S) ?_
         (refine hZ _ _ ?_)
         exact zzEwJ3
       (skip; (try simp only [tq] at h))
       refine wp_skip ?_
       (refine hZ _ _ ?_)
       (first | (refine ⟨Fk, _, _, rfl, rfl, hFk, ?_⟩; refine S.keep ?_; repeat (first | exact trivial | refine ⟨rfl, ?_⟩)) | (refine ⟨Fn, _, _, rfl, rfl, fun _ _ h => h, ?_⟩; refine S.keep ?_; repeat (first | exact trivial | refine ⟨rfl, ?_⟩))))
      (refine wpc_mixM [0, 1, 4, 5, 6] [0] [] (.one 0 (.one 1 (.two 2 7 (.two 3 7 (.one 4 (.one 5 (.one 6 (.one 7 (.one 8 (.one 9 .nil)))))) (.one 3 (.one 4 (.one 5 (.one 6 (.one 8 (.one 9 .nil))))))) (.one 2 (.one 3 (.one 4 (.one 5 (.one 6 (.one 8 (.one 9 .nil)))))))))) [] S mixed (by kernel_rfl) ?_; clear S; intro w S)
      (refine wpm_lateF S rfl rfl rfl (want_none _ rfl) rfl rfl (fun w' S => sv_loadAF S rfl rfl (Cels.mono (fun b o h => hFd _ _ h) c4) (by rfl)) ?_; clear S a; intro a S)
      (refine wpm_p S rfl rfl rfl (want_none _ rfl) rfl rfl ?_; clear S a; intro a S)
      refine wpm_two rfl rfl (kwa S) ?_ ?_
      · skip
        (refine wpl_bind S rfl rfl rfl rfl rfl rfl hvn hvz (hvc.mono (fun b o h => hFd _ _ h)) ?_; clear S a; intro ab43 cb43 Fy43 a w hFy43 k43 S)
        refine wpList_nil ?_
        refine wpm_two rfl rfl (kwa S) ?_ ?_
        · skip
          (obtain ⟨A, eA⟩ : ∃ A, evalO [] vs e.1 e.2 = A := ⟨_, rfl⟩; refine wpl_ev0 S rfl rfl rfl rfl rfl rfl (hT.mono mn) (hE.mono mn) k43 gB (hXc.mono (fun b o h => hFy43 _ _ (hFd _ _ h))) gE eA ?_; clear S a; intro xa44 xb44 F44 a w hF44 q44 S)
          refine wpList_nil ?_
          iterate 3 (refine wpm_p S rfl rfl rfl (want_none _ rfl) rfl rfl ?_; clear S a; intro a S)
          refine wpm_eff rfl rfl (kwa S) ?_
          (refine wpl_alloc S rfl rfl rfl rfl ?_; clear S a; intro b9 a w S)
          refine wpList_nil ?_
          refine wpm_eff rfl rfl (kwa S) ?_
          (refine wpl_storeO S rfl rfl rfl rfl rfl (by rfl) (by simp [Value.cells, Value.oneCell', splice]) (by rfl) ?_; clear S; intro w S)
          refine wpList_nil ?_
          refine wpm_eff rfl rfl (kwa S) ?_
          (revert S a; refine go00 2 ?_; intro a S)
          refine wpm_nil (kwa S) ?_
          (refine hZ _ _ ?_)
          exact zzEwJ4
        skip
        (refine wpl_alloc S rfl rfl rfl rfl ?_; clear S a; intro b9 a w S)
        refine wpList_nil ?_
        refine wpm_eff rfl rfl (kwa S) ?_
        (obtain ⟨A, eA⟩ : ∃ A, evalO [] vs e.1 e.2 = A := ⟨_, rfl⟩; refine wpl_ev0 S rfl rfl rfl rfl rfl rfl (hT.mono mn) (hE.mono mn) k43 gB (hXc.mono (fun b o h => hFy43 _ _ (hFd _ _ h))) gE eA ?_; clear S a; intro xa44 xb44 F44 a w hF44 q44 S)
        refine wpList_nil ?_
        iterate 3 (refine wpm_p S rfl rfl rfl (want_none _ rfl) rfl rfl ?_; clear S a; intro a S)
        refine wpm_eff rfl rfl (kwa S) ?_
        (refine wpl_storeO S rfl rfl rfl rfl rfl (by rfl) (by simp [Value.cells, Value.oneCell', splice]) (by rfl) ?_; clear S; intro w S)
        refine wpList_nil ?_
        refine wpm_eff rfl rfl (kwa S) ?_
        (revert S a; refine go00 2 ?_; intro a S)
        refine wpm_nil (kwa S) ?_
        (refine hZ _ _ ?_)
        exact zzEwJ4
      skip
      (refine wpl_alloc S rfl rfl rfl rfl ?_; clear S a; intro b9 a w S)
      refine wpList_nil ?_
      refine wpm_eff rfl rfl (kwa S) ?_
      (refine wpl_bind S rfl rfl rfl rfl rfl rfl hvn hvz (hvc.mono (fun b o h => hFd _ _ h)) ?_; clear S a; intro ab43 cb43 Fy43 a w hFy43 k43 S)
      refine wpList_nil ?_
      refine wpm_eff rfl rfl (kwa S) ?_
      (obtain ⟨A, eA⟩ : ∃ A, evalO [] vs e.1 e.2 = A := ⟨_, rfl⟩; refine wpl_ev0 S rfl rfl rfl rfl rfl rfl (hT.mono mn) (hE.mono mn) k43 gB (hXc.mono (fun b o h => hFy43 _ _ (hFd _ _ h))) gE eA ?_; clear S a; intro xa44 xb44 F44 a w hF44 q44 S)
      refine wpList_nil ?_
      iterate 3 (refine wpm_p S rfl rfl rfl (want_none _ rfl) rfl rfl ?_; clear S a; intro a S)
      refine wpm_eff rfl rfl (kwa S) ?_
      (refine wpl_storeO S rfl rfl rfl rfl rfl (by rfl) (by simp [Value.cells, Value.oneCell', splice]) (by rfl) ?_; clear S; intro w S)
      refine wpList_nil ?_
      refine wpm_eff rfl rfl (kwa S) ?_
      (revert S a; refine go00 2 ?_; intro a S)
      refine wpm_nil (kwa S) ?_
      (refine hZ _ _ ?_)
      exact zzEwJ4
    (intro h; clear S a; intro a S; (try simp only [tq] at h))
    (revert S a; revert hZ Z; refine go10 6 ?_; intro a S)
    refine wpc_true S rfl ?_
    refine wp_sr fun Z hZ => ?_
    (refine wpl_call0 S rfl rfl rfl rfl rfl rfl (by first | exact worksCt Fd (hT.mono (fun b o h => hFd _ _ (hFc _ _ (hFb _ _ (hFa _ _ h))))) (hE.mono (fun b o h => hFd _ _ (hFc _ _ (hFb _ _ (hFa _ _ h))))) | exact worksCt Fc (hT.mono (fun b o h => hFc _ _ (hFb _ _ (hFa _ _ h)))) (hE.mono (fun b o h => hFc _ _ (hFb _ _ (hFa _ _ h))))) rfl ?_; clear S a; intro v a w hv S; subst hv)
    skip
    (revert S a; revert hZ Z; refine go10 3 ?_; intro a S)
    refine wp_ret (fin_ret S (results1 Tryz.results4 (RV.tmp S rfl)) ?_)
    (first | rfl | trace_state)
  (intro h; clear S a; intro a S; (try simp only [tq] at h))
  (revert S a; revert hZ Z; refine go10 12 ?_; intro a S)
  refine wpc_true S rfl ?_
  refine wp_sr fun Z hZ => ?_
  (refine wpl_call0 S rfl rfl rfl rfl rfl rfl (by first | exact worksCt Fd (hT.mono (fun b o h => hFd _ _ (hFc _ _ (hFb _ _ (hFa _ _ h))))) (hE.mono (fun b o h => hFd _ _ (hFc _ _ (hFb _ _ (hFa _ _ h))))) | exact worksCt Fc (hT.mono (fun b o h => hFc _ _ (hFb _ _ (hFa _ _ h)))) (hE.mono (fun b o h => hFc _ _ (hFb _ _ (hFa _ _ h))))) rfl ?_; clear S a; intro v a w hv S; subst hv)
  skip
  (revert S a; revert hZ Z; refine go10 3 ?_; intro a S)
  refine wp_ret (fin_ret S (results1 Tryz.results4 (RV.tmp S rfl)) ?_)
  (first | rfl | trace_state)
end Go.Proofs.YtigblodhdfnleaaGreatDoor
