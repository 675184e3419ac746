/- Walks. -/
import Derived.Test.YthnafdbebniapaaGreatDoorQ29
import Derived.Test.YthnafdbebniapaaGreatDoorQ25
import Derived.Test.YthnafdbebniapaaGreatDoorQ12
import Derived.Test.YthnafdbebniapaaGreatDoorQTy
import Derived.Test.YthnafdbebniapaaGreatDoorQ22
set_option maxHeartbeats 8000000
namespace Go.Proofs.YthnafdbebniapaaGreatDoor
open Go Go.Wk Go.Un Go.De Go.Cv
set_option linter.unusedSimpArgs false
set_option linter.unusedVariables false
attribute [local irreducible] Go.wpList Go.Code.wp Go.wpStill Go.Wk.wpPre Go.bodyPost Go.Calls Go.Wk.Ct Go.Wk.OwnS Go.Wk.wpG Go.Wk.wpM
def TyB (n : Nat) (t : Ty) : Prop := ThinT t ∧ depthL t.2 + 1000 * n ≤ 100000000
def RoB (K n : Nat) (r : Ef) : Prop := RwOK r ∧ r.size + n * K ≤ 100000000
theorem appR_size {α : Type} : ∀ l m : Rose α, (appR l m).size = l.size + m.size
 | .nil, m => by show m.size = 0 + m.size; omega
 | .cons a L r, m => by show L.size + (appR r m).size + 1 = L.size + r.size + 1 + m.size; rw [appR_size r m]; omega
theorem anys_size (r : Ef) : ∀ n, (anys n r).size = n + r.size
 | 0 => by show r.size = _; omega
 | n + 1 => by show 0 + (anys n r).size + 1 = _; rw [anys_size r n]; omega
theorem as_size {τ : Type} (f : Frm τ) (r : Ef) : (asR showV f r).1.size ≤ f.tys.length + r.size := by
 cases r with
 | nil => exact Nat.zero_le _
 | cons eh A r =>
  have h3 : (Rose.cons eh A r).size = A.size + r.size + 1 := rfl
  cases hh : hdO showV eh with
  | none => rw [as_none hh, anys_size]; omega
  | some s => rw [as_some hh, appR_size]; omega
theorem spec_mem {τ : Type} {f : Frm τ} {rows : List Ef} {r : Ef} (h : r ∈ specR showV f rows) : ∃ x ∈ rows, r = (asR showV f x).1 := by
 obtain ⟨x, hx, rfl⟩ := List.mem_map.1 h
 exact ⟨x, (List.mem_filter.1 hx).1, rfl⟩
theorem rest_mem {rows : List Ef} {r : Ef} (h : r ∈ restR showV rows) : ∃ x ∈ rows, r = tlR x := by
 obtain ⟨x, hx, rfl⟩ := List.mem_map.1 h
 exact ⟨x, (List.mem_filter.1 hx).1, rfl⟩
theorem tl_size (r : Ef) : (tlR r).size ≤ r.size := by
 cases r with
 | nil => exact Nat.le_refl _
 | cons h L r => show r.size ≤ L.size + r.size + 1; omega
theorem tl_ok {r : Ef} (h : RwOK r) : RwOK (tlR r) := by
 cases r with
 | nil => exact h
 | cons eh A r => exact ⟨h.1.2.2, h.2.2.2⟩
theorem rwOK_as' {τ : Type} {f : Frm τ} {r : Ef} (h : RwOK r) : RwOK (asR showV f r).1 := by
 cases r with
 | nil => exact h
 | cons eh A r =>
  obtain ⟨⟨h1, h2, h3⟩, h4, h5, h6⟩ := h
  cases hh : hdO showV eh with
  | none => rw [as_none hh]; exact rwOK_anys ⟨h3, h6⟩ _
  | some s => rw [as_some hh]; exact rwOK_app ⟨h2, h5⟩ ⟨h3, h6⟩
theorem RoB.as {τ : Type} {K n : Nat} {f : Frm τ} {r : Ef} (h : RoB K (n + 1) r) (hf : f.tys.length ≤ K) : RoB K n (asR showV f r).1 := by
 refine ⟨rwOK_as' h.1, ?_⟩
 have h1 := as_size f r
 have h2 := h.2
 rw [Nat.add_mul] at h2
 omega
theorem RoB.tl {K n : Nat} {r : Ef} (h : RoB K (n + 1) r) : RoB K n (tlR r) := by
 refine ⟨tl_ok h.1, ?_⟩
 have h1 := tl_size r
 have h2 := h.2
 rw [Nat.add_mul] at h2
 omega
theorem all_types {ts : List TD} {css : List KC} (hKT : KThin css) (hKD : ∀ c ∈ css, ∀ f ∈ c.fs, depthL f.ta ≤ 1000) {t : Ty} {fs : List (Frm Ty)} (ha : allF ts css t = some fs) {f : Frm Ty} (hf : f ∈ fs) (hth : ThinT t) : ∀ y ∈ f.tys, ThinT y ∧ depthL y.2 ≤ depthL t.2 + 1000 := by
 unfold allF at ha
 split at ha
 ·cases ha
 ·split at ha
  ·cases ha
   intro y hy
   rcases List.mem_cons.1 hf with rfl | hf
   ·cases hy
   ·rw [List.mem_singleton] at hf; subst hf; cases hy
  ·split at ha
   ·cases ha
    rw [List.mem_singleton] at hf
    subst hf
    intro y hy
    obtain ⟨k, hk⟩ := mem_tys hy
    have := depthL_get hk
    exact ⟨hth.2.get hk, by omega⟩
   ·cases ha
    intro y hy
    have key : ∀ c : By, y ∈ putsF css c t.2 → ThinT y ∧ depthL y.2 ≤ depthL t.2 + 1000 := by
     intro c hy
     unfold putsF at hy
     cases hc : findC css c with
     | none => rw [hc] at hy; cases hy
     | some k =>
      rw [hc] at hy
      dsimp only at hy
      obtain ⟨g, hg, rfl⟩ := List.mem_map.1 hy
      have h1 := hKT k (findC_mem hc) g hg
      have h2 := hKD k (findC_mem hc) g hg
      have h3 := depth_putT (ps := k.ps) (L := t.2) (g.tn, g.ta)
      exact ⟨ThinT.put hth.2 h1, by show depthL (putT k.ps t.2 (g.tn, g.ta)).2 ≤ _; have h4 : depthL (g.tn, g.ta).2 ≤ 1000 := h2; omega⟩
    split at hf
    ·obtain ⟨c, hc, rfl⟩ := List.mem_map.1 hf
     exact key c.nm hy
    ·cases hf
abbrev FTl (ts : List TD) (xs : List LTy) (r : Ef) : Prop := FT showV (allL ts (consOf ts)) (kidL (consOf ts)) xs r
theorem ug_of {ts : List TD} {K n : Nat} {xs : List LTy} {rows : List Ef} {q : Ef} (hn : n ≤ 1000000) (hm : msr K xs rows q < n) (hx : ∀ x ∈ xs, TyB n x.2) (hr : ∀ r ∈ rows, FTl ts xs r ∧ RoB K n r) (hq : FTl ts xs q ∧ RoB K n q) (hl : rows.length ≤ 100000000) : UG (xs.map Prod.snd) rows q := by
 have hxl : xs.length < n := by unfold msr at hm; omega
 refine ⟨fun y hy => ?_, by rw [List.length_map]; omega, fun r hr2 => ?_, hl, ?_⟩
 ·obtain ⟨x, h1, rfl⟩ := List.mem_map.1 hy
  have := hx x h1
  exact ⟨this.1, by have := this.2; omega⟩
 ·obtain ⟨h1, h2, h3⟩ := hr r hr2
  exact ⟨h2, by rw [List.length_map]; exact h1.len, by omega⟩
 ·obtain ⟨h1, h2, h3⟩ := hq
  exact ⟨h2, by rw [List.length_map]; exact h1.len, by omega⟩
theorem snd_lv (d : Nat) (l : List Ty) : (l.map (Prod.mk d)).map Prod.snd = l := by rw [List.map_map, show (Prod.snd ∘ Prod.mk d : Ty → Ty) = id from rfl, List.map_id]
theorem TyB.step {n : Nat} {t y : Ty} (h : TyB (n + 1) t) (h1 : ThinT y ∧ depthL y.2 ≤ depthL t.2 + 1000) : TyB n y := ⟨h1.1, by have := h.2; omega⟩
theorem TyB.succ {n : Nat} {t : Ty} (h : TyB (n + 1) t) : TyB n t := ⟨h.1, by have := h.2; omega⟩
theorem ur_of {ts : List TD} (hT : TOk ts) (hKT : KThin (consOf ts)) (hKD : ∀ c ∈ consOf ts, ∀ f ∈ c.fs, depthL f.ta ≤ 1000) : ∀ (n : Nat) (xs : List LTy) (rows : List Ef) (q : Ef), msr (arK ts) xs rows q < n → n ≤ 1000000 → (∀ x ∈ xs, Wn ts x.2 ∧ TyB n x.2) → (∀ r ∈ rows, FTl ts xs r ∧ RoB (arK ts) n r) → FTl ts xs q ∧ RoB (arK ts) n q → rows.length ≤ 100000000 →
  UR ts (consOf ts) n (xs.map Prod.snd) rows q
 | 0, _, _, _, h, _, _, _, _, _ => absurd h (Nat.not_lt_zero _)
 | n + 1, [], rows, q, hm, hn, hx, hr, hq, hl => ug_of hn hm (fun x h => (hx x h).2) hr hq hl
 | n + 1, x :: xs, rows, q, hm, hn, hx, hr, hq, hl => by
  have hug := ug_of hn hm (fun x h => (hx x h).2) hr hq hl
  have hx1 := (hx x (List.mem_cons_self ..)).1
  have hb1 := (hx x (List.mem_cons_self ..)).2
  have hx2 : ∀ y ∈ xs, Wn ts y.2 ∧ TyB n y.2 := fun y hy => ⟨(hx y (List.mem_cons_of_mem _ hy)).1, (hx y (List.mem_cons_of_mem _ hy)).2.succ⟩
  have hO := lv_ok hT
  have hrows : ∀ r ∈ rows, FTl ts (x :: xs) r := fun r h => (hr r h).1
  have hrl := restR_nodes (sh := showV) rows
  have hrestB : ∀ r ∈ restR showV rows, FTl ts xs r ∧ RoB (arK ts) n r := fun r h => ⟨rest_FT hrows r h, by obtain ⟨y, hy, rfl⟩ := rest_mem h; exact (hr y hy).2.tl⟩
  have hrestl : (restR showV rows).length ≤ 100000000 := Nat.le_trans (rest_len rows) hl
  have hspl : ∀ f : Frm Ty, (specR showV f rows).length ≤ 100000000 := fun f => Nat.le_trans (spec_len f rows) hl
  obtain ⟨hqF, hqB⟩ := hq
  unfold msr at hm
  rw [List.length_cons] at hm
  cases hqF with
  | any hnn hr1 =>
   rename_i h L r
   have hrB : RoB (arK ts) n r := hqB.tl
   have hlt : msr (arK ts) xs (restR showV rows) r < n := by
    unfold msr
    have h1 : nodes r ≤ nodes (.cons h L r) := by show _ ≤ _ + _ + _; omega
    have h2 : (nodesR (restR showV rows) + nodes r) * (arK ts + 2) ≤ (nodesR rows + nodes (.cons h L r)) * (arK ts + 2) := Nat.mul_le_mul_right _ (by omega)
    omega
   have rest : UR ts (consOf ts) n (xs.map Prod.snd) (restR showV rows) r := ur_of hT hKT hKD n xs _ r hlt (by omega) hx2 hrestB ⟨hr1, hrB⟩ hrestl
   rw [List.map_cons]
   refine ⟨hug, ?_⟩
   rw [hnn]
   dsimp only
   cases ha : allF ts (consOf ts) x.2 with
   | none => exact rest
   | some fs =>
    dsimp only
    split
    ·rename_i hall
     intro f hf
     obtain ⟨d, x⟩ := x
     cases d with
     | zero =>
      exfalso
      have hs : seenR showV rows = [] := seen_none fun r0 h0 => by
       cases hrows r0 h0 with
       | any hn2 _ => exact hn2
       | lit _ _ hk _ => cases hk
       | form ha2 _ _ _ _ _ => cases ha2
      have := List.all_eq_true.1 hall f hf
      rw [hs] at this
      cases of_decide_eq_true this
     | succ d =>
      have ha' : allL ts (consOf ts) (d + 1, x) = some (fs.map (lvF d)) := by
       show Option.map _ (allF ts (consOf ts) x) = _
       rw [show allF ts (consOf ts) x = some fs from ha]; rfl
      have hf' : lvF d f ∈ fs.map (lvF d) := List.mem_map.2 ⟨f, hf, rfl⟩
      have hk := hO.kids hx1 ha' hf'
      have e3 : (lvF d f).tys.length = f.tys.length := List.length_map _
      have hty := all_types hKT hKD (show allF ts (consOf ts) x = some fs from ha) hf hb1.1
      have h1 := (specR_nodes (sh := showV) f rows).2 (of_decide_eq_true (List.all_eq_true.1 hall f hf))
      have hfin := ur_of hT hKT hKD n ((lvF d f).tys ++ xs) (specR showV f rows) (anys f.tys.length r) (by
       unfold msr
       rw [nodes_anys, List.length_append]
       have h2 : nodes r ≤ nodes (.cons h L r) := by show _ ≤ _ + _ + _; omega
       have h3 : (nodesR (specR showV f rows) + nodes r + 1) * (arK ts + 2) ≤ (nodesR rows + nodes (.cons h L r)) * (arK ts + 2) := Nat.mul_le_mul_right _ (by omega)
       rw [Nat.add_mul, Nat.one_mul] at h3
       have := hk.1
       omega) (by omega) (fun y hy => by
        rcases List.mem_append.1 hy with hy | hy
        ·refine ⟨hk.2 y hy, ?_⟩
         obtain ⟨z, hz, rfl⟩ := List.mem_map.1 hy
         exact hb1.step (hty z hz)
        ·exact hx2 y hy) (fun r0 h0 => by
        rw [← spec_congr (f := lvF d f) (g := f) rfl e3] at h0
        refine ⟨spec_FT hO hx1 ha' hf' hrows r0 h0, ?_⟩
        obtain ⟨y, hy, rfl⟩ := spec_mem h0
        exact (hr y hy).2.as hk.1) ⟨by rw [← e3]; exact FT.anys hr1 _, by
        have := hqB.as (f := f) (by rw [← e3]; exact hk.1)
        rw [as_none hnn] at this
        exact this⟩ (hspl f)
      rw [List.map_append, show (lvF d f).tys.map Prod.snd = f.tys from snd_lv d f.tys] at hfin
      exact hfin
    ·exact rest
  | lit hnn ha hk hr1 =>
   rename_i h s r
   obtain ⟨d, x⟩ := x
   cases d with
   | zero => cases hk
   | succ d =>
    have hk2 : kidF (consOf ts) h 0 x = [] := List.map_eq_nil_iff.1 hk
    rw [List.map_cons]
    refine ⟨hug, ?_⟩
    rw [hnn]
    show UR ts (consOf ts) n (kidF (consOf ts) h 0 x ++ xs.map Prod.snd) (specR showV ⟨s, kidF (consOf ts) h 0 x⟩ rows) r
    rw [hk2]
    have h1 := (specR_nodes (sh := showV) (⟨s, []⟩ : Frm LTy) rows).1
    have hfin := ur_of hT hKT hKD n xs (specR showV (⟨s, []⟩ : Frm LTy) rows) r (by
     unfold msr
     have h2 : (nodesR (specR showV (⟨s, []⟩ : Frm LTy) rows) + nodes r) * (arK ts + 2) ≤ (nodesR rows + nodes (.cons h .nil r)) * (arK ts + 2) := Nat.mul_le_mul_right _ (by have : nodes r ≤ nodes (.cons h .nil r) := (by show _ ≤ _ + _ + _; omega); omega)
     omega) (by omega) hx2 (fun r0 h0 => by
      refine ⟨lit_FT ha hrows r0 h0, ?_⟩
      obtain ⟨y, hy, rfl⟩ := spec_mem h0
      exact (hr y hy).2.as (Nat.zero_le _)) ⟨hr1, hqB.tl⟩ (by rw [spec_congr (f := (⟨s, []⟩ : Frm LTy)) (g := (⟨s, []⟩ : Frm Ty)) rfl rfl]; exact hspl _)
    rw [spec_congr (f := (⟨s, []⟩ : Frm LTy)) (g := (⟨s, []⟩ : Frm Ty)) rfl rfl] at hfin
    exact hfin
  | form ha hf hnn hk hL hr1 =>
   rename_i h L r fs f
   have hkk := hO.kids hx1 ha hf
   obtain ⟨d, x⟩ := x
   cases d with
   | zero => cases ha
   | succ d =>
    have ek : f.tys = (kidF (consOf ts) h L.len x).map (Prod.mk d) := hk.symm
    have el : f.tys.length = (kidF (consOf ts) h L.len x).length := by rw [ek, List.length_map]
    have hty := kid_types hKT hKD (h := h) (n := L.len) hb1.1
    rw [List.map_cons]
    refine ⟨hug, ?_⟩
    rw [hnn]
    show UR ts (consOf ts) n (kidF (consOf ts) h L.len x ++ xs.map Prod.snd) (specR showV ⟨f.nm, kidF (consOf ts) h L.len x⟩ rows) (appR L r)
    have h1 := (specR_nodes (sh := showV) f rows).1
    have hfin := ur_of hT hKT hKD n (f.tys ++ xs) (specR showV f rows) (appR L r) (by
     unfold msr
     have h2 : nodes (.cons h L r) = 1 + nodes L + nodes r := by show _ + _ + _ = _; rw [if_pos (hd_node hnn)]
     rw [h2] at hm
     rw [nodes_app, List.length_append]
     have h3 : (nodesR (specR showV f rows) + (nodes L + nodes r) + 1) * (arK ts + 2) ≤ (nodesR rows + (1 + nodes L + nodes r)) * (arK ts + 2) := Nat.mul_le_mul_right _ (by omega)
     rw [Nat.add_mul, Nat.one_mul] at h3
     have := hkk.1
     omega) (by omega) (fun y hy => by
      rcases List.mem_append.1 hy with hy | hy
      ·refine ⟨hkk.2 y hy, ?_⟩
       rw [ek] at hy
       obtain ⟨z, hz, rfl⟩ := List.mem_map.1 hy
       exact hb1.step (hty z hz)
      ·exact hx2 y hy) (fun r0 h0 => by
      refine ⟨spec_FT hO hx1 ha hf hrows r0 h0, ?_⟩
      obtain ⟨y, hy, rfl⟩ := spec_mem h0
      exact (hr y hy).2.as hkk.1) ⟨hL.app hr1, by
      have := hqB.as (f := f) hkk.1
      rw [as_some hnn] at this
      exact this⟩ (by rw [spec_congr (f := f) (g := (⟨f.nm, kidF (consOf ts) h L.len x⟩ : Frm Ty)) rfl el]; exact hspl _)
    rw [List.map_append, spec_congr (f := f) (g := (⟨f.nm, kidF (consOf ts) h L.len x⟩ : Frm Ty)) rfl el] at hfin
    rw [show f.tys.map Prod.snd = kidF (consOf ts) h L.len x by rw [ek]; exact snd_lv d _] at hfin
    exact hfin
theorem zzIt0 {p : Prop} (h : p := by (rw [hfp]; first | (rw [idxF_at (by omega), if_pos (by assumption)]; done) | (rw [idxF_end (by omega)]; done) | trace_state)) : p := h
theorem ixTCt (F : Heap) (v : Value) (n : Nat) (C : Nat → List Value → Prop) (h : Sq F 2 v n C) (fid : FuncId) (fi ca : List Value) [hfn : HasFn Tryz.prog fid] (p : Nat → Bool)
  (hcl : ∀ k cs, k < n → C k cs → Ct Tryz.prog fid (fi ++ [.agg ⟨cs⟩] ++ ca) F [] (fun _ _ u => u = .bool (p k))) :
  Ct Tryz.prog 145 [v, .func (.func fid) ⟨fi⟩ ⟨ca⟩] F [] (fun _ _ u => u = .int .i64 (idxN p n)) := by
 obtain ⟨ao, cap, rfl, hcap, hpos⟩ := h
 refine Ct.enter Tryz.func145 rfl Tryz.ntmps145 rfl fun w0 a S => ?_
 (revert S a; refine go 12 ?_; intro Z hZ a S)
 refine wpc_loop (fun m a w' => ∃ (k : Nat), m = n - k ∧ k ≤ n ∧ idxN p n = idxF p k (n - k) ∧ St 19 [(0, .slice ao n cap), (1, .func (.func fid) ⟨fi⟩ ⟨ca⟩), (7, .int .i64 n), (8, .int .i64 k)] w0 F [] F [] a w') ?_ ?_
 ·(refine ⟨n, 0, by omega, Nat.zero_le _, rfl, ?_⟩; refine S.keep ?_; exact zk)
 (clear S; rintro m a w ⟨k, rfl, hkl, hfp, S⟩)
 (revert S a; refine go 5 ?_; intro Z hZ a S)
 refine wpc_sp S rfl ?_ ?_ <;> intro h
 ·(revert S a; revert hZ Z; refine go 9 ?_; intro Z hZ a S)
  (refine wp_seq_k ?_; intro Z hZ)
  (obtain ⟨b8, o8, rfl, cs1, hc1, hl1, hC⟩ := Sq.pos hpos (k := k) (by omega))
  (revert S a; refine go 5 ?_; intro a S)
  (refine wv S (sv_loadAF S rfl rfl hc1 hl1) ?_; clear S a; intro a S)
  (refine wc0 S (hcl k _ (by omega) hC) ?_; clear S a; intro v a w hv S; subst hv)
  (revert S a; revert hZ Z; refine go 2 ?_; intro a S)
  refine wpc_sp S rfl ?_ ?_ <;> intro h
  ·(revert S a; refine go 5 ?_; intro a S)
   refine wp_ret (fr1 S Tryz.results145 ?_)
   exact zzIt0
  (revert S a; revert hZ Z; refine go 6 ?_; intro a S)
  change ∃ m', _ ∧ _
  (refine ⟨n - (k + 1), by omega, k + 1, rfl, by omega, ?_, ?_⟩; rotate_left 1; (refine S.keep ?_; exact zk); rw [hfp, idxF_at (by omega), if_neg (by rw [(by assumption : p k = false)]; decide)])
 (refine wp_exit ?_; conv => whnf)
 clear hZ Z
 (revert S a; revert hZ Z; refine go 5 ?_; intro a S)
 refine wp_ret (fr1 S Tryz.results145 ?_)
 exact zzIt0
theorem cfTCt (F : Heap) (v : Value) (n : Nat) (C : Nat → List Value → Prop) (h : Sq F 2 v n C) (fid : FuncId) (fi ca : List Value) [hfn : HasFn Tryz.prog fid] (p : Nat → Bool)
  (hcl : ∀ k cs, k < n → C k cs → Ct Tryz.prog fid (fi ++ [.agg ⟨cs⟩] ++ ca) F [] (fun _ _ u => u = .bool (p k))) :
  Ct Tryz.prog 89 [v, .func (.func fid) ⟨fi⟩ ⟨ca⟩] F [] (fun _ _ u => u = .bool (anyN p n)) := by
 have hc := ixTCt F v n C h fid fi ca p hcl
 obtain ⟨ao, cap, rfl, hcap, hpos⟩ := h
 refine Ct.enter Tryz.func89 rfl Tryz.ntmps89 rfl fun w0 a S => ?_
 (revert S a; refine go 7 ?_; intro Z hZ a S)
 (refine wc0 S (hc) ?_; clear S a; intro v a w hv S; subst hv)
 (revert S a; revert hZ Z; refine go 4 ?_; intro a S)
 refine wp_ret (fr1 S Tryz.results89 ?_)
 rfl
def rowF (ts : List TD) (xs : List Ty) (r : Ef) : Bool := eqE (fun h L t => FitsF ts h L t) r xs
def chkR (ts : List TD) (xs : List Ty) : List Ef → Int
 | [] => 0
 | r :: rs => if rowF ts xs r = false then 70 else if (vrL r []).length ≠ cntL r then 74 else chkR ts xs rs
def chkE (ts : List TD) (xs : List Ty) (rows : List Ef) : Int := if (xs.any fun x => !wellT ts x) = true then 70 else chkR ts xs rows
theorem chkR_at {ts : List TD} {xs : List Ty} {rows : List Ef} {k : Nat} {r : Ef} (hx : rows[k]? = some r) : chkR ts xs (rows.drop k) = if rowF ts xs r = false then 70 else if (vrL r []).length ≠ cntL r then 74 else chkR ts xs (rows.drop (k + 1)) := by
 obtain ⟨h1, h2⟩ := List.getElem?_eq_some_iff.1 hx
 rw [List.drop_eq_getElem_cons h1, h2]; rfl
theorem well1Ct (F : Heap) (tb : Nat) (ts : List TD) (hT : CTab F tb ts) (d3 : Nat) (hd3 : Cel F d3 0 (.pointer (some ⟨tb, 0, none⟩))) (t : Ty) (cs2 : List Value) (hty : TyC F cs2 t.1 t.2) (hd : depthL t.2 ≤ 100000000) :
  Ct Tryz.prog 90 ([] ++ [.agg ⟨cs2⟩] ++ [.pointer (some ⟨d3, 0, none⟩)]) F [] (fun _ _ u => u = .bool (!wellT ts t)) := by
 have h1 := cwellCt F tb ts hT t cs2 hty hd
 obtain ⟨va, rfl, hva⟩ := hty
 obtain ⟨aa, ca, rfl, -, -⟩ := hva
 refine Ct.enter Tryz.func90 rfl Tryz.ntmps90 rfl fun w0 a S => ?_
 refine wp_sr fun Z hZ => ?_
 (refine wbx S ?_; clear S a; intro b2 a w S)
 (revert S a; revert hZ Z; refine go 4 ?_; intro Z hZ a S)
 (refine wv S (sv_loadF S rfl rfl hd3) ?_; clear S a; intro a S)
 (revert S a; refine go 1 ?_; intro a S)
 (refine wc0 S (h1) ?_; clear S a; intro v a w hv S; subst hv)
 (revert S a; revert hZ Z; refine go 4 ?_; intro a S)
 refine wp_ret (fr1 S Tryz.results90 ?_)
 rfl
theorem fits2Ct (F : Heap) (hM : MaxF F) (tb : Nat) (ts : List TD) (hT : CTab F tb ts) (d3 : Nat) (hd3 : Cel F d3 0 (.pointer (some ⟨tb, 0, none⟩))) (eh : EH) (L : Ef) (cs : List Value) (t : Ty) (cs2 : List Value) (hX : PxC F cs eh L) (hb : BndH eh) (hbl : BndL L) (hty : TyC F cs2 t.1 t.2) (hth : ThinT t) (hd : depthL t.2 + 2000 * L.size ≤ 100000000) :
  Ct Tryz.prog 91 ([] ++ [.agg ⟨cs⟩, .agg ⟨cs2⟩] ++ [.pointer (some ⟨d3, 0, none⟩)]) F [] (fun _ _ u => u = .bool (FitsF ts eh L t)) := by
 have h1 := FitsCt F hM tb ts hT eh L cs t cs2 hX hb hbl hty hth hd
 obtain ⟨a1, n1, c1, ao, cap, rfl, -, -⟩ := hX
 obtain ⟨va, rfl, hva⟩ := hty
 obtain ⟨aa, ca, rfl, -, -⟩ := hva
 refine Ct.enter Tryz.func91 rfl Tryz.ntmps91 rfl fun w0 a S => ?_
 refine wp_sr fun Z hZ => ?_
 (refine wbx S ?_; clear S a; intro b3 a w S)
 (refine wbx S ?_; clear S a; intro b4 a w S)
 (revert S a; revert hZ Z; refine go 4 ?_; intro Z hZ a S)
 (refine wv S (sv_loadF S rfl rfl hd3) ?_; clear S a; intro a S)
 (revert S a; refine go 2 ?_; intro a S)
 (refine wc0 S (h1) ?_; clear S a; intro v a w hv S; subst hv)
 (revert S a; revert hZ Z; refine go 3 ?_; intro a S)
 refine wp_ret (fr1 S Tryz.results91 ?_)
 rfl
def tupE : EH := ⟨4, 0, 0, [], ⟨0, 0, []⟩, .nil⟩
theorem tup_px {F : Heap} {v : Value} {r : Ef} (h : TrS F 9 EhR v r) : PxC F [.int .u8 4, .int .i64 0, .int .i64 0, .string (bs []), .int .u8 0, .int .i64 0, .string (bs []), .slice none 0 0, v] tupE r := by
 obtain ⟨ao, cap, rfl, -, -⟩ := id h
 exact ⟨none, 0, 0, ao, cap, rfl, TrS.nil _ _ _, h⟩
theorem MaxF.le {F F' : Heap} (h : MaxF F) (hF : ∀ b o, F b = some o → F' b = some o) : MaxF F' := h.mono hF
structure CkB (xs : List Ty) (rows : List Ef) : Prop where
  ty : ∀ x ∈ xs, ThinT x ∧ depthL x.2 ≤ 50000000
  xl : xs.length ≤ 100000000
  rw : ∀ r ∈ rows, BndL r ∧ r.size ≤ 20000
  rl : rows.length ≤ 100000000
theorem zzCz0 {p : Prop} (h : p := by (congr 1; unfold chkE; first | (rw [if_pos (by assumption)]; done) | (rw [if_neg (by rw [(by assumption : (xs.any fun x => !wellT ts x) = false)]; decide), hck]; first | (rw [List.drop_of_length_le (by omega)]; rfl) | (rw [chkR_at hx, if_pos (by unfold rowF; first | assumption | (simp_all; done))]; done) | (rw [chkR_at hx, if_neg (by rw [hfit]; decide), if_pos (by omega)]; done)) | trace_state)) : p := h
theorem checkRCt (F : Heap) (hM : MaxF F) (tb : Nat) (ts : List TD) (hC : CTab F tb ts) (v1 v2 : Value) (xs : List Ty) (rows : List Ef) (hB : CkB xs rows) (h1 : SlF F v1 (foOf xs)) (h2 : LiM F 1 RwR v2 rows) :
  Ct Tryz.prog 53 [.pointer (some ⟨tb, 0, none⟩), v1, v2] F [] (fun _ _ u => u = .int .i64 (chkE ts xs rows)) := by
 have h1L := slf_lim' h1 (by have := hB.xl; omega)
 obtain ⟨a1, c1, rfl, -, -⟩ := id h1
 obtain ⟨a2, c2, rfl, h2c, h2p⟩ := id h2
 refine Ct.enter Tryz.func53 rfl Tryz.ntmps53 rfl fun w0 a S => ?_
 refine wp_sr fun Z hZ => ?_
 (refine wbx S ?_; clear S a; intro b3 a w S)
 (revert S a; revert hZ Z; refine go 4 ?_; intro Z hZ a S)
 (refine wp_seq_k ?_; intro Z hZ)
 (have S' := frz1 S; clear S; obtain ⟨G3, hg3, hb3, S⟩ := S'; have hc3 : Cel G3 b3 0 (.pointer (some ⟨tb, 0, none⟩)) := ⟨_, _, _, hb3, rfl⟩; clear hb3; replace hM := hM.mono hg3; replace hC := hC.mono hg3; replace h1 := h1.mono hg3; replace h1L := h1L.mono hg3; replace h2 := h2.mono hg3; obtain ⟨_, _, eh2, -, h2p⟩ := id h2; cases eh2)
 refine wp_region_lit ?_
 (refine wv S (sv_loadF S rfl rfl hc3) ?_; clear S a; intro a S)
 (refine wv S (sv_lit (c := false) (sv_eqPtrSome S rfl rfl rfl) (by rfl)) ?_; clear S a; intro a S)
 (revert S a; revert hZ Z; refine go 2 ?_; intro a S)
 refine wpc_false S rfl ?_
 (revert S a; revert hZ Z; refine go 6 ?_; intro Z hZ Z hZ a S)
 (have hc := cfTCt G3 _ xs.length _ h1L.sq 90 [] [ptr b3] (fun k => match xs[k]? with | some x => !wellT ts x | none => false) (fun k cs hk ⟨x, hx, hR⟩ => by rw [hx]; exact well1Ct G3 tb ts hC b3 hc3 x cs hR (by have := (hB.ty x (List.mem_of_getElem? hx)).2; omega)); rw [anyN_list (q := fun x => !wellT ts x) (fun k x hx => by rw [hx])] at hc; refine wc0 S hc ?_; clear S a hc; intro v15 a w hv S; subst hv)
 (revert S a; revert hZ Z; refine go 2 ?_; intro a S)
 refine wpc_sp S rfl ?_ ?_ <;> intro h
 ·(revert S a; refine go 4 ?_; intro a S)
  refine wp_ret (fr1 S Tryz.results53 ?_)
  exact zzCz0
 (revert S a; revert hZ Z; refine go 10 ?_; intro Z hZ a S)
 refine wpc_loop (fun m a w' => ∃ (k : Nat) (F5 : Heap), m = rows.length - k ∧ k ≤ rows.length ∧ (∀ b o, G3 b = some o → F5 b = some o) ∧ chkR ts xs rows = chkR ts xs (rows.drop k) ∧ St 38 [(1, .slice a1 (foOf xs).len c1), (3, ptr b3), (16, .slice a2 rows.length c2), (17, .int .i64 rows.length), (18, .int .i64 k)] w0 F [] F5 [] a w') ?_ ?_
 ·(refine ⟨rows.length, 0, G3, by omega, Nat.zero_le _, fun _ _ h => h, rfl, ?_⟩; refine S.keep ?_; exact zk)
 (clear S; rintro m a w ⟨k, F5, rfl, hkl, hF5, hck, S⟩)
 (revert S a; refine go 5 ?_; intro Z hZ a S)
 refine wpc_sp S rfl ?_ ?_ <;> intro h
 ·(revert S a; revert hZ Z; refine go 4 ?_; intro Z hZ a S)
  (refine wp_seq_k ?_; intro Z hZ)
  (obtain ⟨b8, o8, hao, r, cs1, hx, hcr, ⟨u1, rfl, hu1⟩⟩ := LiM.pos h2p (k := k) (by omega); rw [hao] at S; replace hu1 := hu1.mono hF5; replace hcr : Cel F5 b8 (o8 + k * 1) _ := Cel.mono hF5 (hcr 0 _ rfl); obtain ⟨hrb, hrs⟩ := hB.rw r (List.mem_of_getElem? hx); obtain ⟨ar, cr, rfl⟩ := trs_slc hu1)
  (revert S a; refine go 2 ?_; intro a S)
  (refine wv S (sv_loadF S rfl rfl hcr) ?_; clear S a; intro a S)
  (revert S a; revert hZ Z; refine go 8 ?_; intro Z hZ Z hZ a S)
  (have hc := eqETCt F5 r _ hu1 (foOf xs) _ (h1.mono hF5) 91 [] [ptr b3] (fun h L t => FitsF ts h L t) (fun k x y cs cs2 hx1 hy1 hX hT2 => by have hsz := Rose.size_get hx1; have hg := hrb.get hx1; have hym : y ∈ xs := (by rw [← tys_fo xs]; exact List.mem_of_getElem? ((tysOf_get _ k).trans hy1)); have h8 := hB.ty y hym; exact fits2Ct F5 (hM.mono hF5) tb ts (hC.mono hF5) b3 (Cel.mono hF5 hc3) x.1 x.2 cs y cs2 hX hg.1 hg.2 hT2 h8.1 (by omega)); rw [tys_fo] at hc; refine wc0 S hc ?_; clear S a hc; intro v25 a w hv S; subst hv)
  (revert S a; revert hZ Z; refine go 3 ?_; intro a S)
  refine wpc_sp S rfl ?_ ?_ <;> intro h
  ·(revert S a; refine go 4 ?_; intro a S)
   refine wp_ret (fr1 S Tryz.results53 ?_)
   exact zzCz0
  refine wp_skip ?_
  (refine hZ _ _ ?_; clear hZ Z)
  (refine wp_seq_k ?_; intro Z hZ)
  (have hfit : rowF ts xs r = true := (by unfold rowF; first | assumption | (simp_all; done)))
  refine wp_region_lit ?_
  (refine wpl_alloc S rfl rfl rfl rfl ?_; clear S a; intro b9 a w S)
  (refine wpl_store1 S rfl rfl rfl rfl rfl rfl (by first | (simp; done) | (simp [Value.cells]; done) | exact Nat.le_of_ble_eq_true rfl) ?_; clear S; intro w S)
  (revert S a; revert hZ Z; refine go 3 ?_; intro Z hZ a S)
  (refine wpl_alloc S rfl rfl rfl rfl ?_; clear S a; intro b10 a w S)
  (revert S a; revert hZ Z; refine go 4 ?_; intro Z hZ a S)
  (refine wpl_store1 S rfl rfl rfl rfl rfl rfl (by first | (simp; done) | (simp [Value.cells]; done) | exact Nat.le_of_ble_eq_true rfl) ?_; clear S; intro w S)
  (revert S a; revert hZ Z; refine go 5 ?_; intro Z hZ a S)
  (have S' := frz1 S; clear S; obtain ⟨F6, hF6, hb10, S⟩ := S'; refine wpl_callOwn (Gs := [[(b9, .cells ⟨[.int .i64 ((0 : Nat) : Int)]⟩ 3 (0, 0))]]) (Gr := []) S rfl rfl rfl rfl rfl rfl (countCt (r.size + 1) F6 b9 b10 0 _ r (Nat.lt_succ_self _) ⟨_, _, _, hb10, rfl⟩ (by omega) (hu1.mono hF6)) rfl (by exact List.Perm.refl _) ?_; clear S a; intro u G1 a w hv1 S; unfold CtQ at hv1; subst hv1; rw [Nat.zero_add] at S; (simp only [List.append_nil] at S))
  (revert S a; revert hZ Z; refine go 2 ?_; intro a S)
  (refine wp_seq_k ?_; intro Z hZ)
  (refine wpc_mixM [0, 1, 3, 4, 5] [4] [] (.one 0 (.one 1 (.one 4 (.one 2 (.one 3 (.one 5 .nil)))))) [b9] S mixed (by kernel_rfl) ?_; clear S; intro w S)
  (revert S a; refine go 4 ?_; intro a S)
  (refine wpl_callNew S rfl rfl rfl rfl rfl rfl (varsCt F6 tupE r _ (tup_px (hu1.mono hF6)) (by omega)) rfl ?_; clear S a; intro v33 G9 a w hv S; obtain ⟨g33, rfl, hown33⟩ := hv; (simp only [List.singleton_append] at S); replace S := S.drop1; rw [show vrE tupE r [] = vrL r [] from rfl] at hown33; obtain ⟨a33, c33, rfl, -⟩ := hown33.at)
  (revert S a; revert hZ Z; refine go 5 ?_; intro a S)
  refine wpc_sp S rfl ?_ ?_ <;> intro h
  ·(revert S a; refine go 4 ?_; intro a S)
   refine wp_ret (fr1 S Tryz.results53 ?_)
   exact zzCz0
  (revert S a; revert hZ Z; refine go 6 ?_; intro a S)
  change ∃ m', _ ∧ _
  (rw [← hao] at S; replace S := S.drops; refine ⟨rows.length - (k + 1), by omega, k + 1, F6, rfl, by omega, fun b o h => hF6 _ _ (hF5 _ _ h), ?_, ?_⟩; rotate_left 1; (refine S.keep ?_; exact zk); (rw [hck, chkR_at hx, if_neg (by rw [hfit]; decide), if_neg (by omega)]))
 (refine wp_exit ?_; conv => whnf)
 clear hZ Z
 (revert S a; revert hZ Z; refine go 5 ?_; intro a S)
 refine wp_ret (fr1 S Tryz.results53 ?_)
 exact zzCz0
abbrev covC (ts : List TD) (xs : List Ty) (rows : List Ef) : Bool := covU showV (allF ts (consOf ts)) (kidF (consOf ts)) (arK ts) xs rows
def URu (ts : List TD) (xs : List Ty) (rows : List Ef) (q : Ef) : Prop := UR ts (consOf ts) (msr (arK ts) xs rows q + 1) xs rows q
def CoQ (e : Int) (c : Bool) (u : Value) : Prop := u = .tuple ⟨[.bool (decide (e = 0) && c), .int .i64 e]⟩
theorem coversCt (F : Heap) (hM : MaxF F) (hT : TabF F) (tb : Nat) (ts : List TD) (hC : CTab F tb ts) (hTz : TSz ts) (v1 v2 : Value) (xs : List Ty) (rows : List Ef) (hB : CkB xs rows) (h1 : SlF F v1 (foOf xs)) (h2 : LiM F 1 RwR v2 rows) (hU : chkE ts xs rows = 0 → URu ts xs rows (anys xs.length .nil)) :
  Ct Tryz.prog 28 [.pointer (some ⟨tb, 0, none⟩), v1, v2] F [] (fun _ _ u => CoQ (chkE ts xs rows) (covC ts xs rows) u) := by
 have hc := checkRCt F hM tb ts hC v1 v2 xs rows hB h1 h2
 have hfl : (foOf xs).len = xs.length := foOf_len _
 have hxl := hB.xl
 obtain ⟨a1, c1, rfl, -, -⟩ := id h1
 obtain ⟨a2, c2, rfl, h2c, h2p⟩ := id h2
 refine Ct.enter Tryz.func28 rfl Tryz.ntmps28 rfl fun w0 a S => ?_
 (revert S a; refine go 10 ?_; intro Z hZ Z hZ a S)
 (refine wc0 S hc ?_; clear S a; intro v14 a w hv S; subst hv)
 (revert S a; revert hZ Z; refine go 8 ?_; intro a S)
 refine wpc_sp S rfl ?_ ?_ <;> intro h
 ·(revert S a; refine go 6 ?_; intro a S)
  refine wp_ret (fr2 S Tryz.results28 ?_)
  (unfold CoQ; first | (rw [decide_eq_false (by omega)]; rfl) | (rw [hz0]; rfl) | trace_state)
 (revert S a; revert hZ Z; refine go 5 ?_; intro Z hZ a S)
 (refine wpl_makeSliceN (q := (foOf xs).len) (cp := (foOf xs).len) S rfl rfl rfl rfl rfl rfl (by omega) (by omega) (by omega) ?_; clear S a; intro b20 a w zs hzs S)
 (revert S a; revert hZ Z; refine go 11 ?_; intro Z hZ a S)
 refine wpc_loop (fun m a w' => ∃ (i : Nat) (zs : List Value), m = (foOf xs).len - i ∧ i ≤ (foOf xs).len ∧ zs.length = ((foOf xs).len - i) * 9 ∧ St 38 [(0, ptr tb), (1, .slice a1 (foOf xs).len c1), (2, .slice a2 rows.length c2), (9, .slice (some ⟨b20, 0, none⟩) (foOf xs).len (foOf xs).len), (22, .int .i64 (foOf xs).len), (23, .int .i64 i)] w0 F [] F [[(b20, .cells ⟨anyC i ++ zs⟩ 29 (0, 0))]] a w') ?_ ?_
 ·(refine ⟨(foOf xs).len, 0, zs, by omega, Nat.zero_le _, by rw [hzs, Nat.sub_zero], ?_⟩; refine S.keep ?_; exact zk)
 (clear S hzs zs; rintro m a w ⟨i, zs, rfl, hil, hzs, S⟩)
 (revert S a; refine go 5 ?_; intro Z hZ a S)
 refine wpc_sp S rfl ?_ ?_ <;> intro h
 ·(revert S a; revert hZ Z; refine go 14 ?_; intro Z hZ a S)
  (refine wpl_storeO S rfl rfl rfl rfl rfl (by rfl) (by simp [Value.cells, Value.oneCell', splice, splice]) (by rw [Nat.ble_eq]; simp only [List.length_append, anyC_len]; omega) ?_; clear S; intro w S; replace S : St _ _ _ _ _ _ ([(b20, .cells ⟨(anyC i ++ zs).take (0 + i * 9) ++ anyCs ++ (anyC i ++ zs).drop (0 + i * 9 + 9)⟩ _ (0, 0))] :: _) _ _ := S; rw [any_st (by omega)] at S)
  (revert S a; revert hZ Z; refine go 6 ?_; intro a S)
  change ∃ m', _ ∧ _
  (refine ⟨(foOf xs).len - (i + 1), by omega, i + 1, zs.drop 9, rfl, by omega, ?_, ?_⟩; rotate_left 1; (refine S.keep ?_; exact zk); (rw [List.length_drop, hzs]; omega))
 (refine wp_exit ?_; conv => whnf)
 clear hZ Z
 (refine hZ _ _ ?_; clear hZ Z)
 (refine wp_seq_k ?_; intro Z hZ)
 (have hz0 : chkE ts xs rows = 0 := (by omega); have hii : i = (foOf xs).len := (by omega); subst hii; have hown := ownS_mkP (e := 29) (b := b20) (xs := anyC (foOf xs).len) (ex := zs) (cap := (foOf xs).len) (anyC_len _) (by omega) (by simp only [maxLen]; omega) (by rw [List.length_append, anyC_len, hzs]; omega); have hle1 := add_le (G1 := []) S; replace S := St.freeze (G1 := []) S; (simp only [List.nil_append] at S hle1); have ek : List.replicate (foOf xs).len (anyE, Rose.nil) = kids (anys xs.length .nil) := (by rw [kids_anys, hfl]; simp [kids]); have hR := own_tr (r := anys xs.length .nil) (F := F) (by rw [← ek, List.length_replicate]; exact hown) (by rw [← ek]; exact anyC_lic F _) hle1 (by rw [← ek, List.length_replicate]; omega))
 (revert S a; refine go 6 ?_; intro a S)
 (refine wc0 S (usefulCt tb hTz _ _ _ _ _ xs rows (anys xs.length .nil) (hT.mono hle1) (hC.mono hle1) (h1.mono hle1) (h2.mono hle1) hR (hU hz0)) ?_; clear S a; intro v36 a w hv S; subst hv)
 (revert S a; revert hZ Z; refine go 5 ?_; intro a S)
 refine wp_ret (fr2 S Tryz.results28 ?_)
 (unfold CoQ; first | (rw [decide_eq_false (by omega)]; rfl) | (rw [hz0]; rfl) | trace_state)
theorem isNaN1 (x : Int) (F : Heap) : Ct Tryz.prog 269 [.int .i64 x] F [] (fun _ _ u => u = .bool false) := by
 refine Ct.enter Tryz.func269 rfl Tryz.ntmps269 rfl fun w0 a S => ?_
 (revert S a; refine go 11 ?_; intro a S)
 refine wp_ret (fr1 S Tryz.results269 ?_)
 (simp)
theorem isNaN2 (x : Int) (F : Heap) : Ct Tryz.prog 261 [.int .i64 x] F [] (fun _ _ u => u = .bool false) := by
 refine Ct.enter Tryz.func261 rfl Tryz.ntmps261 rfl fun w0 a S => ?_
 (revert S a; refine go 11 ?_; intro a S)
 refine wp_ret (fr1 S Tryz.results261 ?_)
 (simp)
def cmpI (x y : Int) : Int := if x < y then -1 else if y < x then 1 else 0
theorem compare1 (x y : Int) (F : Heap) : Ct Tryz.prog 259 [.int .i64 x, .int .i64 y] F [] (fun _ _ u => u = .int .i64 (cmpI x y)) := by
 refine Ct.enter Tryz.func259 rfl Tryz.ntmps259 rfl fun w0 a S => ?_
 (revert S a; refine go 6 ?_; intro Z hZ a S)
 (refine wc0 S (isNaN1 _ F) ?_; clear S a; intro v a w hv S; subst hv)
 (revert S a; revert hZ Z; refine go 5 ?_; intro Z hZ a S)
 (refine wc0 S (isNaN1 _ F) ?_; clear S a; intro v a w hv S; subst hv)
 (revert S a; revert hZ Z; refine go 8 ?_; intro Z hZ a S)
 refine wpc_split S rfl (fun h => ?_) (fun h => ?_)
 ·(skip; (try simp only [tq] at h); cases h)
 (skip; (try simp only [tq] at h))
 (revert S a; revert hZ Z; refine go 7 ?_; intro Z hZ a S)
 refine wpc_split S rfl (fun h => ?_) (fun h => ?_)
 ·(skip; (try simp only [tq] at h); cases h)
 (skip; (try simp only [tq] at h))
 (revert S a; revert hZ Z; refine go 9 ?_; intro Z hZ a S)
 refine wpc_sp S rfl ?_ ?_ <;> intro h
 ·(revert S a; refine go 4 ?_; intro a S)
  refine wp_ret (fr1 S Tryz.results259 ?_)
  (unfold cmpI; (repeat (first | rw [if_pos (by assumption)] | rw [if_neg (by omega)])))
 (revert S a; revert hZ Z; refine go 9 ?_; intro Z hZ a S)
 refine wpc_sp S rfl ?_ ?_ <;> intro h
 ·(revert S a; refine go 4 ?_; intro a S)
  refine wp_ret (fr1 S Tryz.results259 ?_)
  (unfold cmpI; (repeat (first | rw [if_pos (by assumption)] | rw [if_neg (by omega)])))
 (revert S a; revert hZ Z; refine go 6 ?_; intro a S)
 refine wp_ret (fr1 S Tryz.results259 ?_)
 (unfold cmpI; (repeat (first | rw [if_pos (by assumption)] | rw [if_neg (by omega)])))
theorem compare2 (x y : Int) (F : Heap) : Ct Tryz.prog 247 [.int .i64 x, .int .i64 y] F [] (fun _ _ u => u = .int .i64 (cmpI x y)) := by
 refine Ct.enter Tryz.func247 rfl Tryz.ntmps247 rfl fun w0 a S => ?_
 (revert S a; refine go 6 ?_; intro Z hZ a S)
 (refine wc0 S (isNaN2 _ F) ?_; clear S a; intro v a w hv S; subst hv)
 (revert S a; revert hZ Z; refine go 5 ?_; intro Z hZ a S)
 (refine wc0 S (isNaN2 _ F) ?_; clear S a; intro v a w hv S; subst hv)
 (revert S a; revert hZ Z; refine go 8 ?_; intro Z hZ a S)
 refine wpc_split S rfl (fun h => ?_) (fun h => ?_)
 ·(skip; (try simp only [tq] at h); cases h)
 (skip; (try simp only [tq] at h))
 (revert S a; revert hZ Z; refine go 7 ?_; intro Z hZ a S)
 refine wpc_split S rfl (fun h => ?_) (fun h => ?_)
 ·(skip; (try simp only [tq] at h); cases h)
 (skip; (try simp only [tq] at h))
 (revert S a; revert hZ Z; refine go 9 ?_; intro Z hZ a S)
 refine wpc_sp S rfl ?_ ?_ <;> intro h
 ·(revert S a; refine go 4 ?_; intro a S)
  refine wp_ret (fr1 S Tryz.results247 ?_)
  (unfold cmpI; (repeat (first | rw [if_pos (by assumption)] | rw [if_neg (by omega)])))
 (revert S a; revert hZ Z; refine go 9 ?_; intro Z hZ a S)
 refine wpc_sp S rfl ?_ ?_ <;> intro h
 ·(revert S a; refine go 4 ?_; intro a S)
  refine wp_ret (fr1 S Tryz.results247 ?_)
  (unfold cmpI; (repeat (first | rw [if_pos (by assumption)] | rw [if_neg (by omega)])))
 (revert S a; revert hZ Z; refine go 6 ?_; intro a S)
 refine wp_ret (fr1 S Tryz.results247 ?_)
 (unfold cmpI; (repeat (first | rw [if_pos (by assumption)] | rw [if_neg (by omega)])))
end Go.Proofs.YthnafdbebniapaaGreatDoor
