/- Walks. -/
import Derived.Test.YthnafdbebniapaaGreatDoorQ35
import Derived.Test.YthnafdbebniapaaGreatDoorQ36
import Derived.Test.YthnafdbebniapaaGreatDoorQ17
import Derived.Test.YthnafdbebniapaaGreatDoorQ22
import Derived.Test.YthnafdbebniapaaGreatDoorQ30
import Derived.Test.YthnafdbebniapaaGreatDoorQ31
import Derived.Test.YthnafdbebniapaaGreatDoorQ18
set_option maxHeartbeats 8000000
namespace Go.Proofs.YthnafdbebniapaaGreatDoor
open Go Go.Wk Go.Un Go.De Go.Cv
set_option linter.unusedSimpArgs false
set_option linter.unusedVariables false
attribute [local irreducible] Go.wpList Go.Code.wp Go.wpStill Go.Wk.wpPre Go.bodyPost Go.Calls Go.Wk.Ct Go.Wk.OwnS Go.Wk.wpG Go.Wk.wpM
theorem fsz_mem {l : List FD} : ∀ f ∈ l, f.ta.size + 1 ≤ fsz l := by
 induction l with
 | nil => intro f h; cases h
 | cons x r ih =>
  intro f h
  have e : fsz (x :: r) = (1 + x.ta.size) + fsz r := rfl
  rcases List.mem_cons.1 h with rfl | h
  ·omega
  ·have := ih f h; omega
theorem fsz_len (l : List FD) : l.length ≤ fsz l := by
 induction l with
 | nil => exact Nat.zero_le _
 | cons x r ih =>
  have e : fsz (x :: r) = (1 + x.ta.size) + fsz r := rfl
  rw [List.length_cons]; omega
theorem SmT.tsz {ts : List TD} (h : SmT ts) : TSz ts := fun x hx => by
 obtain ⟨h1, h2, h3⟩ := h.c x hx
 refine ⟨by omega, by omega, fun c hc => ?_⟩
 have h4 := h3 c hc
 exact ⟨fun f hf => by have := fsz_mem f hf; omega, by have := fsz_len c.fs; omega⟩
theorem SmT.tzr {ts : List TD} (h : SmT ts) : TzR ts := ⟨by have := h.l; omega, fun x hx => by
 obtain ⟨h1, h2, h3⟩ := h.c x hx
 refine ⟨by omega, by omega, fun c hc f hf => ?_⟩
 have h4 := h3 c hc
 have h5 := fsz_mem f hf
 have := depthL_le f.ta
 omega⟩
theorem consOf_mem {ts : List TD} {k : KC} (hk : k ∈ consOf ts) : ∃ d ∈ ts, ∃ c ∈ d.cs, k.ps = d.ps ∧ k.fs = c.fs := by
 obtain ⟨d, hd, h1⟩ := List.mem_flatMap.1 hk
 obtain ⟨c, hc, -, -, h2, h3⟩ := consFrom_of h1
 exact ⟨d, hd, c, hc, h2, h3⟩
theorem SmT.kc {ts : List TD} (h : SmT ts) : KThin (consOf ts) ∧ KSz (consOf ts) ∧ ∀ c ∈ consOf ts, ∀ f ∈ c.fs, depthL f.ta ≤ 1000 := by
 have key : ∀ k ∈ consOf ts, FSz k.fs ∧ k.fs.length ≤ 1000000 ∧ k.ps.length ≤ 1000000 ∧ ∀ f ∈ k.fs, depthL f.ta ≤ 1000 := fun k hk => by
  obtain ⟨d, hd, c, hc, e1, e2⟩ := consOf_mem hk
  obtain ⟨h1, h2, h3⟩ := h.c d hd
  have h4 := h3 c hc
  rw [e1, e2]
  exact ⟨fun f hf => by have := fsz_mem f hf; omega, by have := fsz_len c.fs; omega, by omega, fun f hf => by have := fsz_mem f hf; have := depthL_le f.ta; omega⟩
 exact ⟨fun k hk => (key k hk).1.thin, fun k hk => ⟨(key k hk).2.2.1, (key k hk).2.1, (key k hk).1.thin⟩, fun k hk => (key k hk).2.2.2⟩
def NqQ (F' : Heap) (u : Value) (ts : List TD) : Prop := ∃ (p : Option Addr) (l c : Int), u = .tuple ⟨[.pointer p, .agg ⟨[.int .i64 l, .int .i64 c]⟩, .int .i64 (typedE ts)]⟩ ∧ (typedE ts = 0 → ∃ tb, p = some ⟨tb, 0, none⟩ ∧ CTab F' tb ts)
theorem take_ty (ts : List TD) : takeE ⟨[], ts, [], [], []⟩ = typedE ts := by
 unfold takeE
 split
 ·rfl
 ·rename_i h
  rw [if_neg (by intro h9; exact h9 rfl), if_neg (by intro h9; exact h9 rfl)]
  show (0 : Int) = _
  have : typedE ts = 0 := by
   apply Classical.byContradiction
   exact h
  rw [this]
theorem dnewCt (F : Heap) (hE : ErrT F) (ts : List TD) (v1 : Value) (hL : LiM F 6 TdR v1 ts) (hS : SmT ts) :
  Ct Tryz.prog 26 [.agg ⟨[.string (bs []), .slice none 0 0, v1, .slice none 0 0, .slice none 0 0, .slice none 0 0]⟩] F [] (fun F' _ u => NqQ F' u ts) := by
 refine Ct.mono (newCt F hE ⟨[], ts, [], [], []⟩ _ ⟨none, 0, 0, v1, _, _, _, rfl, hL, LiM.nil _ _ _, LiM.nil _ _ _, LiM.nil _ _ _⟩ ⟨hS.tsz, fun x hx => (by cases hx), Nat.le_trans hS.l (by decide), Nat.zero_le _⟩) fun F' G' u ⟨h1, h2⟩ => ?_
 rw [take_ty] at h1 h2
 by_cases h : typedE ts = 0
 ·obtain ⟨tb, m1, m2, m3, rfl, hT⟩ := h1 h
  obtain ⟨k1, k2, k3⟩ := hS.kc
  exact ⟨_, 0, 0, by rw [h], fun _ => ⟨tb, rfl, m1, m2, m3, [], hT, k1, k2, k3⟩⟩
 ·obtain ⟨l, c, rfl⟩ := h2 h
  exact ⟨_, l, c, rfl, fun h9 => absurd h9 h⟩
def RqQ (F' : Heap) (u : Value) (ts : List TD) : Prop := ∃ (p : Option Addr) (l c : Int), u = .tuple ⟨[.pointer p, .agg ⟨[.int .i64 l, .int .i64 c]⟩, .int .i64 (rTypesE ts)]⟩ ∧ (rTypesE ts = 0 → ∃ tp, p = some ⟨tp, 0, none⟩ ∧ RTab F' tp ts)
theorem rnew2Ct (F : Heap) (ts : List TD) (v1 : Value) (hL : LiM F 6 TdR v1 ts) (hS : SmT ts) :
  Ct Tryz.prog 41 [.agg ⟨[.string (bs []), .slice none 0 0, v1, .slice none 0 0, .slice none 0 0, .slice none 0 0]⟩] F [] (fun F' _ u => RqQ F' u ts) := by
 refine Ct.mono (rnewCt F ts v1 hL hS.tzr) fun F' G' u ⟨h1, h2⟩ => ?_
 by_cases h : rTypesE ts = 0
 ·obtain ⟨tp, l, c, rfl, hT⟩ := h1 h
  exact ⟨_, l, c, by rw [h], fun _ => ⟨tp, rfl, hT⟩⟩
 ·obtain ⟨l, c, rfl⟩ := h2 h
  exact ⟨_, l, c, rfl, fun h9 => absurd h9 h⟩
def okT (ts : List TD) : Bool := decide (typedE ts = 0) && decide (rTypesE ts = 0)
def TbQ (F' : Heap) (u : Value) (ts : List TD) : Prop := ∃ (p1 p2 : Option Addr), u = .tuple ⟨[.pointer p1, .pointer p2, .bool (okT ts)]⟩ ∧ (okT ts = true → ∃ tb tp, p1 = some ⟨tb, 0, none⟩ ∧ p2 = some ⟨tp, 0, none⟩ ∧ CTab F' tb ts ∧ RTab F' tp ts ∧ TOk ts)
theorem tb_q {F F' : Heap} {ts : List TD} {p1 p2 : Option Addr} {q : Bool} (h1 : typedE ts = 0 → ∃ tb, p1 = some ⟨tb, 0, none⟩ ∧ CTab F tb ts) (hF : ∀ b o, F b = some o → F' b = some o) (h2 : rTypesE ts = 0 → ∃ tp, p2 = some ⟨tp, 0, none⟩ ∧ RTab F' tp ts) (hq : q = okT ts) : TbQ F' (.tuple #[.pointer p1, .pointer p2, .bool q]) ts := by
 subst hq
 refine ⟨p1, p2, rfl, fun h => ?_⟩
 unfold okT at h
 rw [Bool.and_eq_true, decide_eq_true_eq, decide_eq_true_eq] at h
 obtain ⟨tb, e1, h3⟩ := h1 h.1
 obtain ⟨tp, e2, h4⟩ := h2 h.2
 exact ⟨tb, tp, e1, e2, h3.mono hF, h4, typedE_ok h.1⟩
theorem tableCt (F : Heap) (hE : ErrT F) (ts : List TD) (v : Value) (hL : LiM F 6 TdR v ts) (hS : SmT ts) : Ct Tryz.prog 19 [v] F [] (fun F' _ u => TbQ F' u ts) := by
 obtain ⟨ao, cap, rfl, hcap, -⟩ := id hL
 refine Ct.enter Tryz.func19 rfl Tryz.ntmps19 rfl fun w0 a S => ?_
 (revert S a; refine go 9 ?_; intro Z hZ a S)
 (refine wcF S (dnewCt F hE ts _ hL hS) ?_; clear S a; intro v14 F1 a w hv1 hF1 S; obtain ⟨p1, l1, c1, rfl, hp1⟩ := hv1)
 (revert S a; refine go 4 ?_; intro a S)
 (refine wpl_alloc S rfl rfl rfl rfl ?_; clear S a; intro b6 a w S)
 (revert S a; refine go 1 ?_; intro a S)
 (refine wso S rfl rfl ?_; clear S; intro w S)
 (revert S a; revert hZ Z; refine go 6 ?_; intro Z hZ a S)
 (refine wcF S (rnew2Ct F1 ts _ (hL.mono hF1) hS) ?_; clear S a; intro v21 F2 a w hv2 hF2 S; obtain ⟨p2, l2, c2, rfl, hp2⟩ := hv2)
 (revert S a; refine go 4 ?_; intro a S)
 (refine wpl_alloc S rfl rfl rfl rfl ?_; clear S a; intro b9 a w S)
 (revert S a; refine go 1 ?_; intro a S)
 (refine wso S rfl rfl ?_; clear S; intro w S)
 (revert S a; revert hZ Z; refine go 9 ?_; intro Z hZ a S)
 refine wgd S ?_ ?_
 ·(clear S; intro h S)
  (revert S a; revert hZ Z; refine go 9 ?_; intro a S)
  refine wp_ret (fin_ret S (results3 Tryz.results19 (RV.tmp S rfl) (RV.tmp S rfl) (RV.tmp S rfl)) ?_)
  (refine tb_q hp1 hF2 hp2 ?_; unfold okT; rw [Bool.eq_iff_iff]; simp_all; done)
 (clear S a; intro h a S)
 (revert S a; revert hZ Z; refine go 7 ?_; intro a S)
 refine wp_ret (fin_ret S (results3 Tryz.results19 (RV.tmp S rfl) (RV.tmp S rfl) (RV.tmp S rfl)) ?_)
 (refine tb_q hp1 hF2 hp2 ?_; unfold okT; rw [Bool.eq_iff_iff]; simp_all; done)
def listTD : TD := ⟨0, 0, false, [108, 105, 115, 116], [[39, 97]], [⟨[110, 105, 108], []⟩, ⟨[99, 111, 110, 115], [⟨[], [39, 97], .nil⟩, ⟨[], [108, 105, 115, 116], .cons [39, 97] .nil .nil⟩]⟩]⟩
theorem listCt (F : Heap) : Ct Tryz.prog 27 [] F [] (fun F' _ u => ∃ cs, u = .agg ⟨cs⟩ ∧ TdR F' listTD cs ∧ cs.length = 6) := by
 refine Ct.enter Tryz.func27 rfl Tryz.ntmps27 rfl fun w0 a S => ?_
 refine wp_sr fun Z hZ => ?_
 (refine wpl_alloc S rfl rfl rfl rfl ?_; clear S a; intro b0 a w S)
 (revert S a; revert hZ Z; refine go 4 ?_; intro Z hZ a S)
 (refine wpl_alloc S rfl rfl rfl rfl ?_; clear S a; intro b1 a w S)
 (refine wso S rfl rfl ?_; clear S; intro w S)
 (revert S a; revert hZ Z; refine go 3 ?_; intro Z hZ a S)
 (refine wpl_buildSlice S rfl rfl rfl rfl rfl rfl (by rfl) (by simp [Value.cells, splice, splice]) rfl (by rfl) (by rfl) ?_; clear S a; intro b3 a w hown3 S; clear hown3; have S' := frz1 S; clear S; obtain ⟨F3, hF3, hb3, S⟩ := S')
 (revert S a; refine go 4 ?_; intro a S)
 (refine wpl_buildSlice S rfl rfl rfl rfl rfl rfl (by rfl) (by simp [Value.cells, splice, splice]) rfl (by rfl) (by rfl) ?_; clear S a; intro b8 a w hown8 S; clear hown8; have S' := frz1 S; clear S; obtain ⟨F8, hF8, hb8, S⟩ := S')
 (revert S a; refine go 2 ?_; intro a S)
 (refine wpl_buildSlice S rfl rfl rfl rfl rfl rfl (by rfl) (by simp [Value.cells, splice, splice]) rfl (by rfl) (by rfl) ?_; clear S a; intro b11 a w hown11 S; clear hown11; have S' := frz1 S; clear S; obtain ⟨F11, hF11, hb11, S⟩ := S')
 (revert S a; refine go 1 ?_; intro a S)
 (refine wpl_buildSlice S rfl rfl rfl rfl rfl rfl (by rfl) (by simp [Value.cells, splice, splice]) rfl (by rfl) (by rfl) ?_; clear S a; intro b13 a w hown13 S; clear hown13; have S' := frz1 S; clear S; obtain ⟨F13, hF13, hb13, S⟩ := S')
 (revert S a; refine go 1 ?_; intro a S)
 (refine wso S rfl rfl ?_; clear S; intro w S)
 (revert S a; revert hZ Z; refine go 2 ?_; intro a S)
 refine wp_ret (fin_ret S (results1 Tryz.results27 (RV.cellO S rfl (by rfl))) ?_)
 (have h11 : ∀ b o, F11 b = some o → F13 b = some o := hF13; have h8 : ∀ b o, F8 b = some o → F13 b = some o := (fun b o h => hF13 _ _ (hF11 _ _ h)); have h3 : ∀ b o, F3 b = some o → F13 b = some o := (fun b o h => h8 _ _ (hF8 _ _ h)); refine ⟨_, rfl, ⟨_, _, rfl, lim_of (l := [[39, 97]]) (cs := [.string (bs [39, 97])]) (h3 _ _ hb3) ⟨_, [], rfl, rfl, rfl, rfl⟩ (by decide), lim_of (l := listTD.cs) (cs := [.string (bs [110, 105, 108]), .slice none 0 0, .string (bs [99, 111, 110, 115]), .slice (some ⟨b11, 0, none⟩) 2 2]) hb13 ⟨[_, _], _, rfl, rfl, ⟨_, rfl, LiM.nil _ _ _⟩, ⟨[_, _], [], rfl, rfl, ⟨_, rfl, lim_of (l := ([⟨[], [39, 97], .nil⟩, ⟨[], [108, 105, 115, 116], .cons [39, 97] .nil .nil⟩] : List FD)) (R := FdR) (cs := [.string (bs []), .string (bs [39, 97]), .slice none 0 0, .string (bs []), .string (bs [108, 105, 115, 116]), .slice (some ⟨b8, 0, none⟩) 1 1]) (h11 _ _ hb11) ⟨[_, _, _], _, rfl, rfl, ⟨_, rfl, SlF.nil _⟩, ⟨[_, _, _], [], rfl, rfl, ⟨_, rfl, slf_one1 (h8 _ _ hb8) (SlF.nil _)⟩, rfl⟩⟩ (by decide)⟩, rfl⟩⟩ (by decide)⟩, rfl⟩)
def RgL : Ef → Prop
 | .nil => True
 | .cons h L r => (-9223372036854775808 ≤ h.v.n ∧ h.v.n ≤ 9223372036854775807) ∧ RgL L ∧ RgL r
theorem good_pl : ∀ {l : Ef}, goodL l = true → RgL l → PlL l
 | .nil, _, _ => trivial
 | .cons h L r, f, ⟨h1, h2, h3⟩ => by
  rw [goodL_cons, Bool.and_eq_true, Bool.and_eq_true] at f
  refine ⟨fun k1 => ?_, good_pl f.1.2 h2, good_pl f.2 h3⟩
  have g := f.1.1
  unfold goodH at g
  rw [if_pos k1] at g
  simp only [Bool.and_eq_true, decide_eq_true_eq] at g
  exact ⟨g.1.1.1, g.1.1.2, h1⟩
theorem litS_show : LitS showV := fun v hv => by
 unfold showV boolS
 rw [if_pos hv]
 split
 ·exact .inr rfl
 ·exact .inl rfl
theorem ck_well {ts : List TD} {xs : List Ty} {rows : List Ef} (h : chkE ts xs rows = 0) : (∀ x ∈ xs, wellT ts x = true) ∧ chkR ts xs rows = 0 := by
 unfold chkE at h
 split at h
 ·cases h
 ·rename_i h1
  refine ⟨fun x hx => ?_, h⟩
  cases hw : wellT ts x with
  | true => rfl
  | false => exact absurd (List.any_eq_true.2 ⟨x, hx, by rw [hw]; rfl⟩) h1
theorem ck_rows {ts : List TD} {xs : List Ty} : ∀ {rows : List Ef}, chkR ts xs rows = 0 → ∀ r ∈ rows, rowF ts xs r = true
 | [], _, r, hr => by cases hr
 | x :: rows, h, r, hr => by
  unfold chkR at h
  split at h
  ·cases h
  ·rename_i h1
   split at h
   ·cases h
   ·rcases List.mem_cons.1 hr with rfl | hr
    ·simpa using h1
    ·exact ck_rows h r hr
theorem row_fit {ts : List TD} : ∀ {r : Ef} {xs : List Ty}, rowF ts xs r = true → fitL ts (consOf ts) r xs = true ∧ goodL r = true
 | .nil, [], _ => ⟨rfl, rfl⟩
 | .nil, _ :: _, h => by cases h
 | .cons _ _ _, [], h => by cases h
 | .cons h L r, x :: xs, hf => by
  have hf2 : (FitsF ts h L x && rowF ts xs r) = true := hf
  rw [Bool.and_eq_true] at hf2
  obtain ⟨h1, h2⟩ := hf2
  obtain ⟨h3, h4⟩ := row_fit h2
  unfold FitsF patZ at h1
  rw [Bool.and_eq_true, Bool.and_eq_true, Bool.and_eq_true] at h1
  refine ⟨?_, by rw [goodL_cons, h4, Bool.and_true, Bool.and_eq_true]; exact h1.1.2⟩
  have h5 := h1.2
  rw [Bool.and_eq_true] at h5
  show ((kidOK ts (consOf ts) h L.len x && fitL ts (consOf ts) L (kidF (consOf ts) h L.len x)) && fitL ts (consOf ts) r xs) = true
  rw [h3, Bool.and_true]
  exact h5.2
theorem fsum_le {α : Type} {f : α → List Nat} {M : Nat} : ∀ {l : List α}, (∀ x ∈ l, (f x).sum ≤ M) → (l.flatMap f).sum ≤ l.length * M
 | [], _ => by simp
 | x :: r, h => by
  have h1 := h x (List.mem_cons_self ..)
  have h2 := fsum_le (l := r) fun y hy => h y (List.mem_cons_of_mem _ hy)
  rw [List.flatMap_cons, List.sum_append, List.length_cons, Nat.add_mul]
  omega
theorem msum_le {α : Type} {f : α → Nat} {M : Nat} : ∀ {l : List α}, (∀ x ∈ l, f x ≤ M) → (l.map f).sum ≤ l.length * M
 | [], _ => by simp
 | x :: r, h => by
  have h1 := h x (List.mem_cons_self ..)
  have h2 := msum_le (l := r) fun y hy => h y (List.mem_cons_of_mem _ hy)
  rw [List.map_cons, List.sum_cons, List.length_cons, Nat.add_mul]
  omega
theorem SmT.ar {ts : List TD} (h : SmT ts) : arK ts ≤ 166 := by
 unfold arK
 have h1 := fsum_le (l := ts) (f := fun d => d.cs.map fun c => c.fs.length) (M := 30) fun d hd => by
  obtain ⟨h1, h2, h3⟩ := h.c d hd
  have h4 := msum_le (l := d.cs) (f := fun c => c.fs.length) (M := 6) fun c hc => by have := h3 c hc; have := fsz_len c.fs; omega
  have : d.cs.length * 6 ≤ 30 := by omega
  exact Nat.le_trans h4 this
 have := h.l
 have : ts.length * 30 ≤ 150 := by omega
 omega
theorem nodes_le : ∀ l : Ef, nodes l ≤ l.size
 | .nil => Nat.le_refl _
 | .cons h L r => by
  have h1 := nodes_le L
  have h2 := nodes_le r
  show (if _ then 1 else 0) + nodes L + nodes r ≤ L.size + r.size + 1
  split <;> omega
theorem nodesR_le : ∀ rows : List Ef, nodesR rows ≤ totR rows
 | [] => Nat.le_refl _
 | r :: rows => by
  have h1 := nodes_le r
  have h2 := nodesR_le rows
  unfold nodesR totR at h2 ⊢
  rw [List.map_cons, List.sum_cons, List.map_cons, List.sum_cons]
  omega
theorem totR_len : ∀ rows : List Ef, rows.length ≤ totR rows
 | [] => Nat.le_refl _
 | r :: rows => by
  have h2 := totR_len rows
  unfold totR at h2 ⊢
  rw [List.map_cons, List.sum_cons, List.length_cons]
  omega
theorem totR_mem {rows : List Ef} : ∀ r ∈ rows, r.size + 1 ≤ totR rows := by
 induction rows with
 | nil => intro r h; cases h
 | cons x rows ih =>
  intro r h
  have e : totR (x :: rows) = (1 + x.size) + totR rows := rfl
  rcases List.mem_cons.1 h with rfl | h
  ·omega
  ·have := ih r h; omega
theorem fo_size_mem {l : Fo} : ∀ x ∈ tysOf l, x.2.size < l.size := by
 intro x hx
 obtain ⟨k, hk⟩ := mem_tys hx
 exact Fo.size_get hk
def QOk (ts : List TD) (xs : List Ty) (r : Ef) : Prop := fitL ts (consOf ts) r xs = true ∧ LitOK r ∧ RwOK r ∧ r.size ≤ 200
theorem uru_of {ts : List TD} (hS : SmT ts) (hT : TOk ts) {xs : List Ty} {rows : List Ef} {q : Ef} (hx : ∀ x ∈ xs, wellT ts x = true ∧ x.2.size ≤ 30) (hxl : xs.length ≤ 30) (hr : ∀ r ∈ rows, QOk ts xs r) (hq : QOk ts xs q) (hl : totR rows ≤ 200) : URu ts xs rows q := by
 obtain ⟨hKT, hKS, hKD⟩ := hS.kc
 obtain ⟨d, hd⟩ : ∃ d, depE q ≤ d ∧ ∀ r ∈ rows, depE r ≤ d := by
  clear hr hl
  induction rows with
  | nil => exact ⟨depE q, Nat.le_refl _, fun r hr => by cases hr⟩
  | cons a r ih =>
   obtain ⟨d, hd0, hd⟩ := ih
   refine ⟨max (depE a) d, by omega, fun x hx => ?_⟩
   rcases List.mem_cons.1 hx with rfl | hx
   ·omega
   ·have := hd x hx; omega
 have hwn : ∀ x ∈ xs, Wn ts x := fun x h => well_Wn (hx x h).1
 have hFT : ∀ r, QOk ts xs r → depE r ≤ d → FTl ts (xs.map (Prod.mk d)) r := fun r h h2 => fit_FT hT litS_show d r xs h2 h.2.1 hwn h.1
 have har := hS.ar
 have hnr := nodesR_le rows
 have hnq := nodes_le q
 have hqs := hq.2.2.2
 have hrl := totR_len rows
 have hml : msr (arK ts) (xs.map (Prod.mk d)) rows q = msr (arK ts) xs rows q := by unfold msr; rw [List.length_map]
 have hm : msr (arK ts) xs rows q ≤ 70000 := by
  unfold msr
  have h1 : (nodesR rows + nodes q) * (arK ts + 2) ≤ 400 * 168 := Nat.mul_le_mul (by omega) (by omega)
  omega
 have hRB : ∀ r, QOk ts xs r → RoB (arK ts) (msr (arK ts) xs rows q + 1) r := fun r h => by
  refine ⟨h.2.2.1, ?_⟩
  have h1 : (msr (arK ts) xs rows q + 1) * arK ts ≤ 70001 * 166 := Nat.mul_le_mul (by omega) har
  have := h.2.2.2
  omega
 have hfin := ur_of hT hKT hKD (msr (arK ts) xs rows q + 1) (xs.map (Prod.mk d)) rows q (by rw [hml]; omega) (by omega) (fun x h => by
  obtain ⟨z, hz, rfl⟩ := List.mem_map.1 h
  refine ⟨hwn z hz, thinT_size (by have := (hx z hz).2; show z.2.size ≤ _; omega), ?_⟩
  have h1 := (hx z hz).2
  have h2 := depthL_le z.2
  show depthL z.2 + _ ≤ _
  omega) (fun r h => ⟨hFT r (hr r h) (hd.2 r h), hRB r (hr r h)⟩) ⟨hFT q hq hd.1, hRB q hq⟩ (by omega)
 rw [snd_lv] at hfin
 exact hfin
theorem any_QOk {ts : List TD} {xs : List Ty} (h : xs.length ≤ 30) : QOk ts xs (anys xs.length .nil) := by
 refine ⟨?_, ?_, rwOK_anys (r := .nil) ⟨trivial, trivial⟩ _, by rw [anys_size]; show _ + 0 ≤ _; omega⟩
 ·clear h
  induction xs with
  | nil => rfl
  | cons x xs ih =>
   show ((kidOK ts (consOf ts) anyE 0 x && fitL ts (consOf ts) .nil (kidF (consOf ts) anyE 0 x)) && fitL ts (consOf ts) (anys xs.length .nil) xs) = true
   rw [ih]
   rfl
 ·clear h
  induction xs.length with
  | zero => trivial
  | succ n ih => exact ⟨fun h => (by cases h), trivial, ih⟩
theorem row_QOk {ts : List TD} {xs : List Ty} {r : Ef} (h : rowF ts xs r = true) (hb : BndL r) (hg : RgL r) (hs : r.size ≤ 200) : QOk ts xs r := by
 obtain ⟨h1, h2⟩ := row_fit h
 exact ⟨h1, good_lit h2, ⟨hb, good_pl h2 hg⟩, hs⟩
def RowsB (rows : List Ef) : Prop := ∀ r ∈ rows, BndL r ∧ RgL r
theorem fo_len_30 {xs : Fo} (h : xs.size < 30) : (tysOf xs).length ≤ 30 := by rw [tysOf_len]; have := Fo.len_size xs; omega
theorem uru_cov {ts : List TD} {xs : Fo} {rows : List Ef} (hS : SmT ts) (hT : TOk ts) (hx : xs.size < 30) (hr : totR rows ≤ 200) (hB : RowsB rows) (h : chkE ts (tysOf xs) rows = 0) : URu ts (tysOf xs) rows (anys (tysOf xs).length .nil) := by
 obtain ⟨h1, h2⟩ := ck_well h
 have h3 := ck_rows h2
 have hl := fo_len_30 hx
 exact uru_of hS hT (fun x hx2 => ⟨h1 x hx2, by have := fo_size_mem x hx2; omega⟩) hl (fun r hr2 => row_QOk (h3 r hr2) (hB r hr2).1 (hB r hr2).2 (by have := totR_mem r hr2; omega)) (any_QOk hl) hr
theorem ckb_of {xs : Fo} {rows : List Ef} (hx : xs.size < 30) (hr : totR rows ≤ 400) (hB : RowsB rows) : CkB (tysOf xs) rows := by
 have hl := fo_len_30 hx
 have hrl := totR_len rows
 exact ⟨fun x hx2 => by have h1 := fo_size_mem x hx2; have h2 := depthL_le x.2; exact ⟨thinT_size (by omega), by omega⟩, by omega, fun r hr2 => ⟨(hB r hr2).1, by have := totR_mem r hr2; omega⟩, by omega⟩
def SmC (n : Nat) : Prop := ∀ (F : Heap) (x y : Vv) (cs cs2 : List Value), x.2.size < n → VaC F cs x.1 x.2 → VaC F cs2 y.1 y.2 → Ct Tryz.prog 32 [.agg ⟨cs⟩, .agg ⟨cs2⟩] F [] (fun _ _ u => u = .bool (sameV x y))
theorem zzSa0 {p : Prop} (h : p := by (congr 1; first | (rw [sameL_len (by omega)]; done) | (rw [← hfp, Rose.drop_len (by omega), Rose.drop_len (by omega)]; rfl) | (rw [← hfp, sameL_drop hx hy, (by assumption : sameV x y = false), Bool.false_and]; done) | trace_state)) : p := h
theorem sameRowCt {n : Nat} (hC : SmC n) (F : Heap) (l m : Vf) (v u : Value) (hn : l.size ≤ n) (hv : TrS F 4 VhR v l) (hu : TrS F 4 VhR u m) : Ct Tryz.prog 55 [v, u] F [] (fun _ _ u => u = .bool (sameL l m)) := by
 obtain ⟨ao, cap, rfl, hcap, hpos⟩ := hv
 obtain ⟨ao2, cap2, rfl, hcap2, hpos2⟩ := hu
 refine Ct.enter Tryz.func55 rfl Tryz.ntmps55 rfl fun w0 a S => ?_
 (revert S a; refine go 13 ?_; intro Z hZ a S)
 refine wpc_sp S rfl ?_ ?_ <;> intro h
 ·(revert S a; refine go 4 ?_; intro a S)
  refine wp_ret (fr1 S Tryz.results55 ?_)
  exact zzSa0
 (revert S a; revert hZ Z; refine go 8 ?_; intro Z hZ a S)
 refine wpc_loop (fun q a w' => ∃ (k : Nat), q = l.len - k ∧ k ≤ l.len ∧ sameL (l.drop k) (m.drop k) = sameL l m ∧ St 27 [(0, .slice ao l.len cap), (1, .slice ao2 m.len cap2), (5, .int .i64 k)] w0 F [] F [] a w') ?_ ?_
 ·(have hlm : l.len = m.len := (by omega); refine ⟨l.len, 0, by omega, Nat.zero_le _, rfl, ?_⟩; refine S.keep ?_; exact zk)
 (clear S; rintro q a w ⟨k, rfl, hkl, hfp, S⟩)
 (revert S a; refine go 8 ?_; intro Z hZ a S)
 refine wpc_sp S rfl ?_ ?_ <;> intro h
 ·(revert S a; revert hZ Z; refine go 4 ?_; intro Z hZ a S)
  (refine wp_seq_k ?_; intro Z hZ)
  (obtain ⟨b8, o8, hao, x, cs1, v1, hx, hc1, hw9, hT1⟩ := TrM.pos hpos (k := k) (by omega); rw [hao] at S; have hxs := Rose.size_get hx; have hT1c := hT1; obtain ⟨a91, c91, rfl, -⟩ := hT1c; have hw9c := hw9.1; subst hw9c; (simp only [List.cons_append, List.nil_append] at hc1); obtain ⟨b9, o9, hao2, y, cs2, v2, hy, hc2, hw8, hT2⟩ := TrM.pos hpos2 (k := k) (by omega); rw [hao2] at S; have hT2c := hT2; obtain ⟨a92, c92, rfl, -⟩ := hT2c; have hw8c := hw8.1; subst hw8c; (simp only [List.cons_append, List.nil_append] at hc2))
  (refine wpc_mixM [0, 1, 2, 3, 4, 5, 6, 7, 9] [3, 7] [] (.one 0 (.one 1 (.one 2 (.one 3 (.one 4 (.one 5 (.one 6 (.one 7 (.one 8 (.one 9 .nil)))))))))) [] S mixed (by kernel_rfl) ?_; clear S; intro w S)
  (revert S a; refine go 9 ?_; intro a S)
  (refine wc0 S (hC F x y _ _ (by omega) ⟨_, rfl, hT1, hw9.2⟩ ⟨_, rfl, hT2, hw8.2⟩) ?_; clear S a; intro v a w hv S; subst hv)
  (revert S a; revert hZ Z; refine go 4 ?_; intro a S)
  refine wpc_sp S rfl ?_ ?_ <;> intro h
  ·(revert S a; refine go 4 ?_; intro a S)
   refine wp_ret (fr1 S Tryz.results55 ?_)
   exact zzSa0
  (revert S a; revert hZ Z; refine go 7 ?_; intro a S)
  change ∃ m', _ ∧ _
  (rw [← hao, ← hao2] at S; refine ⟨l.len - (k + 1), by omega, k + 1, rfl, by omega, ?_, ?_⟩; rotate_left 1; (refine S.keep ?_; exact zk); rw [← hfp, sameL_drop hx hy, (by assumption : sameV x y = true), Bool.true_and])
 (refine wp_exit ?_; conv => whnf)
 clear hZ Z
 (revert S a; revert hZ Z; refine go 5 ?_; intro a S)
 refine wp_ret (fr1 S Tryz.results55 ?_)
 exact zzSa0
theorem zzSa1 {p : Prop} (h : p := by (congr 1; show _ = (decide (xk = yk) && (decide (xn = yn) && decide (xs = ys)) && sameL xl yl); first | (rw [decide_eq_true (show xk = yk by omega), decide_eq_true (show xn = yn by assumption), decide_eq_true (show xs = ys by assumption)]; rfl) | (rw [decide_eq_false (show ¬ xk = yk by omega)]; rfl) | (rw [decide_eq_false (show ¬ xn = yn by assumption), Bool.false_and, Bool.and_false, Bool.false_and]; done) | (rw [decide_eq_false (show ¬ xs = ys by assumption), Bool.and_false, Bool.and_false, Bool.false_and]; done) | trace_state)) : p := h
theorem sameCt : ∀ n, SmC n := by
 intro n
 induction n with
 | zero => intro F x y cs cs2 hn; omega
 | succ n ih =>
 intro F x y cs cs2 hn hV hV2
 obtain ⟨⟨xk, xn, xs⟩, xl⟩ := x
 obtain ⟨⟨yk, yn, ys⟩, yl⟩ := y
 obtain ⟨v1, rfl, hT1, hs1⟩ := hV
 obtain ⟨v2, rfl, hT2, hs2⟩ := hV2
 dsimp only at *
 have hr := sameRowCt ih F xl yl v1 v2 (by omega) hT1 hT2
 obtain ⟨a1, c1, rfl, -⟩ := hT1
 obtain ⟨a2, c2, rfl, -⟩ := hT2
 refine Ct.enter Tryz.func32 rfl Tryz.ntmps32 rfl fun w0 a S => ?_
 refine wp_sr fun Z hZ => ?_
 (refine wbx S ?_; clear S a; intro b2 a w S)
 (refine wbx S ?_; clear S a; intro b3 a w S)
 (revert S a; revert hZ Z; refine go 10 ?_; intro Z hZ a S)
 refine wgd S ?_ ?_
 ·(clear S; intro h S)
  (revert S a; refine go 11 ?_; intro a S)
  refine wgd S ?_ ?_
  ·(clear S; intro h S)
   (revert S a; refine go 11 ?_; intro a S)
   refine wgd S ?_ ?_
   ·(clear S; intro h S)
    (revert S a; refine go 8 ?_; intro a S)
    (refine wc0 S (hr) ?_; clear S a; intro v a w hv S; subst hv)
    (revert S a; revert hZ Z; refine go 4 ?_; intro a S)
    refine wp_ret (fr1 S Tryz.results32 ?_)
    exact zzSa1
   (clear S a; intro h a S)
   (revert S a; revert hZ Z; refine go 8 ?_; intro a S)
   refine wp_ret (fr1 S Tryz.results32 ?_)
   exact zzSa1
  (clear S a; intro h a S)
  (revert S a; revert hZ Z; refine go 15 ?_; intro a S)
  refine wp_ret (fr1 S Tryz.results32 ?_)
  exact zzSa1
 (clear S a; intro h a S)
 (revert S a; revert hZ Z; refine go 22 ?_; intro a S)
 refine wp_ret (fr1 S Tryz.results32 ?_)
 exact zzSa1
end Go.Proofs.YthnafdbebniapaaGreatDoor
