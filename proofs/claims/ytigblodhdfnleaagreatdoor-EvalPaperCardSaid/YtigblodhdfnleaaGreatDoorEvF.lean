/- Walks: the machine's list, truth, field, whole, call, eval. -/
import Derived.Test.YtigblodhdfnleaaGreatDoorEvG
namespace Go.Proofs.YtigblodhdfnleaaGreatDoor
open Go Go.Wk Go.Un Go.De Go.Num
set_option linter.unusedSimpArgs false
set_option linter.unusedVariables false
attribute [local irreducible] Go.wpList Go.Code.wp Go.wpStill Go.Wk.wpPre Go.bodyPost Go.Calls Go.Wk.Ct Go.Wk.OwnS
attribute [local irreducible] Go.Wk.wpG Go.Wk.wpM

def BdR (F : Heap) (x : Bd) (cs : List Value) : Prop := ∃ c, cs = .string (bs x.1) :: c ∧ VaC F c x.2.1 x.2.2
instance : Mon BdR := ⟨fun hF ⟨c, h1, h2⟩ => ⟨c, h1, h2.mono hF⟩⟩
/-- A constructor's record, and whether there is one. -/
def ConsR (F : Heap) (u : Value) (o : Option KC) : Prop := ∃ (t : List UInt8) (p1 : Option Addr) (p2 p3 : Nat) (i : Int) (f1 : Option Addr) (f2 f3 : Nat), u = .tuple ⟨[.agg ⟨[.string (bs t), .slice p1 p2 p3, .int .i64 i, .slice f1 f2 f3]⟩, .bool o.isSome]⟩ ∧ ∀ y, o = some y → LiM F 3 FdR (.slice f1 f2 f3) y.fs
/-- The machine in memory: its table's constructors, its bindings. -/
structure Mac (F : Heap) (bm : Nat) (cs : List KC) (vs : List Bd) : Prop where
  c : ∃ (tv : Option Addr) (ao : Option Addr) (cap bt : Nat) (es : List (List UInt8 × Value)), Cel F bm 0 (.pointer tv) ∧ Cel F bm 1 (.slice ao vs.length cap) ∧ Cel F bm 2 (.map (some bt)) ∧ LiM F 5 BdR (.slice ao vs.length cap) vs ∧ F bt = some (mObj kS es) ∧ OpsM F es ops2 ∧
    ∀ (F' : Heap) (nm : List UInt8), (∀ b o, F b = some o → F' b = some o) → Ct Tryz.prog 86 [.pointer tv, .string (bs nm)] F' [] (fun F2 _ u => ConsR F2 u (findC cs nm))
  t : TabF F
  e : ErrF F
  g : GVB vs
theorem Mac.mono {F F' : Heap} {bm : Nat} {cs : List KC} {vs : List Bd} (hF : ∀ b o, F b = some o → F' b = some o) (h : Mac F bm cs vs) : Mac F' bm cs vs := by
  obtain ⟨⟨tv, ao, cap, bt, es, h1, h2, h3, h4, h5, h6, h7⟩, ht, he, hg⟩ := h
  exact ⟨⟨tv, ao, cap, bt, es, h1.mono hF, h2.mono hF, h3.mono hF, h4.mono hF, hF _ _ h5, h6.mono hF, fun F2 nm h8 => h7 F2 nm fun b o h9 => h8 _ _ (hF _ _ h9)⟩, ht.mono hF, he.mono hF, hg⟩
/-- An expression's cells. -/
def ExC (F : Heap) (cs : List Value) (h : EH) (L : Ef) : Prop := ∃ w v, cs = [.int .u8 (h.k : Int), .int .i64 h.l, .int .i64 h.c, .string (bs h.nm), .int .u8 (h.v.k : Int), .int .i64 h.v.n, .string (bs h.v.s), w, v] ∧ TrS F 4 VhR w h.vl ∧ TrS F 9 EhR v L
theorem ExC.mono {F F' : Heap} {cs : List Value} {h : EH} {L : Ef} (hF : ∀ b o, F b = some o → F' b = some o) (hv : ExC F cs h L) : ExC F' cs h L := by
  obtain ⟨w, v, h1, h2, h3⟩ := hv
  exact ⟨w, v, h1, h2.mono hF, h3.mono hF⟩
theorem exc_of {F : Heap} {c1 : List Value} {u : Value} {x : EH × Ef} (hR : EhR F x.1 c1) (hT : TrS F 9 EhR u x.2) : ExC F (c1 ++ [u]) x.1 x.2 := by
  obtain ⟨w, rfl, h2⟩ := hR
  exact ⟨w, u, rfl, h2, hT⟩
def EvC (n : Nat) : Prop := ∀ (F : Heap) (bm : Nat) (cs : List KC) (vs : List Bd) (h : EH) (L : Ef) (xs : List Value), L.size < n → Mac F bm cs vs → ExC F xs h L → GE h L → formE h L = true →
  Ct Tryz.prog 25 [ptr bm, .agg ⟨xs⟩] F [] (fun F' _ u => AnsR F' u (evE cs vs h L))
/-! ### several -/
def addP (pre : List Vv) (r : Int × List Vv) : Int × List Vv := if r.1 ≠ 0 then (r.1, []) else (0, pre ++ r.2)
theorem addP_no {pre : List Vv} {x : Ans} {r : List Ans} (h : x.1 ≠ 0) : addP pre (listO (x :: r)) = (x.1, []) := by
  unfold addP listO
  rw [if_pos h]
  dsimp only
  rw [if_pos h]
theorem addP_yes {pre : List Vv} {x : Ans} {r : List Ans} (h : x.1 = 0) : addP pre (listO (x :: r)) = addP (pre ++ [x.2]) (listO r) := by
  have e : listO (x :: r) = if (listO r).1 ≠ 0 then ((listO r).1, []) else (0, x.2 :: (listO r).2) := by
    show (if x.1 ≠ 0 then _ else _) = _
    rw [if_neg (fun h9 => h9 h)]
  rw [e]
  unfold addP
  by_cases h2 : (listO r).1 ≠ 0
  · simp only [if_pos h2]
  · simp only [if_neg h2]
    simp
theorem addP_end (cs : List KC) (vs : List Bd) (pre : List Vv) : addP pre (listO (evL cs vs .nil)) = (0, pre) := by
  show addP pre (0, []) = _
  unfold addP
  rw [if_neg (fun h : (0 : Int) ≠ 0 => h rfl), List.append_nil]
theorem addP_nil (r : Int × List Vv) (h : r.1 ≠ 0 → r.2 = []) : addP [] r = r := by
  unfold addP
  by_cases h1 : r.1 ≠ 0
  · rw [if_pos h1, ← h h1]
  · rw [if_neg h1, List.nil_append, ← show r.1 = 0 by omega]
theorem listO_no : ∀ (l : List Ans), (listO l).1 ≠ 0 → (listO l).2 = []
  | [], h => absurd rfl h
  | x :: r, h => by
    unfold listO at h ⊢
    split
    · rfl
    · rename_i h1
      rw [if_neg h1] at h
      split
      · rfl
      · rename_i h2
        rw [if_neg h2] at h
        exact absurd rfl h
theorem evL_drop {cs : List KC} {vs : List Bd} {l : Ef} {k : Nat} {x : EH × Ef} (hx : l.get? k = some x) : evL cs vs (l.drop k) = evE cs vs x.1 x.2 :: evL cs vs (l.drop (k + 1)) := by
  rw [Rose.drop_get hx]; rfl
theorem evL_len (cs : List KC) (vs : List Bd) : ∀ l : Ef, (evL cs vs l).length = l.len
  | .nil => rfl
  | .cons h L r => by show (evL cs vs r).length + 1 = r.len + 1; rw [evL_len cs vs r]
theorem formEL_get : ∀ {l : Ef} {k : Nat} {x : EH × Ef}, formEL l = true → l.get? k = some x → formE x.1 x.2 = true
  | .cons h L r, 0, x, hf, e => by
    cases e
    unfold formEL at hf
    rw [Bool.and_eq_true] at hf
    exact hf.1
  | .cons h L r, k + 1, x, hf, e => by
    unfold formEL at hf
    rw [Bool.and_eq_true] at hf
    exact formEL_get (l := r) hf.2 e
def ListR (F : Heap) (u : Value) (x : Int × List Vv) : Prop := ∃ v, u = .tuple ⟨[v, .int .i64 x.1]⟩ ∧ TrS F 4 VhR v (roseOf x.2)
set_option maxHeartbeats 8000000 in
theorem listCt {n : Nat} (hE : EvC n) (F : Heap) (bm : Nat) (cs : List KC) (vs : List Bd) (l : Ef) (v : Value) (hn : l.size ≤ n) (hM : Mac F bm cs vs) (hv : TrS F 9 EhR v l) (hg : GEl l) (hln : l.len ≤ 3000) (hf : formEL l = true) :
    Ct Tryz.prog 87 [ptr bm, v] F [] (fun F' _ u => ListR F' u (listO (evL cs vs l))) := by
  obtain ⟨ao, cap, rfl, hcap, hpos⟩ := hv
  refine Ct.enter Tryz.func87 rfl Tryz.ntmps87 rfl fun w0 a S => ?_
  refine wp_sr fun Kq1 hKq1 => ?_
  iterate 2 (refine wpl_p S rfl rfl rfl ?_; clear S a; intro a S)
  (refine wpList_nil (hKq1 _ _ (wp_sr fun Kq2 hKq2 => ?_)); try clear hKq1 Kq1)
  (refine wpl_p S rfl rfl rfl ?_; clear S a; intro a S)
  (refine wpList_nil (hKq2 _ _ (wp_seq_k fun Kq3 hKq3 => ?_)); try clear hKq2 Kq2)
  refine wp_sr fun Kq4 hKq4 => ?_
  (refine wpl_p S rfl rfl rfl ?_; clear S a; intro a S)
  (refine wpl_n S rfl rfl rfl ?_; clear S a; intro a S)
  (refine wpl_p S rfl rfl rfl ?_; clear S a; intro a S)
  (refine wpList_nil (hKq4 _ _ ?_); try clear hKq4 Kq4)
  refine wp_block ?_
  refine wpc_loop (fun m a w' => ∃ (i : Nat) (v : Value) (g : Grp) (xs : List Value) (pre : List Vv) (F3 : Heap), m = l.len - i ∧ i ≤ l.len ∧ (∀ b o, F b = some o → F3 b = some o) ∧ OwnS 26 4 v i xs g ∧ LiC F3 4 (RoR 4 VhR) xs pre ∧ pre.length = i ∧ addP pre (listO (evL cs vs (l.drop i))) = listO (evL cs vs l) ∧ St 32 [(0, ptr bm), (6, v), (11, .slice ao l.len cap), (12, .int .i64 l.len), (13, .int .i64 i)] w0 F [] F3 [g] a w') ?_ ?_
  · (replace S := S.nilg; refine ⟨l.len, 0, .slice none 0 0, [], [], [], F, by omega, Nat.zero_le _, fun _ _ h => h, OwnS.nil _ _, rfl, rfl, addP_nil _ (listO_no _), ?_⟩; refine S.keep ?_; repeat (first | exact trivial | refine ⟨rfl, ?_⟩))
  (clear S; rintro m a w ⟨i, v, g, xs, pre, F3, rfl, hil, hF3, hown, hfc, hpre, had, S⟩)
  refine wp_sr fun Kq5 hKq5 => ?_
  (refine wpl_p S rfl rfl rfl ?_; clear S a; intro a S)
  (refine wpList_nil (hKq5 _ _ (wp_seq_k fun Kq6 hKq6 => ?_)); try clear hKq5 Kq5)
  refine wpc_split S rfl (fun h => ?_) (fun h => ?_)
  · (skip; (try simp only [tq] at h))
    refine wp_skip ?_
    (refine hKq6 _ _ ?_; try (clear hKq6 Kq6))
    (refine wp_seq_k ?_; intro Kq7 hKq7)
    refine wp_block ?_
    (refine wp_seq_k ?_; intro Kq8 hKq8)
    (obtain ⟨b8, o8, hao, x, cs1, v1, hx, hc1, hR1, hT1⟩ := TrM.pos hpos (k := i) (by omega); rw [hao] at S; have hxs := Rose.size_get hx; replace hc1 := Cels.mono hF3 hc1; have hX := (exc_of hR1 hT1).mono hF3; have hXc := hX; obtain ⟨w1, v1', he1, ⟨a91, c91, rfl, -⟩, ⟨a92, c92, rfl, -⟩⟩ := hXc; rw [he1] at hc1 hX)
    refine wp_region_lit ?_
    (refine wpl_i S rfl rfl rfl ?_; clear S a; intro a S)
    (refine wpl_l S rfl rfl rfl ?_; clear S a; intro a S)
    (refine wpl_alloc S rfl rfl rfl rfl ?_; clear S a; intro b8 a w S)
    (refine wpl_storeO S rfl rfl rfl rfl rfl (by rfl) (by simp [Value.cells, Value.oneCell', splice]) (by rfl) ?_; clear S; intro w S)
    (refine wpList_nil (hKq8 _ _ (wp_sr fun Kq9 hKq9 => ?_)); try clear hKq8 Kq8)
    (refine wpl_p S rfl rfl rfl ?_; clear S a; intro a S)
    (refine wpl_l S rfl rfl rfl ?_; clear S a; intro a S)
    (refine wpl_callF S rfl rfl rfl rfl rfl rfl (hE F3 bm cs vs x.1 x.2 _ (by omega) (hM.mono hF3) hX (GEl.get hg hx) (formEL_get hf hx)) rfl ?_; clear S a; intro u9 F4 a w hv hF4 S; obtain ⟨cs4, rfl, hV4⟩ := hv; have hV4c := hV4; obtain ⟨v4, rfl, ⟨a4, c4, rfl, -⟩, -⟩ := hV4c)
    iterate 3 (refine wpl_p S rfl rfl rfl ?_; clear S a; intro a S)
    (refine wpl_alloc S rfl rfl rfl rfl ?_; clear S a; intro b9 a w S)
    (refine wpl_storeO S rfl rfl rfl rfl rfl (by rfl) (by simp [Value.cells, Value.oneCell', splice]) (by rfl) ?_; clear S; intro w S)
    (refine wpl_p S rfl rfl rfl ?_; clear S a; intro a S)
    (refine wpList_nil (hKq9 _ _ (wp_seq_k fun Kq10 hKq10 => ?_)); try clear hKq9 Kq9)
    refine wp_sr fun Kq11 hKq11 => ?_
    iterate 2 (refine wpl_p S rfl rfl rfl ?_; clear S a; intro a S)
    (refine wpList_nil (hKq11 _ _ ?_); try clear hKq11 Kq11)
    refine wpc_split S rfl (fun h => ?_) (fun h => ?_)
    · (skip; (try simp only [tq] at h))
      refine wp_sr fun Kq12 hKq12 => ?_
      iterate 3 (refine wpl_p S rfl rfl rfl ?_; clear S a; intro a S)
      (refine wpList_nil (hKq12 _ _ ?_); try clear hKq12 Kq12)
      refine wp_ret ?_
      (first | (have hii : i = l.len := (by omega); have hle := add_le (G1 := []) S; replace S := St.freeze (G1 := []) S; (simp only [List.nil_append] at S hle)) | skip)
      refine fin_ret S (results2 Tryz.results87 (RV.tmp S rfl) (RV.tmp S rfl)) ?_
      (first | (have hii : i = l.len := (by omega); rw [Rose.drop_len (by omega), addP_end] at had; rw [← had]; exact ⟨_, rfl, trs_lim (LiC.lim hown hfc hpre.symm hle (by omega))⟩) | (rw [← had, evL_drop hx, addP_no (by assumption)]; exact ⟨_, rfl, TrS.nil _ _ _⟩) | trace_state)
    (skip; (try simp only [tq] at h))
    refine wp_skip ?_
    (refine hKq10 _ _ ?_; try (clear hKq10 Kq10))
    (obtain ⟨aoK, capK, rfl, -⟩ := hown.at)
    refine wp_region_lit ?_
    (refine wpl_p S rfl rfl rfl ?_; clear S a; intro a S)
    (refine wpl_l S rfl rfl rfl ?_; clear S a; intro a S)
    (refine wpl_append S rfl rfl rfl rfl rfl rfl rfl rfl rfl rfl rfl (fun _ => rfl) hown (by rfl) (by simp [Value.cells, splice, splice]) (by simp [Value.cells, Value.oneCell', splice, splice]) rfl (by rfl) (by rfl) rfl (by omega) (by omega) ?_; clear hown S a; intro v u g a w hown S)
    (refine wpl_p S rfl rfl rfl ?_; clear S a; intro a S)
    (refine wpList_nil (hKq7 _ _ ?_); try clear hKq7 Kq7)
    refine wp_region_lit ?_
    (refine wpl_a S rfl rfl rfl ?_; clear S a; intro a S)
    (refine wpl_p S rfl rfl rfl ?_; clear S a; intro a S)
    refine wpList_nil ?_
    change ∃ m', _ ∧ _
    (rw [← hao] at S; replace S := S.drop1.drop1; refine ⟨l.len - (i + 1), by omega, i + 1, _, _, _, pre ++ [(evE cs vs x.1 x.2).2], F4, rfl, by omega, fun b o h => hF4 _ _ (hF3 _ _ h), hown, LiC.app (hfc.mono hF4) (LiC.one rfl (vac_ror hV4)), by rw [List.length_append, hpre]; rfl, by rw [← had, evL_drop hx, addP_yes (by omega)], ?_⟩; refine S.keep ?_; repeat (first | exact trivial | refine ⟨rfl, ?_⟩))
  (skip; (try simp only [tq] at h))
  refine wp_exit ?_
  (refine hKq3 _ _ ?_; try (clear hKq3 Kq3))
  refine wp_sr fun Kq7 hKq7 => ?_
  iterate 3 (refine wpl_p S rfl rfl rfl ?_; clear S a; intro a S)
  (refine wpList_nil (hKq7 _ _ ?_); try clear hKq7 Kq7)
  refine wp_ret ?_
  (first | (have hii : i = l.len := (by omega); have hle := add_le (G1 := []) S; replace S := St.freeze (G1 := []) S; (simp only [List.nil_append] at S hle)) | skip)
  refine fin_ret S (results2 Tryz.results87 (RV.tmp S rfl) (RV.tmp S rfl)) ?_
  (first | (have hii : i = l.len := (by omega); rw [Rose.drop_len (by omega), addP_end] at had; rw [← had]; exact ⟨_, rfl, trs_lim (LiC.lim hown hfc hpre.symm hle (by omega))⟩) | (rw [← had, evL_drop hx, addP_no (by assumption)]; exact ⟨_, rfl, TrS.nil _ _ _⟩) | trace_state)
/-! ### truth values -/
theorem exc_slc {F : Heap} {xs : List Value} {h : EH} {L : Ef} (hX : ExC F xs h L) : ∃ a1 n1 c1 ao cap, xs = [.int .u8 (h.k : Int), .int .i64 h.l, .int .i64 h.c, .string (bs h.nm), .int .u8 (h.v.k : Int), .int .i64 h.v.n, .string (bs h.v.s), .slice a1 n1 c1, .slice ao L.len cap] ∧ TrS F 4 VhR (.slice a1 n1 c1) h.vl ∧ TrS F 9 EhR (.slice ao L.len cap) L := by
  obtain ⟨w, v, rfl, h2, h3⟩ := hX
  have h2c := h2
  have h3c := h3
  obtain ⟨a1, c1, rfl, -⟩ := h2c
  obtain ⟨ao, cap, rfl, -⟩ := h3c
  exact ⟨a1, _, c1, ao, cap, rfl, h2, h3⟩
theorem vac_slc {F : Heap} {xs : List Value} {h : VH} {L : Vf} (hX : VaC F xs h L) : ∃ ao cap, xs = [.int .u8 (h.k : Int), .int .i64 h.n, .string (bs h.s), .slice ao L.len cap] ∧ TrS F 4 VhR (.slice ao L.len cap) L ∧ h.s.length ≤ 140737488355328 := by
  obtain ⟨v, rfl, h2, h3⟩ := hX
  have h2c := h2
  obtain ⟨a1, c1, rfl, -⟩ := h2c
  exact ⟨a1, c1, rfl, h2, h3⟩
set_option maxHeartbeats 4000000 in
theorem mtruthCt {n : Nat} (hE : EvC n) (F : Heap) (bm : Nat) (cs : List KC) (vs : List Bd) (h : EH) (L : Ef) (xs : List Value) (hn : L.size < n) (hM : Mac F bm cs vs) (hX : ExC F xs h L) (hg : GE h L) (hf : formE h L = true) :
    Ct Tryz.prog 63 [ptr bm, .agg ⟨xs⟩] F [] (fun _ _ u => u = .tuple ⟨[.bool (truthO (evE cs vs h L)).1, .int .i64 (truthO (evE cs vs h L)).2]⟩) := by
  have hc := hE F bm cs vs h L xs hn hM hX hg hf
  obtain ⟨a1, n1, c1, ao, cap, rfl, -, -⟩ := exc_slc hX
  generalize evE cs vs h L = A at hc ⊢
  refine Ct.enter Tryz.func63 rfl Tryz.ntmps63 rfl fun w0 a S => ?_
  refine wp_sr fun Kq1 hKq1 => ?_
  (refine wpl_box S rfl rfl rfl rfl rfl ?_; clear S a; intro b3 a w S)
  iterate 2 (refine wpl_p S rfl rfl rfl ?_; clear S a; intro a S)
  (refine wpList_nil (hKq1 _ _ (wp_sr fun Kq2 hKq2 => ?_)); try clear hKq1 Kq1)
  (refine wpl_p S rfl rfl rfl ?_; clear S a; intro a S)
  (refine wpl_l S rfl rfl rfl ?_; clear S a; intro a S)
  (refine wpl_callF S rfl rfl rfl rfl rfl rfl hc rfl ?_; clear S a; intro u9 F4 a w hv hF4 S; obtain ⟨cs4, rfl, hV4⟩ := hv; obtain ⟨a4, c4, rfl, hT4, hs4⟩ := vac_slc hV4)
  iterate 3 (refine wpl_p S rfl rfl rfl ?_; clear S a; intro a S)
  (refine wpl_alloc S rfl rfl rfl rfl ?_; clear S a; intro b6 a w S)
  (refine wpl_storeO S rfl rfl rfl rfl rfl (by rfl) (by simp [Value.cells, Value.oneCell', splice]) (by rfl) ?_; clear S; intro w S)
  (refine wpl_p S rfl rfl rfl ?_; clear S a; intro a S)
  (refine wpList_nil (hKq2 _ _ (wp_seq_k fun Kq3 hKq3 => ?_)); try clear hKq2 Kq2)
  refine wp_block ?_
  refine wp_sr fun Kq4 hKq4 => ?_
  iterate 3 (refine wpl_p S rfl rfl rfl ?_; clear S a; intro a S)
  (refine wpList_nil (hKq4 _ _ ?_); try clear hKq4 Kq4)
  refine wpc_split S rfl (fun h => ?_) (fun h => ?_)
  · (skip; (try simp only [tq] at h))
    refine wp_sr fun Kq5 hKq5 => ?_
    iterate 3 (refine wpl_p S rfl rfl rfl ?_; clear S a; intro a S)
    (refine wpList_nil (hKq5 _ _ ?_); try clear hKq5 Kq5)
    refine wp_ret (fin_ret S (results2 Tryz.results63 (RV.tmp S rfl) (RV.tmp S rfl)) ?_)
    (unfold truthO; first | (rw [if_pos (by assumption)]; done) | (rw [if_neg (by omega), if_pos (by omega)]; done) | (rw [if_neg (by omega), if_neg (by omega)]; rfl) | trace_state)
  (skip; (try simp only [tq] at h))
  refine wp_sr fun Kq5 hKq5 => ?_
  (refine wpl_f S rfl rfl rfl ?_; clear S a; intro a S)
  (refine wpl_l S rfl rfl rfl ?_; clear S a; intro a S)
  iterate 2 (refine wpl_p S rfl rfl rfl ?_; clear S a; intro a S)
  (refine wpList_nil (hKq5 _ _ ?_); try clear hKq5 Kq5)
  refine wpc_split S rfl (fun h => ?_) (fun h => ?_)
  · (skip; (try simp only [tq] at h))
    refine wp_sr fun Kq6 hKq6 => ?_
    iterate 2 (refine wpl_p S rfl rfl rfl ?_; clear S a; intro a S)
    (refine wpList_nil (hKq6 _ _ ?_); try clear hKq6 Kq6)
    refine wp_ret (fin_ret S (results2 Tryz.results63 (RV.tmp S rfl) (RV.tmp S rfl)) ?_)
    (unfold truthO; first | (rw [if_pos (by assumption)]; done) | (rw [if_neg (by omega), if_pos (by omega)]; done) | (rw [if_neg (by omega), if_neg (by omega)]; rfl) | trace_state)
  (skip; (try simp only [tq] at h))
  refine wp_skip ?_
  (refine hKq3 _ _ ?_; try (clear hKq3 Kq3))
  refine wp_sr fun Kq6 hKq6 => ?_
  (refine wpl_f S rfl rfl rfl ?_; clear S a; intro a S)
  (refine wpl_l S rfl rfl rfl ?_; clear S a; intro a S)
  iterate 3 (refine wpl_p S rfl rfl rfl ?_; clear S a; intro a S)
  (refine wpList_nil (hKq6 _ _ ?_); try clear hKq6 Kq6)
  refine wp_ret (fin_ret S (results2 Tryz.results63 (RV.tmp S rfl) (RV.tmp S rfl)) ?_)
  (unfold truthO; first | (rw [if_pos (by assumption)]; done) | (rw [if_neg (by omega), if_pos (by omega)]; done) | (rw [if_neg (by omega), if_neg (by omega)]; rfl) | trace_state)
end Go.Proofs.YtigblodhdfnleaaGreatDoor
