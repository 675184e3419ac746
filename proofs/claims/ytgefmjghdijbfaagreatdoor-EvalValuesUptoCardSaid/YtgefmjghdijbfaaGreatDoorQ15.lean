/- Walks. -/
import Derived.Test.YtgefmjghdijbfaaGreatDoorQ14
import Derived.Test.YtgefmjghdijbfaaGreatDoorQ12
import Derived.Test.YtgefmjghdijbfaaGreatDoorRows
import Derived.Test.YtgefmjghdijbfaaGreatDoorCards
import Derived.Test.YtgefmjghdijbfaaGreatDoorTie
import Derived.WalkKit
import Derived.ProofKit
import Derived.LaidMore
import Derived.LaidHandle
import Derived.Lay
import Derived.OpenShut
import Derived.ShutString
import Derived.Stop.Joined
import Derived.ChangeOld
import Derived.Below
import Derived.SizedLaws
import Derived.SevenTiedAt
import Derived.Test.YtgefmjghdijbfaaGreatDoorQ10
import Derived.Test.YtgefmjghdijbfaaGreatDoorQ11
import Derived.Test.YtgefmjghdijbfaaGreatDoorQShelf
import Derived.Test.YtgefmjghdijbfaaGreatDoorQ09
set_option maxHeartbeats 4000000
namespace Go.Proofs.YtgefmjghdijbfaaGreatDoor
open Go Go.Wk Go.Un Go.De Go.ChangeShapes Go.WideShapes Go.ChangeAt Go.RowKit Go.Num
set_option linter.unusedSimpArgs false
set_option linter.unusedVariables false
attribute [local irreducible] Go.wpList Go.Code.wp Go.wpStill Go.Wk.wpPre Go.bodyPost Go.Calls Go.Wk.Ct Go.Wk.OwnS Go.Wk.wpG Go.Wk.wpM
theorem ownK : ownKnob Tryz.prog.godebug = none := by kernel_rfl
theorem laidOut : laidOutB Tryz.prog = true := by kernel_rfl
theorem gPow : Tryz.prog.globalNamed "internal/strconv.uint64pow10" = some 2 := by kernel_rfl
theorem tPow : (Tryz.prog.globals[2]?).map (·.type) = some 303 := by kernel_rfl
theorem cPow : Tryz.prog.cellsOf 303 = 20 := by kernel_rfl
theorem cU64 : Tryz.prog.cellsOf 186 = 1 := by kernel_rfl
theorem powData : (Rows.laid_internal_strconv_uint64pow10 : DataW Unit) = Lib.tabData .u64 Lib.pow10Tab := rfl
theorem gErrR : Tryz.prog.globalNamed "strconv.ErrRange" = some 6 := by kernel_rfl
theorem tErrR : (Tryz.prog.globals[6]?).map (·.type) = some 119 := by kernel_rfl
theorem tabF_of {W : World} (h : Lib.TabIs Tryz.prog W "internal/strconv.uint64pow10" .u64 Lib.pow10Tab) : TabF (heapOf W) := by
 intro w hw
 unfold Lib.TabIs World.var? at *
 cases hg : Tryz.prog.globalNamed "internal/strconv.uint64pow10" with
 | none => rw [hg] at h; cases h
 | some g =>
  rw [hg] at h
  simp only [Option.bind_some] at h ⊢
  cases hb : W.heap[g]? with
  | none => rw [hb] at h; cases h
  | some o => rw [hw g o hb]; rw [hb] at h; exact h
theorem iface_cells {H : Type} {enc : TypeId × Value → H} {w : World} {base : Nat} {sp : Nat → Bool} {held : Bool} {fuel : Nat} {t : TypeId} {ms : Array (String × TypeId)} {cs : List Value} {x : DataW H × List MemPlace}
  (ht : Tryz.prog.underlying t = some (.interface ms)) (h : DataW.trod enc Tryz.prog w base sp held fuel t cs = some x) : cs = [.nilIface] ∨ ∃ u v, cs = [.iface u v] := by
 cases fuel with
 | zero => simp [DataW.trod] at h
 | succ fuel =>
  unfold DataW.trod at h
  rw [ht] at h
  split at h <;> first | (rename_i h1; simp only [Option.some.injEq, reduceCtorEq] at h1; done) | (left; rfl) | (right; exact ⟨_, _, rfl⟩) | (simp at *; done)
def laidD : List (String × DataW Unit) := [("math/bits.deBruijn32tab", Rows.laid_math_bits_deBruijn32tab), ("math/bits.deBruijn64tab", Rows.laid_math_bits_deBruijn64tab), ("internal/strconv.uint64pow10", Rows.laid_internal_strconv_uint64pow10), ("unicode/utf8.acceptRanges", Rows.laid_unicode_utf8_acceptRanges), ("strconv.ErrRange", Rows.laid_strconv_ErrRange), ("strconv.ErrSyntax", Rows.laid_strconv_ErrSyntax), ("unicode/utf8.first", Rows.laid_unicode_utf8_first)]
def laidA : List (String × DataW Unit) := [("math/bits.deBruijn32tab", Rows.laid_math_bits_deBruijn32tab), ("math/bits.deBruijn64tab", Rows.laid_math_bits_deBruijn64tab), ("internal/strconv.uint64pow10", Rows.laid_internal_strconv_uint64pow10), ("unicode/utf8.acceptRanges", Rows.laid_unicode_utf8_acceptRanges), ("errors.errorType", Rows.laid_errors_errorType), ("strconv.ErrRange", Rows.laid_strconv_ErrRange), ("strconv.ErrSyntax", Rows.laid_strconv_ErrSyntax), ("unicode/utf8.first", Rows.laid_unicode_utf8_first)]
theorem gErr : Tryz.prog.globalNamed "errors.errorType" = some 0 := by kernel_rfl
theorem rtErr : (Tryz.prog.cutTypes.find? (·.1 == "internal/reflectlite.rtype")).map (·.2) = some 208 := by kernel_rfl
theorem oneErr : ((List.range Tryz.prog.types.size).filter fun t => Tryz.prog.rowNamed t [101, 114, 114, 111, 114]) = [119] := by kernel_rfl
theorem vars_of {W : World} (h : laidMetH Tryz.prog laidA W) : EnK (heapOf W) := by
 have h' : laidMet Tryz.prog laidD W ∧ handlesMet Tryz.prog [("errors.errorType", Rows.laid_errors_errorType)] W := h
 have hTE : TabF (heapOf W) ∧ ErrF (heapOf W) := by
  obtain ⟨ps, ⟨g0, t0, cs0, f0, p0, q0, _, _, _, _, ⟨g1, t1, cs1, f1, p1, q1, _, _, _, _, ⟨g2, t2, cs2, f2, p2, q2, hg2, ht2, hv2, hd2, ⟨g4, t4, cs4, f4, p4, q4, _, _, _, _, ⟨g3, t3, cs3, f3, p3, q3, hg3, ht3, hv3, hd3, _, _⟩, _⟩, _⟩, _⟩, _⟩, _, _⟩ := h'.1
  obtain rfl := Option.some.inj (gPow.symm.trans hg2)
  obtain rfl := Option.some.inj (tPow.symm.trans ht2)
  obtain rfl := Option.some.inj (gErrR.symm.trans hg3)
  obtain rfl := Option.some.inj (tErrR.symm.trans ht3)
  refine ⟨tabF_of ?_, ?_⟩
  ·unfold Lib.TabIs
   rw [hv2, ← Lib.cells_of_tab Tryz.underlying303 Tryz.underlying186 cU64 cPow (by rw [← powData]; exact hd2)]
  ·have hc := iface_cells Tryz.underlying119 hd3
   unfold World.var? at hv3
   rw [gErrR] at hv3
   simp only [Option.bind_some] at hv3
   cases hb : W.heap[6]? with
   | none => rw [hb] at hv3; cases hv3
   | some o =>
    rw [hb] at hv3
    cases o with
    | cells c e fz =>
     simp only [Option.some.injEq] at hv3
     subst hv3
     rcases hc with hc | ⟨u, v, hc⟩
     ·exact ⟨.nilIface, ⟨c, e, fz, hb, by obtain ⟨l⟩ := c; simp only at hc; subst hc; rfl⟩, Or.inl rfl⟩
     ·exact ⟨.iface u v, ⟨c, e, fz, hb, by obtain ⟨l⟩ := c; simp only at hc; subst hc; rfl⟩, Or.inr ⟨u, v, rfl⟩⟩
    | _ => cases hv3
 refine ⟨hTE.1, hTE.2, ?_⟩
 ·obtain ⟨name, u, ty, e1, e2, e3, e4, e5⟩ := h'.2 _ (List.mem_singleton.2 rfl)
  have en : name = [101, 114, 114, 111, 114] := (Option.some.inj e1).symm
  subst en
  obtain rfl := Option.some.inj (rtErr.symm.trans e2)
  have hm : ty ∈ (List.range Tryz.prog.types.size).filter fun t => Tryz.prog.rowNamed t [101, 114, 114, 111, 114] := List.mem_filter.2 ⟨List.mem_range.2 e3, e4⟩
  rw [oneErr] at hm
  obtain rfl := List.mem_singleton.1 hm
  have hh : typeHandle Tryz.prog 119 = hd 119 := by kernel_rfl
  rw [hh] at e5
  have h6 : W.cell? ⟨0, 0, none⟩ = some (.iface 208 (.agg #[hd 119])) := by simpa using World.var?_cell gErr e5 0
  exact (cel_of h6).2
noncomputable def startW (os : Os) : World := (World.doorLaid Tryz.prog 400 os).layVars Tryz.prog laidD
theorem startW_os (os : Os) : (startW os).os = os := (World.layVars_os _ _ _).trans rfl
theorem laidD_met (os : Os) : laidMet Tryz.prog laidD (startW os) :=
 laidMet_layVars (w0 := World.doorLaid Tryz.prog 400 os) (laidD.map (·.1)) [] (by kernel_rfl) (by kernel_rfl) (by kernel_rfl) LaidIn.none
theorem doorA (os : Os) (args : Array Value) : laidMetH Tryz.prog laidA ((startW os).forCall (fun _ _ => 0) ⟨#[], args, []⟩).memory :=
 laidMetH_of_parts3 (fuel := 8) ((laidD_met os).of_heap (by simp [World.memory, World.forCall, Input.heap])) (by kernel_rfl) (by kernel_rfl)
theorem ownVCt : ∀ (n : Nat) (F : Heap) (h : VH) (L : Vf) (cs : List Value), L.size ≤ n → L.size ≤ 1000000000 → VaC F cs h L → Ct Tryz.prog 35 [.agg ⟨cs⟩] F [] (fun F' _ u => ∃ cs', u = .agg ⟨cs'⟩ ∧ VaC F' cs' h L) := by
 intro n
 induction n using Nat.strongRecOn with
 | _ n ih =>
 intro F h L cs hn hb hV
 obtain ⟨v, rfl, ⟨ao, cap, rfl, hcap, hpos⟩, hsb⟩ := hV
 have hll := Rose.len_size L
 refine Ct.enter Tryz.func35 rfl Tryz.ntmps35 rfl fun w0 a S => ?_
 refine wp_sr fun Z hZ => ?_
 (refine wbx S ?_; clear S a; intro b1 a w S)
 (refine wpl_alloc S rfl rfl rfl rfl ?_; clear S a; intro b2 a w S)
 (revert S a; revert hZ Z; refine go 15 ?_; intro Z hZ a S)
 refine wpc_loop (fun m a w' => ∃ (i : Nat) (v : Value) (g : Grp) (xs : List Value) (F3 : Heap), m = L.len - i ∧ i ≤ L.len ∧ (∀ b o, F b = some o → F3 b = some o) ∧ OwnS 33 4 v i xs g ∧ LiC F3 4 (RoR 4 VhR) xs ((kids L).take i) ∧ St 22 [(1, ptr b1), (2, ptr b2), (3, v), (7, .slice ao L.len cap), (8, .int .i64 L.len), (9, .int .i64 i)] w0 F [] F3 (g :: [(b2, .cells ⟨[.int .u8 0, .int .i64 0, .string (bs []), .slice none 0 0]⟩ 33 (0, 0))] :: [(b1, .cells ⟨[.int .u8 (h.k : Int), .int .i64 h.n, .string (bs h.s), .slice ao L.len cap]⟩ 33 (0, 0))] :: []) a w') ?_ ?_
 ·(replace S := S.nilg; refine ⟨L.len, 0, .slice none 0 0, [], [], F, by omega, Nat.zero_le _, fun _ _ h => h, OwnS.nil _ _, rfl, ?_⟩; refine S.keep ?_; exact zk)
 (clear S; rintro m a w ⟨i, v, g, xs, F3, rfl, hil, hF3, hown, hfc, S⟩)
 (revert S a; refine go 5 ?_; intro Z hZ a S)
 refine wpc_sp S rfl ?_ ?_ <;> intro h
 ·(revert S a; revert hZ Z; refine go 4 ?_; intro Z hZ a S)
  (refine wp_seq_k ?_; intro Z hZ)
  (obtain ⟨b8, o8, hao, x, cs1, v1, hx, hc1, hw9, hT1⟩ := TrM.pos hpos (k := i) (by omega); rw [hao] at S; replace hc1 := Cels.mono hF3 hc1; replace hT1 := hT1.mono hF3; have hxs := Rose.size_get hx; have hT1c := hT1; obtain ⟨a91, c91, rfl, -⟩ := hT1c; have hw9c := hw9.1; subst hw9c; (simp only [List.cons_append, List.nil_append] at hc1))
  (revert S a; refine go 3 ?_; intro a S)
  (refine wpl_alloc S rfl rfl rfl rfl ?_; clear S a; intro b5 a w S)
  (refine wso S rfl rfl ?_; clear S; intro w S)
  (revert S a; revert hZ Z; refine go 5 ?_; intro a S)
  (refine wcF S (ih x.2.size (by omega) F3 x.1 x.2 _ (Nat.le_refl _) (by omega) ⟨_, rfl, hT1, hw9.2⟩) ?_; clear S a; intro u9 F4 a w hv hF4 S; obtain ⟨cs4, rfl, hV4⟩ := hv; have hV4c := hV4; obtain ⟨v4, rfl, ⟨a4, c4, rfl, -⟩, -⟩ := hV4c)
  (refine wpl_append S rfl rfl rfl rfl rfl rfl rfl rfl rfl rfl rfl (fun _ => rfl) hown (by rfl) (by simp [Value.cells, splice, splice]) (by simp [Value.cells, Value.oneCell', splice, splice]) rfl (by rfl) (by rfl) rfl (by omega) (by omega) ?_; clear hown S a; intro v u g a w hown S)
  (revert S a; revert hZ Z; refine go 7 ?_; intro a S)
  change ∃ m', _ ∧ _
  (rw [← hao] at S; replace S := S.drop1; refine ⟨L.len - (i + 1), by omega, i + 1, _, _, _, F4, rfl, by omega, fun b o h => hF4 _ _ (hF3 _ _ h), hown, ?_, ?_⟩; rotate_left 1; (refine S.keep ?_; exact zk); (rw [List.take_add_one, kids_get, hx]; exact LiC.app (hfc.mono hF4) (LiC.one rfl (vac_ror hV4))))
 (refine wp_exit ?_; conv => whnf)
 clear hZ Z
 (refine hZ _ _ ?_; clear hZ Z)
 (refine wp_seq_k ?_; intro Z hZ)
 (obtain ⟨aoK, capK, rfl, -⟩ := hown.at)
 (revert S a; refine go 3 ?_; intro a S)
 (refine wpl_store1 S rfl rfl rfl rfl rfl rfl (by first | (simp; done) | (simp [Value.cells]; done) | exact Nat.le_of_ble_eq_true rfl) ?_; clear S; intro w S)
 (revert S a; revert hZ Z; refine go 4 ?_; intro Z hZ a S)
 (refine wso S rfl rfl ?_; clear S; intro w S)
 (revert S a; revert hZ Z; refine go 2 ?_; intro a S)
 refine wp_ret ?_
 (have hii : i = L.len := (by omega); have hle := add_le (G1 := []) S; replace S := St.freeze (G1 := []) S; (simp only [List.nil_append] at S hle))
 refine fin_ret S (results1 Tryz.results35 (RV.cellO S rfl (by rfl))) ?_
 (rw [List.take_of_length_le (by rw [kids_len]; omega)] at hfc; exact ⟨_, rfl, _, rfl, trs_kids (LiC.lim hown hfc (by rw [kids_len]; omega) hle (by omega)), hsb⟩)
def insL : Vf → Nat
 | .nil => 0
 | .cons _ L r => (insL L + 1) + insL r
theorem insL_size : ∀ L : Vf, insL L = L.size
 | .nil => rfl
 | .cons h L r => by show (insL L + 1) + insL r = L.size + r.size + 1; rw [insL_size L, insL_size r]; omega
abbrev Ans := Int × Vv
def zV : Vv := (⟨0, 0, []⟩, .nil)
def noA (e : Int) : Ans := (e, zV)
def yesA (v : Vv) : Ans := (0, v)
def boolV (b : Bool) : Vv := (⟨1, if b then 1 else 0, []⟩, .nil)
def intV (n : Int) : Vv := (⟨2, n, []⟩, .nil)
def bigV (s : List UInt8) : Vv := (⟨3, 0, s⟩, .nil)
def textV (s : List UInt8) : Vv := (⟨4, 0, s⟩, .nil)
def in64 (n : Int) : Prop := -9223372036854775808 ≤ n ∧ n ≤ 9223372036854775807
instance (n : Int) : Decidable (in64 n) := by unfold in64; infer_instance
def intO (k : Nat) (a b : Int) : Int × Int :=
 if k = 0 then (if in64 (a + b) then (a + b, 0) else (0, 80))
 else if k = 1 then (if in64 (a - b) then (a - b, 0) else (0, 80))
 else if k = 2 then (if in64 (a * b) then (a * b, 0) else (0, 80))
 else if k = 3 then (if b = 0 then (0, 81) else if in64 (a.tdiv b) then (a.tdiv b, 0) else (0, 80))
 else (if b = 0 then (0, 81) else (a.tmod b, 0))
def numO (k : Nat) (a b : Vv) : Ans :=
 if a.1.k = 2 ∧ b.1.k = 2 then (if (intO k a.1.n b.1.n).2 ≠ 0 then noA (intO k a.1.n b.1.n).2 else yesA (intV (intO k a.1.n b.1.n).1))
 else if a.1.k = 3 ∧ b.1.k = 3 then (if (doA k a.1.s b.1.s).2 ≠ 0 then noA (doA k a.1.s b.1.s).2 else yesA (bigV (doA k a.1.s b.1.s).1))
 else noA 70
def ordT (k : Nat) (c : Int) : Bool := if k = 0 then decide (c = 0) else if k = 1 then decide (c ≠ 0) else if k = 2 then decide (c < 0) else if k = 3 then decide (c ≤ 0) else if k = 4 then decide (0 < c) else decide (0 ≤ c)
def ordO (k : Nat) (a b : Vv) : Ans := yesA (boolV (ordT k (cmpV2 a b)))
def catO (a b : Vv) : Ans := if a.1.k ≠ 4 ∨ b.1.k ≠ 4 then noA 70 else if 4096 < a.1.s.length + b.1.s.length then noA 80 else yesA (textV (a.1.s ++ b.1.s))
def ops2 : List (List UInt8 × (Vv → Vv → Ans)) :=
 [([43], numO 0), ([45], numO 1), ([42], numO 2), ([47], numO 3), ([37], numO 4), ([61, 61], ordO 0), ([33, 61], ordO 1), ([60], ordO 2), ([60, 61], ordO 3), ([62], ordO 4), ([62, 61], ordO 5), ([43, 43], catO)]
def op2 (s : List UInt8) : Option (Vv → Vv → Ans) := (ops2.find? fun x => decide (s = x.1)).map (·.2)
def sAnd : List UInt8 := [97, 110, 100]
def sOr : List UInt8 := [111, 114]
def sNot : List UInt8 := [110, 111, 116]
def sNeg : List UInt8 := [110, 101, 103]
def sLen : List UInt8 := [108, 101, 110]
def op1 (s : List UInt8) (a : Vv) : Ans :=
 if s = sNot ∧ a.1.k = 1 then yesA (boolV (decide (a.1.n = 0)))
 else if s = sNeg ∧ a.1.k = 2 then (if in64 (0 - a.1.n) then yesA (intV (0 - a.1.n)) else noA 80)
 else if s = sNeg ∧ a.1.k = 3 then yesA (bigV (negA a.1.s).1)
 else if s = sLen ∧ a.1.k = 4 then yesA (intV a.1.s.length)
 else if s = sBig ∧ a.1.k = 2 then yesA (bigV (showZ a.1.n).1)
 else if s = sInt ∧ a.1.k = 3 then (if checkS a.1.s = 0 ∧ in64 (valS a.1.s) then yesA (intV (valS a.1.s)) else noA 80)
 else noA 70
def wholeO (h : VH) (L : Vf) : Ans := if checkV h L = 65 ∨ 4096 < insL L + 1 then noA 80 else if checkV h L ≠ 0 then noA 4 else yesA (h, L)
def nthA : List Ans → Nat → Ans
 | [], _ => noA 0
 | x :: _, 0 => x
 | _ :: r, k + 1 => nthA r k
def truthO (x : Ans) : Bool × Int := if x.1 ≠ 0 then (false, x.1) else if x.2.1.k ≠ 1 then (false, 70) else (decide (x.2.1.n = 1), 0)
def listO : List Ans → Int × List Vv
 | [] => (0, [])
 | x :: r => if x.1 ≠ 0 then (x.1, []) else if (listO r).1 ≠ 0 then ((listO r).1, []) else (0, x.2 :: (listO r).2)
def fieldO (cs : List KC) (nm : List UInt8) (v : Vv) : Ans :=
 if v.1.k ≠ 6 then noA 70 else match findC cs v.1.s with
  | none => noA 70
  | some c => if c.fs.length ≠ v.2.len ∨ nm = [] then noA 70 else match c.fs.findIdx? fun f => decide (f.nm = nm) with
   | none => noA 70
   | some i => match v.2.get? i with | none => noA 70 | some x => yesA x
def partsO (h : VH) (l : List Ans) : Ans := if (listO l).1 ≠ 0 then noA (listO l).1 else wholeO h (roseOf (listO l).2)
def evK (cs : List KC) (vs : List Bd) (h : EH) (l : List Ans) : Ans :=
  if h.k = 1 then yesA (h.v, h.vl)
  else if h.k = 2 then (match findB vs h.nm with | none => noA 71 | some x => yesA x.2)
  else if h.k = 4 then partsO ⟨5, 0, []⟩ l
  else if h.k = 5 then (match findC cs h.nm with | none => noA 63 | some c => if c.fs.length ≠ l.length then noA 70 else partsO ⟨6, 0, h.nm⟩ l)
  else if h.k = 7 then (if (nthA l 0).1 ≠ 0 then noA (nthA l 0).1 else fieldO cs h.nm (nthA l 0).2)
  else if h.k = 8 then (if (truthO (nthA l 0)).2 ≠ 0 then noA (truthO (nthA l 0)).2 else if (truthO (nthA l 0)).1 = true then nthA l 1 else nthA l 2)
  else if h.nm = sAnd ∨ h.nm = sOr then
    (if (truthO (nthA l 0)).2 = 0 ∧ (truthO (nthA l 0)).1 = decide (h.nm = sAnd) then (if (truthO (nthA l 1)).2 ≠ 0 then noA (truthO (nthA l 1)).2 else yesA (boolV (truthO (nthA l 1)).1))
     else if (truthO (nthA l 0)).2 ≠ 0 then noA (truthO (nthA l 0)).2 else yesA (boolV (truthO (nthA l 0)).1))
  else if (listO l).1 ≠ 0 then noA (listO l).1
  else match (listO l).2 with
    | [a] => op1 h.nm a
    | a :: b :: _ => (match op2 h.nm with | some f => f a b | none => noA 0)
    | [] => noA 0
def evL (cs : List KC) (vs : List Bd) : Ef → List Ans
 | .nil => []
 | .cons h L r => evK cs vs h (evL cs vs L) :: evL cs vs r
def evE (cs : List KC) (vs : List Bd) (h : EH) (L : Ef) : Ans := evK cs vs h (evL cs vs L)
def deepL : Ef → Int → Bool
 | .nil, _ => false
 | .cons _ L r, d => (decide (64 < d) || deepL L (d + 1)) || deepL r d
def deepE (L : Ef) (d : Int) : Bool := decide (64 < d) || deepL L (d + 1)
def ones : List (List UInt8) := [sNot, sNeg, sLen, sBig, sInt]
def formK (h : EH) (n : Nat) : Bool :=
 if h.k = 4 then decide (n ≠ 1) && decide (n ≤ 16) else if h.k = 5 then true else if h.k = 7 then decide (n = 1) else if h.k = 8 then decide (n = 3)
 else if h.k = 6 then ((((op2 h.nm).isSome || decide (h.nm = sAnd)) || decide (h.nm = sOr)) && decide (n = 2)) || (decide (n = 1) && decide (h.nm ∈ ones)) else false
def formEL : Ef → Bool
 | .nil => true
 | .cons h L r => (if h.k = 1 then decide (checkV h.v h.vl = 0) else if h.k = 2 then true else formK h L.len && formEL L) && formEL r
def formE (h : EH) (L : Ef) : Bool := if h.k = 1 then decide (checkV h.v h.vl = 0) else if h.k = 2 then true else formK h L.len && formEL L
def evalO (cs : List KC) (vs : List Bd) (h : EH) (L : Ef) : Ans :=
 if deepE L 1 = true then noA 65 else if formE h L = false then noA 4 else if (vs.all fun x => mayV x.2) = false then noA 4 else evE cs vs h L
def AnsR (F : Heap) (u : Value) (x : Ans) : Prop := ∃ cs, u = .tuple ⟨[.agg ⟨cs⟩, .int .i64 x.1]⟩ ∧ VaC F cs x.2.1 x.2.2
theorem vac_z (F : Heap) {k : Nat} {n : Int} {s : List UInt8} (hs : s.length ≤ 140737488355328) : VaC F [.int .u8 (k : Int), .int .i64 n, .string (bs s), .slice none 0 0] ⟨k, n, s⟩ .nil := ⟨_, rfl, TrS.nil _ _ _, hs⟩
theorem ans_no (F : Heap) (e : Int) : AnsR F (.tuple ⟨[.agg ⟨[.int .u8 0, .int .i64 0, .string (bs []), .slice none 0 0]⟩, .int .i64 e]⟩) (noA e) := ⟨_, rfl, vac_z F (k := 0) (by decide)⟩
theorem eTruthCt (F : Heap) (b : Bool) : Ct Tryz.prog 119 [.bool b] F [] (fun _ _ u => u = .agg ⟨[.int .u8 1, .int .i64 (if b then 1 else 0), .string (bs []), .slice none 0 0]⟩) := by
 refine Ct.enter Tryz.func119 rfl Tryz.ntmps119 rfl fun w0 a S => ?_
 refine wp_sr fun Z hZ => ?_
 (refine wpl_alloc S rfl rfl rfl rfl ?_; clear S a; intro b2 a w S)
 (revert S a; revert hZ Z; refine go 7 ?_; intro Z hZ a S)
 refine wpc_sp S rfl ?_ ?_ <;> intro h
 ·(revert S a; refine go 2 ?_; intro Z hZ a S)
  (refine wso S rfl rfl ?_; clear S; intro w S)
  (revert S a; revert hZ Z; refine go 2 ?_; intro a S)
  refine wp_ret (fin_ret S (results1 Tryz.results119 (RV.cellO S rfl (by rfl))) ?_)
  (rw [h]; rfl)
 (revert S a; revert hZ Z; refine go 4 ?_; intro Z hZ a S)
 (refine wso S rfl rfl ?_; clear S; intro w S)
 (revert S a; revert hZ Z; refine go 2 ?_; intro a S)
 refine wp_ret (fin_ret S (results1 Tryz.results119 (RV.cellO S rfl (by rfl))) ?_)
 (rw [h]; rfl)
theorem eWholeCt (F : Heap) (n : Int) : Ct Tryz.prog 109 [.int .i64 n] F [] (fun _ _ u => u = .agg ⟨[.int .u8 2, .int .i64 n, .string (bs []), .slice none 0 0]⟩) := by
 refine Ct.enter Tryz.func109 rfl Tryz.ntmps109 rfl fun w0 a S => ?_
 refine wp_sr fun Z hZ => ?_
 (refine wpl_alloc S rfl rfl rfl rfl ?_; clear S a; intro b2 a w S)
 (revert S a; revert hZ Z; refine go 5 ?_; intro Z hZ a S)
 (refine wso S rfl rfl ?_; clear S; intro w S)
 (revert S a; revert hZ Z; refine go 2 ?_; intro a S)
 refine wp_ret (fin_ret S (results1 Tryz.results109 (RV.cellO S rfl (by rfl))) ?_)
 rfl
theorem zzEvB0 {p : Prop} (h : p := by (show _ = cmpV (if in64 (x + y) then (x + y, 0) else (0, 80)); first | (rw [if_neg (show ¬ in64 _ by unfold in64; omega)]; rfl) | (rw [if_pos (show in64 _ by unfold in64; omega), show c = x + y by omega]; rfl) | trace_state)) : p := h
theorem eAddCt (F : Heap) (x y : Int) (hx : in64 x) (hy : in64 y) : Ct Tryz.prog 57 [.int .i64 x, .int .i64 y] F [] (fun _ _ u => u = cmpV (intO 0 x y)) := by
 unfold in64 at hx hy
 refine Ct.enter Tryz.func57 rfl Tryz.ntmps57 rfl fun w0 a S => ?_
 (revert S a; refine go 8 ?_; intro Z hZ a S)
 (refine wv S (sv_addW S rfl rfl rfl) ?_; clear S a; intro a S; have hc := IntKind.wrap_i64 (x + y); generalize IntKind.i64.wrap (x + y) = c at S hc)
 (revert S a; revert hZ Z; refine go 11 ?_; intro Z hZ Z hZ a S)
 (rw [neD] at S)
 (revert S a; refine go 1 ?_; intro a S)
 refine wgd S ?_ ?_
 ·(clear S; intro h S)
  (revert S a; revert hZ Z; refine go 6 ?_; intro a S)
  refine wpc_sp S rfl ?_ ?_ <;> intro h
  ·(revert S a; refine go 5 ?_; intro a S)
   refine wp_ret (fr2 S Tryz.results57 ?_)
   exact zzEvB0
  (revert S a; revert hZ Z; refine go 8 ?_; intro a S)
  refine wp_ret (fr2 S Tryz.results57 ?_)
  exact zzEvB0
 (clear S a; intro h a S)
 (revert S a; revert hZ Z; refine go 4 ?_; intro a S)
 refine wpc_false S rfl ?_
 (revert S a; revert hZ Z; refine go 8 ?_; intro a S)
 refine wp_ret (fr2 S Tryz.results57 ?_)
 exact zzEvB0
theorem zzEvB1 {p : Prop} (h : p := by (show _ = cmpV (if in64 (x - y) then (x - y, 0) else (0, 80)); first | (rw [if_neg (show ¬ in64 _ by unfold in64; omega)]; rfl) | (rw [if_pos (show in64 _ by unfold in64; omega), show c = x - y by omega]; rfl) | trace_state)) : p := h
theorem eSubCt (F : Heap) (x y : Int) (hx : in64 x) (hy : in64 y) : Ct Tryz.prog 59 [.int .i64 x, .int .i64 y] F [] (fun _ _ u => u = cmpV (intO 1 x y)) := by
 unfold in64 at hx hy
 refine Ct.enter Tryz.func59 rfl Tryz.ntmps59 rfl fun w0 a S => ?_
 (revert S a; refine go 8 ?_; intro Z hZ a S)
 (refine wv S (sv_subW S rfl rfl rfl) ?_; clear S a; intro a S; have hc := IntKind.wrap_i64 (x - y); generalize IntKind.i64.wrap (x - y) = c at S hc)
 (revert S a; revert hZ Z; refine go 11 ?_; intro Z hZ Z hZ a S)
 (rw [neD] at S)
 (revert S a; refine go 1 ?_; intro a S)
 refine wgd S ?_ ?_
 ·(clear S; intro h S)
  (revert S a; revert hZ Z; refine go 6 ?_; intro a S)
  refine wpc_sp S rfl ?_ ?_ <;> intro h
  ·(revert S a; refine go 5 ?_; intro a S)
   refine wp_ret (fr2 S Tryz.results59 ?_)
   exact zzEvB1
  (revert S a; revert hZ Z; refine go 8 ?_; intro a S)
  refine wp_ret (fr2 S Tryz.results59 ?_)
  exact zzEvB1
 (clear S a; intro h a S)
 (revert S a; revert hZ Z; refine go 4 ?_; intro a S)
 refine wpc_false S rfl ?_
 (revert S a; revert hZ Z; refine go 8 ?_; intro a S)
 refine wp_ret (fr2 S Tryz.results59 ?_)
 exact zzEvB1
theorem eSizeCt (F : Heap) (x : Int) (hx : in64 x) : Ct Tryz.prog 115 [.int .i64 x] F [] (fun _ _ u => u = .int .u64 (x.natAbs : Int)) := by
 unfold in64 at hx
 refine Ct.enter Tryz.func115 rfl Tryz.ntmps115 rfl fun w0 a S => ?_
 (revert S a; refine go 10 ?_; intro Z hZ a S)
 refine wpc_sp S rfl ?_ ?_ <;> intro h
 ·(revert S a; refine go 2 ?_; intro Z hZ a S)
  (refine wv S (sv_conv S rfl rfl) ?_; clear S a; intro a S; have hc := IntKind.wrap_u64 x; generalize IntKind.u64.wrap x = c at S hc)
  (refine wv S (sv_negW S rfl rfl) ?_; clear S a; intro a S; have hd := IntKind.wrap_u64 (0 - c); generalize IntKind.u64.wrap (0 - c) = d at S hd)
  (revert S a; revert hZ Z; refine go 3 ?_; intro a S)
  refine wp_ret (fr1 S Tryz.results115 ?_)
  (congr 1; omega)
 (revert S a; revert hZ Z; refine go 4 ?_; intro Z hZ a S)
 (refine wv S (sv_conv S rfl rfl) ?_; clear S a; intro a S; have hc := IntKind.wrap_u64 x; generalize IntKind.u64.wrap x = c at S hc)
 (revert S a; revert hZ Z; refine go 3 ?_; intro a S)
 refine wp_ret (fr1 S Tryz.results115 ?_)
 (congr 1; omega)
theorem mul_abs (x y : Int) : (¬ (x < 0 ↔ y < 0) → x * y = -((x.natAbs * y.natAbs : Nat) : Int)) ∧ ((x < 0 ↔ y < 0) → x * y = ((x.natAbs * y.natAbs : Nat) : Int)) := by
 constructor
 ·intro h
  by_cases hx : x < 0
  ·have hy : ¬ y < 0 := fun h9 => h ⟨fun _ => h9, fun _ => hx⟩
   rw [Int.natCast_mul, show ((x.natAbs : Nat) : Int) = -x by omega, show ((y.natAbs : Nat) : Int) = y by omega, Int.neg_mul, Int.neg_neg]
  ·have hy : y < 0 := by
    by_cases h9 : y < 0
    ·exact h9
    ·exact absurd ⟨fun h8 => absurd h8 hx, fun h8 => absurd h8 h9⟩ h
   rw [Int.natCast_mul, show ((x.natAbs : Nat) : Int) = x by omega, show ((y.natAbs : Nat) : Int) = -y by omega, Int.mul_neg, Int.neg_neg]
 ·intro h
  by_cases hx : x < 0
  ·have hy := h.1 hx
   rw [Int.natCast_mul, show ((x.natAbs : Nat) : Int) = -x by omega, show ((y.natAbs : Nat) : Int) = -y by omega, Int.neg_mul_neg]
  ·have hy : ¬ y < 0 := fun h9 => hx (h.2 h9)
   rw [Int.natCast_mul, show ((x.natAbs : Nat) : Int) = x by omega, show ((y.natAbs : Nat) : Int) = y by omega]
theorem mul64Ct (F : Heap) (x y : Nat) (hx : x < 18446744073709551616) (hy : y < 18446744073709551616) : Ct Tryz.prog 114 [.int .u64 x, .int .u64 y] F [] (fun _ _ u => u = .tuple ⟨[.int .u64 ((x * y / 18446744073709551616 : Nat) : Int), .int .u64 ((x * y % 18446744073709551616 : Nat) : Int)]⟩) := by
 refine ct_of_below fun w hw => ?_
 refine (Tryz.bits_Mul64 x y hx hy w).mono fun e w' ⟨h1, h2⟩ => ⟨?_, ?_⟩
 ·rw [h1]
 ·rw [h2]; exact RowKit.Below.refl _ _
theorem zzEvB2 {p : Prop} (h : p := by (show _ = cmpV (if in64 (x * y) then (x * y, 0) else (0, 80)); generalize x * y = z at hab1 hab2 ⊢; first | (rw [if_neg (show ¬ in64 _ by unfold in64; omega)]; rfl) | (rw [if_pos (show in64 _ by unfold in64; omega), show c = z by omega]; rfl) | trace_state)) : p := h
theorem eMulCt (F : Heap) (x y : Int) (hx : in64 x) (hy : in64 y) : Ct Tryz.prog 61 [.int .i64 x, .int .i64 y] F [] (fun _ _ u => u = cmpV (intO 2 x y)) := by
 have hsx := eSizeCt F x hx
 have hsy := eSizeCt F y hy
 unfold in64 at hx hy
 have hm := mul64Ct F x.natAbs y.natAbs (by omega) (by omega)
 obtain ⟨hab1, hab2⟩ := mul_abs x y
 generalize x.natAbs * y.natAbs = p at hab1 hab2 hm
 refine Ct.enter Tryz.func61 rfl Tryz.ntmps61 rfl fun w0 a S => ?_
 (revert S a; refine go 7 ?_; intro Z hZ a S)
 (refine wc0 S hsx ?_; clear S a; intro v a w hv S; subst hv)
 (revert S a; refine go 1 ?_; intro a S)
 (refine wc0 S hsy ?_; clear S a; intro v a w hv S; subst hv)
 (refine wc0 S (hm) ?_; clear S a; intro v a w hv S; subst hv)
 (revert S a; revert hZ Z; refine go 13 ?_; intro Z hZ a S)
 (rw [neD] at S)
 (revert S a; revert hZ Z; refine go 9 ?_; intro Z hZ Z hZ a S)
 refine wgd S ?_ ?_
 ·(clear S; intro h S)
  (revert S a; refine go 5 ?_; intro a S)
  refine wgd S ?_ ?_
  ·(clear S; intro h S)
   (revert S a; refine go 5 ?_; intro a S)
   refine wgd S ?_ ?_
   ·(clear S; intro h S)
    (revert S a; revert hZ Z; refine go 9 ?_; intro a S)
    refine wpc_sp S rfl ?_ ?_ <;> intro h
    ·(revert S a; refine go 5 ?_; intro a S)
     refine wp_ret (fr2 S Tryz.results61 ?_)
     exact zzEvB2
    (revert S a; refine go 5 ?_; intro a S)
    refine wpc_sp S rfl ?_ ?_ <;> intro h
    ·(revert S a; refine go 2 ?_; intro Z hZ a S)
     (refine wv S (sv_negW S rfl rfl) ?_; clear S a; intro a S; have hd := IntKind.wrap_u64 (0 - ((p % 18446744073709551616 : Nat) : Int)); generalize IntKind.u64.wrap (0 - ((p % 18446744073709551616 : Nat) : Int)) = d at S hd)
     (refine wv S (sv_conv S rfl rfl) ?_; clear S a; intro a S; have hc := IntKind.wrap_i64 d; generalize IntKind.i64.wrap d = c at S hc)
     (revert S a; revert hZ Z; refine go 4 ?_; intro a S)
     refine wp_ret (fr2 S Tryz.results61 ?_)
     exact zzEvB2
    (revert S a; revert hZ Z; refine go 4 ?_; intro Z hZ a S)
    (refine wv S (sv_conv S rfl rfl) ?_; clear S a; intro a S; have hc := IntKind.wrap_i64 ((p % 18446744073709551616 : Nat) : Int); generalize IntKind.i64.wrap ((p % 18446744073709551616 : Nat) : Int) = c at S hc)
    (revert S a; revert hZ Z; refine go 4 ?_; intro a S)
    refine wp_ret (fr2 S Tryz.results61 ?_)
    exact zzEvB2
   (clear S a; intro h a S)
   (revert S a; revert hZ Z; refine go 7 ?_; intro a S)
   refine wpc_false S rfl ?_
   (revert S a; refine go 5 ?_; intro a S)
   refine wpc_sp S rfl ?_ ?_ <;> intro h
   ·(revert S a; refine go 2 ?_; intro Z hZ a S)
    (refine wv S (sv_negW S rfl rfl) ?_; clear S a; intro a S; have hd := IntKind.wrap_u64 (0 - ((p % 18446744073709551616 : Nat) : Int)); generalize IntKind.u64.wrap (0 - ((p % 18446744073709551616 : Nat) : Int)) = d at S hd)
    (refine wv S (sv_conv S rfl rfl) ?_; clear S a; intro a S; have hc := IntKind.wrap_i64 d; generalize IntKind.i64.wrap d = c at S hc)
    (revert S a; revert hZ Z; refine go 4 ?_; intro a S)
    refine wp_ret (fr2 S Tryz.results61 ?_)
    exact zzEvB2
   (revert S a; revert hZ Z; refine go 4 ?_; intro Z hZ a S)
   (refine wv S (sv_conv S rfl rfl) ?_; clear S a; intro a S; have hc := IntKind.wrap_i64 ((p % 18446744073709551616 : Nat) : Int); generalize IntKind.i64.wrap ((p % 18446744073709551616 : Nat) : Int) = c at S hc)
   (revert S a; revert hZ Z; refine go 4 ?_; intro a S)
   refine wp_ret (fr2 S Tryz.results61 ?_)
   exact zzEvB2
  (clear S a; intro h a S)
  (revert S a; revert hZ Z; refine go 9 ?_; intro a S)
  refine wpc_true S rfl ?_
  (revert S a; refine go 5 ?_; intro a S)
  refine wp_ret (fr2 S Tryz.results61 ?_)
  exact zzEvB2
 (clear S a; intro h a S)
 (revert S a; revert hZ Z; refine go 13 ?_; intro a S)
 refine wpc_true S rfl ?_
 (revert S a; refine go 5 ?_; intro a S)
 refine wp_ret (fr2 S Tryz.results61 ?_)
 exact zzEvB2
theorem zzEvB3 {p : Prop} (h : p := by (first | (rw [if_pos (by omega)]; rfl) | (have hy1 : y = -1 := (by omega); subst hy1; rw [if_neg (by decide), Int.tdiv_neg, Int.tdiv_one, ← Int.zero_sub]; rfl) | (rw [if_neg (by omega), if_pos (show in64 _ by unfold in64; omega)]; rfl) | trace_state)) : p := h
theorem eDivCt (F : Heap) (x y : Int) (hx : in64 x) (hy : in64 y) : Ct Tryz.prog 63 [.int .i64 x, .int .i64 y] F [] (fun _ _ u => u = cmpV (intO 3 x y)) := by
 have hs := eSubCt F 0 x (by decide) hx
 unfold in64 at hx hy
 show Ct Tryz.prog _ _ F [] (fun _ _ u => u = cmpV (if y = 0 then ((0 : Int), (81 : Int)) else if in64 (x.tdiv y) then (x.tdiv y, 0) else (0, 80)))
 refine Ct.enter Tryz.func63 rfl Tryz.ntmps63 rfl fun w0 a S => ?_
 (revert S a; refine go 13 ?_; intro Z hZ a S)
 refine wpc_sp S rfl ?_ ?_ <;> intro h
 ·(revert S a; refine go 5 ?_; intro a S)
  refine wp_ret (fr2 S Tryz.results63 ?_)
  exact zzEvB3
 (revert S a; refine go 6 ?_; intro a S)
 refine wpc_sp S rfl ?_ ?_ <;> intro h
 ·(revert S a; refine go 2 ?_; intro Z hZ a S)
  (refine wc0 S (hs) ?_; clear S a; intro v a w hv S; subst hv)
  (revert S a; revert hZ Z; refine go 6 ?_; intro a S)
  refine wp_ret (fr2 S Tryz.results63 ?_)
  exact zzEvB3
 (revert S a; revert hZ Z; refine go 5 ?_; intro Z hZ a S)
 (have hh := tdiv_half (x := x) (y := y); have h1 : y = 1 → x.tdiv y = x := (fun e => by rw [e, Int.tdiv_one]); (refine wv S (sv_quoG S rfl rfl rfl (by omega) (by omega)) ?_; clear S a; intro a S))
 (revert S a; revert hZ Z; refine go 4 ?_; intro a S)
 refine wp_ret (fr2 S Tryz.results63 ?_)
 exact zzEvB3
theorem zzEvB4 {p : Prop} (h : p := by (first | (rw [if_pos (by omega)]; rfl) | (have hy1 : y = -1 := (by omega); subst hy1; rw [if_neg (by decide), Int.tmod_neg, Int.tmod_one]; rfl) | (rw [if_neg (by omega)]; rfl) | trace_state)) : p := h
theorem eModCt (F : Heap) (x y : Int) : Ct Tryz.prog 65 [.int .i64 x, .int .i64 y] F [] (fun _ _ u => u = cmpV (intO 4 x y)) := by
 show Ct Tryz.prog _ _ F [] (fun _ _ u => u = cmpV (if y = 0 then ((0 : Int), (81 : Int)) else (x.tmod y, 0)))
 refine Ct.enter Tryz.func65 rfl Tryz.ntmps65 rfl fun w0 a S => ?_
 (revert S a; refine go 16 ?_; intro Z hZ a S)
 refine wpc_sp S rfl ?_ ?_ <;> intro h
 ·(revert S a; refine go 5 ?_; intro a S)
  refine wp_ret (fr2 S Tryz.results65 ?_)
  exact zzEvB4
 (revert S a; refine go 5 ?_; intro a S)
 refine wpc_sp S rfl ?_ ?_ <;> intro h
 ·(revert S a; refine go 5 ?_; intro a S)
  refine wp_ret (fr2 S Tryz.results65 ?_)
  exact zzEvB4
 (revert S a; revert hZ Z; refine go 5 ?_; intro Z hZ a S)
 (refine wv S (sv_remG S rfl rfl rfl (by omega)) ?_; clear S a; intro a S)
 (revert S a; revert hZ Z; refine go 4 ?_; intro a S)
 refine wp_ret (fr2 S Tryz.results65 ?_)
 exact zzEvB4
theorem zzEvB5 {p : Prop} (h : p := by (first | (rw [if_pos (by omega)]; exact ans_no _ _) | (rw [if_neg (by omega), if_pos (by omega)]; exact ans_no _ _) | (rw [if_neg (by omega), if_neg (by omega)]; exact ⟨_, rfl, vac_z _ (k := 4) (by rw [List.length_append]; omega)⟩) | trace_state)) : p := h
theorem eTextsCt (F : Heap) (x y : Vv) (cx cy : List Value) (hx : VaC F cx x.1 x.2) (hy : VaC F cy y.1 y.2) (bx : x.1.s.length ≤ 1000000) (by_ : y.1.s.length ≤ 1000000) : Ct Tryz.prog 74 [.agg ⟨cx⟩, .agg ⟨cy⟩] F [] (fun F' _ u => AnsR F' u (catO x y)) := by
 obtain ⟨⟨xk, xn, xs⟩, xl⟩ := x
 obtain ⟨⟨yk, yn, ys⟩, yl⟩ := y
 obtain ⟨v1, rfl, ⟨a1, c1, rfl, -⟩, -⟩ := hx
 obtain ⟨v2, rfl, ⟨a2, c2, rfl, -⟩, -⟩ := hy
 dsimp only at *
 unfold catO
 dsimp only
 refine Ct.enter Tryz.func74 rfl Tryz.ntmps74 rfl fun w0 a S => ?_
 refine wp_sr fun Z hZ => ?_
 (refine wbx S ?_; clear S a; intro b2 a w S)
 (refine wbx S ?_; clear S a; intro b3 a w S)
 (refine wpl_alloc S rfl rfl rfl rfl ?_; clear S a; intro b4 a w S)
 (revert S a; revert hZ Z; refine go 10 ?_; intro Z hZ Z hZ a S)
 refine wgd S ?_ ?_
 ·(clear S; intro h S)
  (revert S a; revert hZ Z; refine go 9 ?_; intro a S)
  refine wpc_sp S rfl ?_ ?_ <;> intro h
  ·(revert S a; refine go 2 ?_; intro Z hZ a S)
   (refine wso S rfl rfl ?_; clear S; intro w S)
   (revert S a; revert hZ Z; refine go 3 ?_; intro a S)
   refine wp_ret (fin_ret S (results2 Tryz.results74 (RV.cellO S rfl (by rfl)) (RV.tmp S rfl)) ?_)
   exact zzEvB5
  (revert S a; refine go 12 ?_; intro a S)
  refine wpc_sp S rfl ?_ ?_ <;> intro h
  ·(revert S a; refine go 2 ?_; intro Z hZ a S)
   (refine wso S rfl rfl ?_; clear S; intro w S)
   (revert S a; revert hZ Z; refine go 3 ?_; intro a S)
   refine wp_ret (fin_ret S (results2 Tryz.results74 (RV.cellO S rfl (by rfl)) (RV.tmp S rfl)) ?_)
   exact zzEvB5
  (revert S a; revert hZ Z; refine go 7 ?_; intro Z hZ a S)
  (refine wv S (sv_cat S rfl rfl rfl (by first | omega | (simp only [List.length_append, List.length_cons, List.length_nil]; omega))) ?_; clear S a; intro a S)
  (revert S a; refine go 1 ?_; intro a S)
  (refine wso S rfl rfl ?_; clear S; intro w S)
  (revert S a; revert hZ Z; refine go 3 ?_; intro a S)
  refine wp_ret (fin_ret S (results2 Tryz.results74 (RV.cellO S rfl (by rfl)) (RV.tmp S rfl)) ?_)
  exact zzEvB5
 (clear S a; intro h a S)
 (revert S a; revert hZ Z; refine go 6 ?_; intro a S)
 refine wpc_true S rfl ?_
 (revert S a; refine go 2 ?_; intro Z hZ a S)
 (refine wso S rfl rfl ?_; clear S; intro w S)
 (revert S a; revert hZ Z; refine go 3 ?_; intro a S)
 refine wp_ret (fin_ret S (results2 Tryz.results74 (RV.cellO S rfl (by rfl)) (RV.tmp S rfl)) ?_)
 exact zzEvB5
end Go.Proofs.YtgefmjghdijbfaaGreatDoor
namespace Go.De
open Go Go.Wk Go.Un
set_option linter.unusedSimpArgs false
set_option linter.unusedVariables false
def dpR : Vf → Int
 | .nil => 0
 | .cons _ L r => max (dpR L + 1) (dpR r)
end Go.De
namespace Go.Proofs.YtgefmjghdijbfaaGreatDoor
open Go Go.Wk Go.Num Go.Un Go.De
set_option linter.unusedSimpArgs false
set_option linter.unusedVariables false
attribute [local irreducible] Go.wpList Go.Code.wp Go.wpStill Go.Wk.wpPre Go.bodyPost Go.Calls Go.Wk.Ct Go.Wk.OwnS Go.Wk.wpG Go.Wk.wpM
theorem i64_nd {z : Int} (h0 : -9223372036854775808 ≤ z) (h1 : z ≤ 9223372036854775807) : nd 10 z.natAbs ≤ 19 := by
 refine nd_le ?_ t2
 have : z.natAbs ≤ 9223372036854775808 := by omega
 exact Nat.lt_of_le_of_lt this (by decide)
theorem show_itoa {z : Int} (h0 : -9223372036854775808 ≤ z) (h1 : z ≤ 9223372036854775807) : Lib.itoa z = (showZ z).1 := by
 have hn := i64_nd h0 h1
 by_cases hz : z.natAbs = 0
 ·have : z = 0 := by omega
  subst this
  rw [show (0 : Int) = ((0 : Nat) : Int) from rfl, Lib.itoa_nonneg, dd_small (by decide)]; rfl
 ·have hl : ¬ 200 < (Lib.decDigits z.natAbs).length := by rw [dd_nd hz]; omega
  unfold showZ showS
  rw [if_neg hz, if_neg hl]
  by_cases hs : z < 0
  ·rw [show z = -((z.natAbs : Nat) : Int) by omega, Lib.itoa_neg _ (by omega), Int.natAbs_neg, decide_eq_true (by omega)]
   simp
  ·have e : z = ((z.natAbs : Nat) : Int) := by omega
   rw [show Lib.itoa z = Lib.decDigits z.natAbs from (by conv => lhs; rw [e]; rw [Lib.itoa_nonneg]), decide_eq_false hs]
   simp
theorem bofnCt (n : Int) (F : Heap) (hT : TabF F) (h0 : -9223372036854775808 ≤ n) (h1 : n ≤ 9223372036854775807) : Ct Tryz.prog 153 [.int .i64 n, .int .i64 10] F [] (fun _ _ u => u = .string (bs (showZ n).1)) := by
 refine ct_of_below fun w hw => ?_
 refine (Tryz.strconv_FormatInt_10 n h0 h1 w (hT w hw.frz)).mono fun e w' ⟨h1', k, os, h2⟩ => ⟨?_, ?_⟩
 ·rw [h1', ← show_itoa h0 h1]; rfl
 ·rw [h2]; exact Lib.below_grow _ w (Nat.le_refl _) k os
theorem bigOfCt (n : Int) (F : Heap) (hT : TabF F) (h0 : -9223372036854775808 ≤ n) (h1 : n ≤ 9223372036854775807) : Ct Tryz.prog 167 [.int .i64 n] F [] (fun _ _ u => u = .string (bs (showZ n).1)) := by
 refine Ct.enter Tryz.func167 rfl Tryz.ntmps167 rfl fun w0 a S => ?_
 (revert S a; refine go 6 ?_; intro Z hZ a S)
 (refine wc0 S (bofnCt n F hT h0 h1) ?_; clear S a; intro v a w hv S; subst hv)
 (revert S a; revert hZ Z; refine go 3 ?_; intro a S)
 refine wp_ret (fr1 S Tryz.results167 ?_)
 rfl
def GVl : Vf → Prop
 | .nil => True
 | .cons h L r => (in64 h.n ∧ h.s.length ≤ 200000) ∧ GVl L ∧ GVl r
def GV (v : Vv) : Prop := (in64 v.1.n ∧ v.1.s.length ≤ 200000) ∧ GVl v.2 ∧ v.2.size ≤ 5000
theorem zzEvD0 {p : Prop} (h : p := by (first | (rw [if_pos (by omega), if_pos (by assumption)]; exact ans_no _ _) | (rw [if_pos (by omega), if_neg (by omega)]; exact ⟨_, rfl, vac_z _ (k := 2) (s := []) (by decide)⟩) | (rw [if_neg (by omega), if_pos (by omega), if_pos (by assumption)]; exact ans_no _ _) | (rw [if_neg (by omega), if_pos (by omega), if_neg (by omega)]; exact ⟨_, rfl, vac_z _ (k := 3) hd⟩) | (rw [if_neg (by omega), if_neg (by omega)]; exact ans_no _ _) | trace_state)) : p := h
theorem num1Ct (F : Heap) (k : Nat) (b2 b3 fidI fidB : Nat) [HasFn Tryz.prog fidI] [HasFn Tryz.prog fidB] (h2 : Cel F b2 0 (.func (.func fidI) ⟨[]⟩ ⟨[]⟩)) (h3 : Cel F b3 0 (.func (.func fidB) ⟨[]⟩ ⟨[]⟩))
  (hI : ∀ (x y : Int), in64 x → in64 y → Ct Tryz.prog fidI [.int .i64 x, .int .i64 y] F [] (fun _ _ u => u = cmpV (intO k x y))) (hB : ∀ (s t : List UInt8), s.length ≤ 1000000 → t.length ≤ 1000000 → Ct Tryz.prog fidB [.string (bs s), .string (bs t)] F [] (fun _ _ u => u = ansV (doA k s t)))
  (x y : Vv) (cx cy : List Value) (gx : GV x) (gy : GV y) (hx : VaC F cx x.1 x.2) (hy : VaC F cy y.1 y.2) (hd : (doA k x.1.s y.1.s).1.length ≤ 140737488355328) : Ct Tryz.prog 108 ([] ++ [.agg ⟨cx⟩, .agg ⟨cy⟩] ++ [ptr b2, ptr b3]) F [] (fun F' _ u => AnsR F' u (numO k x y)) := by
 obtain ⟨⟨xk, xn, xs⟩, xl⟩ := x
 obtain ⟨⟨yk, yn, ys⟩, yl⟩ := y
 obtain ⟨⟨ix, lx⟩, -, -⟩ := gx
 obtain ⟨⟨iy, ly⟩, -, -⟩ := gy
 obtain ⟨v1, rfl, ⟨a1, c1, rfl, -⟩, -⟩ := hx
 obtain ⟨v2, rfl, ⟨a2, c2, rfl, -⟩, -⟩ := hy
 dsimp only at *
 unfold numO
 dsimp only
 have hI' := hI xn yn ix iy
 have hB' := hB xs ys (by omega) (by omega)
 generalize intO k xn yn = p at hI' ⊢
 generalize doA k xs ys = q at hB' hd ⊢
 obtain ⟨p1, p2⟩ := p
 obtain ⟨q1, q2⟩ := q
 dsimp only at *
 refine Ct.enter Tryz.func108 rfl Tryz.ntmps108 rfl fun w0 a S => ?_
 refine wp_sr fun Z hZ => ?_
 (refine wbx S ?_; clear S a; intro b4 a w S)
 (refine wbx S ?_; clear S a; intro b5 a w S)
 (refine wpl_alloc S rfl rfl rfl rfl ?_; clear S a; intro b6 a w S)
 (revert S a; revert hZ Z; refine go 10 ?_; intro Z hZ Z hZ a S)
 refine wgd S ?_ ?_
 ·(clear S; intro h S)
  (revert S a; revert hZ Z; refine go 9 ?_; intro a S)
  refine wpc_sp S rfl ?_ ?_ <;> intro h
  ·refine wp_sr fun Z hZ => ?_
   (refine wv S (sv_loadF S rfl rfl h2) ?_; clear S a; intro a S)
   (revert S a; refine go 4 ?_; intro a S)
   (refine wc0 S hI' ?_; clear S a; intro v a w hv S; subst hv)
   (revert S a; revert hZ Z; refine go 13 ?_; intro Z hZ a S)
   refine wpc_sp S rfl ?_ ?_ <;> intro h
   ·(revert S a; refine go 3 ?_; intro Z hZ a S)
    (refine wso S rfl rfl ?_; clear S; intro w S)
    (revert S a; revert hZ Z; refine go 3 ?_; intro a S)
    refine wp_ret (fin_ret S (results2 Tryz.results108 (RV.cellO S rfl (by rfl)) (RV.tmp S rfl)) ?_)
    exact zzEvD0
   (revert S a; revert hZ Z; refine go 4 ?_; intro Z hZ a S)
   (refine wc0 S (eWholeCt F _) ?_; clear S a; intro v a w hv S; subst hv)
   (refine wso S rfl rfl ?_; clear S; intro w S)
   (revert S a; revert hZ Z; refine go 3 ?_; intro a S)
   refine wp_ret (fin_ret S (results2 Tryz.results108 (RV.cellO S rfl (by rfl)) (RV.tmp S rfl)) ?_)
   exact zzEvD0
  (revert S a; refine go 5 ?_; intro Z hZ a S)
  refine wgd S ?_ ?_
  ·(clear S; intro h S)
   (revert S a; revert hZ Z; refine go 9 ?_; intro a S)
   refine wpc_sp S rfl ?_ ?_ <;> intro h
   ·refine wp_sr fun Z hZ => ?_
    (refine wv S (sv_loadF S rfl rfl h3) ?_; clear S a; intro a S)
    (revert S a; refine go 4 ?_; intro a S)
    (refine wc0 S hB' ?_; clear S a; intro v a w hv S; subst hv)
    (revert S a; revert hZ Z; refine go 13 ?_; intro Z hZ a S)
    refine wpc_sp S rfl ?_ ?_ <;> intro h
    ·(revert S a; refine go 3 ?_; intro Z hZ a S)
     (refine wso S rfl rfl ?_; clear S; intro w S)
     (revert S a; revert hZ Z; refine go 3 ?_; intro a S)
     refine wp_ret (fin_ret S (results2 Tryz.results108 (RV.cellO S rfl (by rfl)) (RV.tmp S rfl)) ?_)
     exact zzEvD0
    (revert S a; revert hZ Z; refine go 5 ?_; intro Z hZ a S)
    (refine wso S rfl rfl ?_; clear S; intro w S)
    (revert S a; revert hZ Z; refine go 3 ?_; intro a S)
    refine wp_ret (fin_ret S (results2 Tryz.results108 (RV.cellO S rfl (by rfl)) (RV.tmp S rfl)) ?_)
    exact zzEvD0
   (revert S a; revert hZ Z; refine go 4 ?_; intro Z hZ a S)
   (refine wso S rfl rfl ?_; clear S; intro w S)
   (revert S a; revert hZ Z; refine go 3 ?_; intro a S)
   refine wp_ret (fin_ret S (results2 Tryz.results108 (RV.cellO S rfl (by rfl)) (RV.tmp S rfl)) ?_)
   exact zzEvD0
  (clear S a; intro h a S)
  (revert S a; revert hZ Z; refine go 6 ?_; intro a S)
  refine wpc_false S rfl ?_
  (revert S a; revert hZ Z; refine go 4 ?_; intro Z hZ a S)
  (refine wso S rfl rfl ?_; clear S; intro w S)
  (revert S a; revert hZ Z; refine go 3 ?_; intro a S)
  refine wp_ret (fin_ret S (results2 Tryz.results108 (RV.cellO S rfl (by rfl)) (RV.tmp S rfl)) ?_)
  exact zzEvD0
 (clear S a; intro h a S)
 (revert S a; revert hZ Z; refine go 6 ?_; intro a S)
 refine wpc_false S rfl ?_
 (revert S a; refine go 5 ?_; intro Z hZ a S)
 refine wgd S ?_ ?_
 ·(clear S; intro h S)
  (revert S a; revert hZ Z; refine go 9 ?_; intro a S)
  refine wpc_sp S rfl ?_ ?_ <;> intro h
  ·refine wp_sr fun Z hZ => ?_
   (refine wv S (sv_loadF S rfl rfl h3) ?_; clear S a; intro a S)
   (revert S a; refine go 4 ?_; intro a S)
   (refine wc0 S hB' ?_; clear S a; intro v a w hv S; subst hv)
   (revert S a; revert hZ Z; refine go 13 ?_; intro Z hZ a S)
   refine wpc_sp S rfl ?_ ?_ <;> intro h
   ·(revert S a; refine go 3 ?_; intro Z hZ a S)
    (refine wso S rfl rfl ?_; clear S; intro w S)
    (revert S a; revert hZ Z; refine go 3 ?_; intro a S)
    refine wp_ret (fin_ret S (results2 Tryz.results108 (RV.cellO S rfl (by rfl)) (RV.tmp S rfl)) ?_)
    exact zzEvD0
   (revert S a; revert hZ Z; refine go 5 ?_; intro Z hZ a S)
   (refine wso S rfl rfl ?_; clear S; intro w S)
   (revert S a; revert hZ Z; refine go 3 ?_; intro a S)
   refine wp_ret (fin_ret S (results2 Tryz.results108 (RV.cellO S rfl (by rfl)) (RV.tmp S rfl)) ?_)
   exact zzEvD0
  (revert S a; revert hZ Z; refine go 4 ?_; intro Z hZ a S)
  (refine wso S rfl rfl ?_; clear S; intro w S)
  (revert S a; revert hZ Z; refine go 3 ?_; intro a S)
  refine wp_ret (fin_ret S (results2 Tryz.results108 (RV.cellO S rfl (by rfl)) (RV.tmp S rfl)) ?_)
  exact zzEvD0
 (clear S a; intro h a S)
 (revert S a; revert hZ Z; refine go 6 ?_; intro a S)
 refine wpc_false S rfl ?_
 (revert S a; revert hZ Z; refine go 4 ?_; intro Z hZ a S)
 (refine wso S rfl rfl ?_; clear S; intro w S)
 (revert S a; revert hZ Z; refine go 3 ?_; intro a S)
 refine wp_ret (fin_ret S (results2 Tryz.results108 (RV.cellO S rfl (by rfl)) (RV.tmp S rfl)) ?_)
 exact zzEvD0
theorem numbersCt (F : Heap) (fi fb : Value) (h1 : fi.oneCell' = true) (h2 : fb.oneCell' = true) : Ct Tryz.prog 56 [fi, fb] F [] (fun F' _ u => ∃ b2 b3, u = .func (.func 108) ⟨[]⟩ ⟨[ptr b2, ptr b3]⟩ ∧ Cel F' b2 0 fi ∧ Cel F' b3 0 fb) := by
 refine Ct.enter Tryz.func56 rfl Tryz.ntmps56 rfl fun w0 a S => ?_
 refine wp_sr fun Z hZ => ?_
 (refine wbx S ?_; clear S a; intro b2 a w S)
 (refine wbx S ?_; clear S a; intro b3 a w S)
 (revert S a; revert hZ Z; refine go 8 ?_; intro a S)
 refine wp_ret ?_
 (have S' := frzAll [(b3, _), (b2, _)] S; clear S; obtain ⟨F5, hle5, hbl, S⟩ := S'; have h6 := hbl _ (List.mem_cons_of_mem _ (List.mem_cons_self ..)); have h8 := hbl _ (List.mem_cons_self ..))
 refine fin_ret S (results1 Tryz.results56 (RV.tmp S rfl)) ?_
 (exact ⟨b2, b3, rfl, ⟨_, _, _, h6, by cases fi <;> first | rfl | cases h1⟩, ⟨_, _, _, h8, by cases fb <;> first | rfl | cases h2⟩⟩)
theorem ord1Ct (F : Heap) (k : Nat) (b fid : Nat) [HasFn Tryz.prog fid] (h2 : Cel F b 0 (.func (.func fid) ⟨[]⟩ ⟨[]⟩)) (hO : ∀ (F : Heap) (c : Int), Ct Tryz.prog fid [.int .i64 c] F [] (fun _ _ u => u = .bool (ordT k c)))
  (x y : Vv) (cx cy : List Value) (gx : GV x) (gy : GV y) (hx : VaC F cx x.1 x.2) (hy : VaC F cy y.1 y.2) : Ct Tryz.prog 118 ([] ++ [.agg ⟨cx⟩, .agg ⟨cy⟩] ++ [ptr b]) F [] (fun F' _ u => AnsR F' u (ordO k x y)) := by
 have hc := cmpVCt F x y cx cy (Nat.le_trans gx.2.2 (by decide)) (Nat.le_trans gy.2.2 (by decide)) hx hy
 obtain ⟨v1, rfl, ⟨a1, c1, rfl, -⟩, -⟩ := hx
 obtain ⟨v2, rfl, ⟨a2, c2, rfl, -⟩, -⟩ := hy
 refine Ct.enter Tryz.func118 rfl Tryz.ntmps118 rfl fun w0 a S => ?_
 refine wp_sr fun Z hZ => ?_
 (refine wbx S ?_; clear S a; intro b3 a w S)
 (refine wbx S ?_; clear S a; intro b4 a w S)
 (refine wpl_alloc S rfl rfl rfl rfl ?_; clear S a; intro b5 a w S)
 (revert S a; revert hZ Z; refine go 3 ?_; intro a S)
 (refine wp_seq_k ?_; intro Z hZ)
 (refine wpc_mixM [0, 1, 2] [0, 1, 2] [] (.one 0 (.one 1 (.one 2 (.one 3 (.one 4 (.one 5 (.one 6 (.one 7 .nil)))))))) [b3, b4] S mixed (by kernel_rfl) ?_; clear S; intro w S)
 (refine wlF S rfl (fun w' S => sv_loadF S rfl rfl h2) ?_; clear S a; intro a S)
 (revert S a; refine go 3 ?_; intro a S)
 (refine wc0 S hc ?_; clear S a; intro v a w hv S; subst hv)
 (revert S a; refine go 2 ?_; intro a S)
 (refine wc0 S (hO F _) ?_; clear S a; intro v a w hv S; subst hv)
 (revert S a; refine go 2 ?_; intro a S)
 (refine wc0 S (eTruthCt F _) ?_; clear S a; intro v a w hv S; subst hv)
 (revert S a; refine go 2 ?_; intro a S)
 (refine wso S rfl rfl ?_; clear S; intro w S)
 (revert S a; revert hZ Z; refine go 6 ?_; intro a S)
 refine wp_ret (fin_ret S (results2 Tryz.results118 (RV.cellO S rfl (by rfl)) (RV.tmp S rfl)) ?_)
 (exact ⟨_, rfl, vac_z _ (k := 1) (s := []) (by decide)⟩)
theorem orderCt (F : Heap) (fi : Value) (h1 : fi.oneCell' = true) : Ct Tryz.prog 67 [fi] F [] (fun F' _ u => ∃ b2, u = .func (.func 118) ⟨[]⟩ ⟨[ptr b2]⟩ ∧ Cel F' b2 0 fi) := by
 refine Ct.enter Tryz.func67 rfl Tryz.ntmps67 rfl fun w0 a S => ?_
 refine wp_sr fun Z hZ => ?_
 (refine wbx S ?_; clear S a; intro b1 a w S)
 (revert S a; revert hZ Z; refine go 8 ?_; intro a S)
 refine wp_ret ?_
 (have S' := frz1 S; clear S; obtain ⟨F5, hle5, h6, S⟩ := S')
 refine fin_ret S (results1 Tryz.results67 (RV.tmp S rfl)) ?_
 (exact ⟨b1, rfl, ⟨_, _, _, h6, by cases fi <;> first | rfl | cases h1⟩⟩)
theorem o1Ct (F : Heap) (c : Int) : Ct Tryz.prog 68 [.int .i64 c] F [] (fun _ _ u => u = .bool (ordT 0 c)) := by
 refine Ct.enter Tryz.func68 rfl Tryz.ntmps68 rfl fun w0 a S => ?_
 (revert S a; refine go 10 ?_; intro a S)
 refine wp_ret (fr1 S Tryz.results68 ?_)
 rfl
theorem o2Ct (F : Heap) (c : Int) : Ct Tryz.prog 69 [.int .i64 c] F [] (fun _ _ u => u = .bool (ordT 1 c)) := by
 refine Ct.enter Tryz.func69 rfl Tryz.ntmps69 rfl fun w0 a S => ?_
 (revert S a; refine go 10 ?_; intro a S)
 refine wp_ret (fr1 S Tryz.results69 ?_)
 (show Value.bool (c != 0) = .bool (decide (c ≠ 0)); congr 1; by_cases h : c = 0 <;> simp [h])
theorem o3Ct (F : Heap) (c : Int) : Ct Tryz.prog 70 [.int .i64 c] F [] (fun _ _ u => u = .bool (ordT 2 c)) := by
 refine Ct.enter Tryz.func70 rfl Tryz.ntmps70 rfl fun w0 a S => ?_
 (revert S a; refine go 10 ?_; intro a S)
 refine wp_ret (fr1 S Tryz.results70 ?_)
 rfl
theorem o4Ct (F : Heap) (c : Int) : Ct Tryz.prog 71 [.int .i64 c] F [] (fun _ _ u => u = .bool (ordT 3 c)) := by
 refine Ct.enter Tryz.func71 rfl Tryz.ntmps71 rfl fun w0 a S => ?_
 (revert S a; refine go 10 ?_; intro a S)
 refine wp_ret (fr1 S Tryz.results71 ?_)
 rfl
theorem o5Ct (F : Heap) (c : Int) : Ct Tryz.prog 72 [.int .i64 c] F [] (fun _ _ u => u = .bool (ordT 4 c)) := by
 refine Ct.enter Tryz.func72 rfl Tryz.ntmps72 rfl fun w0 a S => ?_
 (revert S a; refine go 10 ?_; intro a S)
 refine wp_ret (fr1 S Tryz.results72 ?_)
 rfl
theorem o6Ct (F : Heap) (c : Int) : Ct Tryz.prog 73 [.int .i64 c] F [] (fun _ _ u => u = .bool (ordT 5 c)) := by
 refine Ct.enter Tryz.func73 rfl Tryz.ntmps73 rfl fun w0 a S => ?_
 (revert S a; refine go 10 ?_; intro a S)
 refine wp_ret (fr1 S Tryz.results73 ?_)
 rfl
def Op2 (F : Heap) (u : Value) (f : Vv → Vv → Ans) : Prop := ∃ (fid : Nat) (ca : List Value), u = .func (.func fid) ⟨[]⟩ ⟨ca⟩ ∧ HasFn Tryz.prog fid ∧ ∀ (F' : Heap), (∀ b o, F b = some o → F' b = some o) → ∀ (x y : Vv) (cx cy : List Value), GV x → GV y → VaC F' cx x.1 x.2 → VaC F' cy y.1 y.2 →
 Ct Tryz.prog fid ([] ++ [.agg ⟨cx⟩, .agg ⟨cy⟩] ++ ca) F' [] (fun F2 _ u => AnsR F2 u (f x y))
theorem Op2.mono {F F' : Heap} {u : Value} {f : Vv → Vv → Ans} (hF : ∀ b o, F b = some o → F' b = some o) (h : Op2 F u f) : Op2 F' u f := by
 obtain ⟨fid, ca, h1, h2, h3⟩ := h
 exact ⟨fid, ca, h1, h2, fun F2 h4 => h3 F2 fun b o h5 => h4 _ _ (hF _ _ h5)⟩
def OpsM (F : Heap) : List (List UInt8 × Value) → List (List UInt8 × (Vv → Vv → Ans)) → Prop
 | [], [] => True
 | (k, u) :: es, (k2, f) :: l => k = k2 ∧ Op2 F u f ∧ OpsM F es l
 | _, _ => False
theorem OpsM.mono {F F' : Heap} (hF : ∀ b o, F b = some o → F' b = some o) : ∀ {es : List (List UInt8 × Value)} {l : List (List UInt8 × (Vv → Vv → Ans))}, OpsM F es l → OpsM F' es l
 | [], [], _ => trivial
 | [], _ :: _, h => h.elim
 | _ :: _, [], h => h.elim
 | (k, u) :: es, (k2, f) :: l, ⟨h1, h2, h3⟩ => ⟨h1, h2.mono hF, OpsM.mono hF h3⟩
theorem OpsM.get {F : Heap} : ∀ {es : List (List UInt8 × Value)} {l : List (List UInt8 × (Vv → Vv → Ans))}, OpsM F es l → ∀ s, (∃ f u, (l.find? fun x => decide (s = x.1)).map (·.2) = some f ∧ mGet es s = some u ∧ Op2 F u f) ∨ ((l.find? fun x => decide (s = x.1)).map (·.2) = none ∧ mGet es s = none)
 | [], [], _, s => .inr ⟨rfl, rfl⟩
 | [], _ :: _, h, _ => h.elim
 | _ :: _, [], h, _ => h.elim
 | (k, u) :: es, (k2, f) :: l, ⟨h1, h2, h3⟩, s => by
  subst h1
  unfold mGet
  rw [List.find?_cons, List.find?_cons]
  by_cases e : s = k
  ·left
   refine ⟨f, u, ?_, ?_, h2⟩ <;> simp [e]
  ·have h5 := OpsM.get h3 s
   unfold mGet at h5
   simpa [e] using h5
theorem num_op {F : Heap} {k : Nat} {b2 b3 fidI fidB : Nat} [HasFn Tryz.prog fidI] [HasFn Tryz.prog fidB] (h2 : Cel F b2 0 (.func (.func fidI) ⟨[]⟩ ⟨[]⟩)) (h3 : Cel F b3 0 (.func (.func fidB) ⟨[]⟩ ⟨[]⟩)) (hT : TabF F)
  (hI : ∀ (F : Heap) (x y : Int), in64 x → in64 y → Ct Tryz.prog fidI [.int .i64 x, .int .i64 y] F [] (fun _ _ u => u = cmpV (intO k x y))) (hB : ∀ (F : Heap), TabF F → ∀ (s t : List UInt8), s.length ≤ 1000000 → t.length ≤ 1000000 → Ct Tryz.prog fidB [.string (bs s), .string (bs t)] F [] (fun _ _ u => u = ansV (doA k s t)))
  (hd : ∀ s t, (doA k s t).1.length ≤ 140737488355328) : Op2 F (.func (.func 108) ⟨[]⟩ ⟨[ptr b2, ptr b3]⟩) (numO k) :=
 ⟨_, _, rfl, inferInstance, fun F' hF x y cx cy gx gy hx hy => num1Ct F' k b2 b3 fidI fidB (h2.mono hF) (h3.mono hF) (hI F') (hB F' (hT.mono hF)) x y cx cy gx gy hx hy (hd _ _)⟩
theorem ord_op {F : Heap} {k : Nat} {b fid : Nat} [HasFn Tryz.prog fid] (h2 : Cel F b 0 (.func (.func fid) ⟨[]⟩ ⟨[]⟩)) (hO : ∀ (F : Heap) (c : Int), Ct Tryz.prog fid [.int .i64 c] F [] (fun _ _ u => u = .bool (ordT k c))) : Op2 F (.func (.func 118) ⟨[]⟩ ⟨[ptr b]⟩) (ordO k) :=
 ⟨_, _, rfl, inferInstance, fun F' hF x y cx cy gx gy hx hy => ord1Ct F' k b fid (h2.mono hF) hO x y cx cy gx gy hx hy⟩
theorem cat_op (F : Heap) : Op2 F (.func (.func 74) ⟨[]⟩ ⟨[]⟩) catO :=
 ⟨_, _, rfl, inferInstance, fun F' hF x y cx cy gx gy hx hy => eTextsCt F' x y cx cy hx hy (Nat.le_trans gx.1.2 (by decide)) (Nat.le_trans gy.1.2 (by decide))⟩
end Go.Proofs.YtgefmjghdijbfaaGreatDoor
