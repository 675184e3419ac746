/- Walks. -/
import Derived.Test.YtbhipiepfclneaaGreatDoorQ17
import Derived.Test.YtbhipiepfclneaaGreatDoorQ14
import Derived.Test.YtbhipiepfclneaaGreatDoorQ16
import Derived.Test.YtbhipiepfclneaaGreatDoorRows
import Derived.Test.YtbhipiepfclneaaGreatDoorCards
import Derived.Test.YtbhipiepfclneaaGreatDoorTie
import Derived.WalkKit
import Derived.ProofKit
import Derived.LaidMore
import Derived.LaidHandle
import Derived.Lay
import Derived.OpenShut
import Derived.ShutString
import Derived.Stop.Joined
import Derived.ChangeOld
import Derived.Below
import Derived.SizedLaws
import Derived.SevenTiedAt
import Derived.Test.YtbhipiepfclneaaGreatDoorQ01
import Derived.Test.YtbhipiepfclneaaGreatDoorQ10
import Derived.Lib.AppendZeros
import Derived.Test.YtbhipiepfclneaaGreatDoorQ05
set_option maxHeartbeats 4000000
namespace Go.Proofs.YtbhipiepfclneaaGreatDoor
open Go Go.Wk Go.Un Go.De Go.ChangeShapes Go.WideShapes Go.ChangeAt Go.RowKit Go.Num
set_option linter.unusedSimpArgs false
set_option linter.unusedVariables false
attribute [local irreducible] Go.wpList Go.Code.wp Go.wpStill Go.Wk.wpPre Go.bodyPost Go.Calls Go.Wk.Ct Go.Wk.OwnS Go.Wk.wpG Go.Wk.wpM
theorem ownK : ownKnob Tryz.prog.godebug = none := by kernel_rfl
theorem laidOut : laidOutB Tryz.prog = true := by kernel_rfl
theorem gPow : Tryz.prog.globalNamed "internal/strconv.uint64pow10" = some 0 := by kernel_rfl
theorem tPow : (Tryz.prog.globals[0]?).map (·.type) = some 174 := by kernel_rfl
theorem cPow : Tryz.prog.cellsOf 174 = 20 := by kernel_rfl
theorem cU64 : Tryz.prog.cellsOf 139 = 1 := by kernel_rfl
theorem powData : (Rows.laid_internal_strconv_uint64pow10 : DataW Unit) = Lib.tabData .u64 Lib.pow10Tab := rfl
theorem gErr : Tryz.prog.globalNamed "strconv.ErrRange" = some 5 := by kernel_rfl
theorem tErr : (Tryz.prog.globals[5]?).map (·.type) = some 115 := by kernel_rfl
theorem tabF_of {W : World} (h : Lib.TabIs Tryz.prog W "internal/strconv.uint64pow10" .u64 Lib.pow10Tab) : TabF (heapOf W) := by
 intro w hw
 unfold Lib.TabIs World.var? at *
 cases hg : Tryz.prog.globalNamed "internal/strconv.uint64pow10" with
 | none => rw [hg] at h; cases h
 | some g =>
  rw [hg] at h
  simp only [Option.bind_some] at h ⊢
  cases hb : W.heap[g]? with
  | none => rw [hb] at h; cases h
  | some o => rw [hw g o hb]; rw [hb] at h; exact h
theorem iface_cells {H : Type} {enc : TypeId × Value → H} {w : World} {base : Nat} {sp : Nat → Bool} {held : Bool} {fuel : Nat} {t : TypeId} {ms : Array (String × TypeId)} {cs : List Value} {x : DataW H × List MemPlace}
  (ht : Tryz.prog.underlying t = some (.interface ms)) (h : DataW.trod enc Tryz.prog w base sp held fuel t cs = some x) : cs = [.nilIface] ∨ ∃ u v, cs = [.iface u v] := by
 cases fuel with
 | zero => simp [DataW.trod] at h
 | succ fuel =>
  unfold DataW.trod at h
  rw [ht] at h
  split at h <;> first | (rename_i h1; simp only [Option.some.injEq, reduceCtorEq] at h1; done) | (left; rfl) | (right; exact ⟨_, _, rfl⟩) | (simp at *; done)
def laidA : List (String × DataW Unit) := [("math/bits.deBruijn32tab", Rows.laid_math_bits_deBruijn32tab), ("math/bits.deBruijn64tab", Rows.laid_math_bits_deBruijn64tab), ("internal/strconv.uint64pow10", Rows.laid_internal_strconv_uint64pow10), ("unicode/utf8.acceptRanges", Rows.laid_unicode_utf8_acceptRanges), ("strconv.ErrRange", Rows.laid_strconv_ErrRange), ("strconv.ErrSyntax", Rows.laid_strconv_ErrSyntax), ("unicode/utf8.first", Rows.laid_unicode_utf8_first)]
theorem vars_of {W : World} (h : laidMetH Tryz.prog laidA W) : TabF (heapOf W) ∧ ErrF (heapOf W) := by
 rw [MakeChecks.laidMetH_plain _ _ _ (by kernel_rfl)] at h
 obtain ⟨ps, ⟨g0, t0, cs0, f0, p0, q0, _, _, _, _, ⟨g1, t1, cs1, f1, p1, q1, _, _, _, _, ⟨g2, t2, cs2, f2, p2, q2, hg2, ht2, hv2, hd2, ⟨g4, t4, cs4, f4, p4, q4, _, _, _, _, ⟨g3, t3, cs3, f3, p3, q3, hg3, ht3, hv3, hd3, _, _⟩, _⟩, _⟩, _⟩, _⟩, _, _⟩ := h
 obtain rfl := Option.some.inj (gPow.symm.trans hg2)
 obtain rfl := Option.some.inj (tPow.symm.trans ht2)
 obtain rfl := Option.some.inj (gErr.symm.trans hg3)
 obtain rfl := Option.some.inj (tErr.symm.trans ht3)
 refine ⟨tabF_of ?_, ?_⟩
 ·unfold Lib.TabIs
  rw [hv2, ← Lib.cells_of_tab Tryz.underlying174 Tryz.underlying139 cU64 cPow (by rw [← powData]; exact hd2)]
 ·have hc := iface_cells Tryz.underlying115 hd3
  unfold World.var? at hv3
  rw [gErr] at hv3
  simp only [Option.bind_some] at hv3
  cases hb : W.heap[5]? with
  | none => rw [hb] at hv3; cases hv3
  | some o =>
   rw [hb] at hv3
   cases o with
   | cells c e fz =>
    simp only [Option.some.injEq] at hv3
    subst hv3
    rcases hc with hc | ⟨u, v, hc⟩
    ·exact ⟨.nilIface, ⟨c, e, fz, hb, by obtain ⟨l⟩ := c; simp only at hc; subst hc; rfl⟩, Or.inl rfl⟩
    ·exact ⟨.iface u v, ⟨c, e, fz, hb, by obtain ⟨l⟩ := c; simp only at hc; subst hc; rfl⟩, Or.inr ⟨u, v, rfl⟩⟩
   | _ => cases hv3
noncomputable def startW (os : Os) : World := World.laidAll Tryz.prog os laidA
theorem startW_os (os : Os) : (startW os).os = os := World.laidAll_os _ _ _
theorem doorA (os : Os) (args : Array Value) : laidMetH Tryz.prog laidA ((startW os).forCall (fun _ _ => 0) ⟨#[], args, []⟩).memory :=
 laidMetH_of_parts3 (fuel := 8) (laidMet_laidAll (laid := laidA) args (by kernel_rfl) (by kernel_rfl)) (by kernel_rfl) (by kernel_rfl)
theorem i64_nd {z : Int} (h0 : -9223372036854775808 ≤ z) (h1 : z ≤ 9223372036854775807) : nd 10 z.natAbs ≤ 19 := by
 refine nd_le ?_ t2
 have : z.natAbs ≤ 9223372036854775808 := by omega
 exact Nat.lt_of_le_of_lt this (by decide)
theorem show_itoa {z : Int} (h0 : -9223372036854775808 ≤ z) (h1 : z ≤ 9223372036854775807) : Lib.itoa z = (showZ z).1 := by
 have hn := i64_nd h0 h1
 by_cases hz : z.natAbs = 0
 ·have : z = 0 := by omega
  subst this
  rw [show (0 : Int) = ((0 : Nat) : Int) from rfl, Lib.itoa_nonneg, dd_small (by decide)]; rfl
 ·have hl : ¬ 200 < (Lib.decDigits z.natAbs).length := by rw [dd_nd hz]; omega
  unfold showZ showS
  rw [if_neg hz, if_neg hl]
  by_cases hs : z < 0
  ·rw [show z = -((z.natAbs : Nat) : Int) by omega, Lib.itoa_neg _ (by omega), Int.natAbs_neg, decide_eq_true (by omega)]
   simp
  ·have e : z = ((z.natAbs : Nat) : Int) := by omega
   rw [show Lib.itoa z = Lib.decDigits z.natAbs from (by conv => lhs; rw [e]; rw [Lib.itoa_nonneg]), decide_eq_false hs]
   simp
theorem bofnCt (n : Int) (F : Heap) (hT : TabF F) (h0 : -9223372036854775808 ≤ n) (h1 : n ≤ 9223372036854775807) : Ct Tryz.prog 36 [.int .i64 n, .int .i64 10] F [] (fun _ _ u => u = .string (bs (showZ n).1)) := by
 refine ct_of_below fun w hw => ?_
 refine (Tryz.strconv_FormatInt_10 n h0 h1 w (hT w hw.frz)).mono fun e w' ⟨h1', k, os, h2⟩ => ⟨?_, ?_⟩
 ·rw [h1', ← show_itoa h0 h1]; rfl
 ·rw [h2]; exact Lib.below_grow _ w (Nat.le_refl _) k os
theorem bigOfCt (n : Int) (F : Heap) (hT : TabF F) (h0 : -9223372036854775808 ≤ n) (h1 : n ≤ 9223372036854775807) : Ct Tryz.prog 14 [.int .i64 n] F [] (fun _ _ u => u = .string (bs (showZ n).1)) := by
 refine Ct.enter Tryz.func14 rfl Tryz.ntmps14 rfl fun w0 a S => ?_
 (revert S a; refine go 6 ?_; intro Z hZ a S)
 (refine wc0 S (bofnCt n F hT h0 h1) ?_; clear S a; intro v a w hv S; subst hv)
 (revert S a; revert hZ Z; refine go 3 ?_; intro a S)
 refine wp_ret (fr1 S Tryz.results14 ?_)
 rfl
end Go.Proofs.YtbhipiepfclneaaGreatDoor
namespace Go.Wk
open Go
set_option linter.unusedSimpArgs false
set_option linter.unusedVariables false
section
variable {P : Program} {ops : Array Oper} {Q : Exit → Act → World → Prop} {rest : List Oper} {n : Sz} {L : List (Nat × Value)} {w0 : World} {F0 : Heap} {K0 : List Nat} {F : Heap} {G : List Grp} {a : Act} {w : World} {o : Oper}
theorem sv_shr4 {x y : Operand} {p : Nat} {t yt : TypeId} (S : St n L w0 F0 K0 F G a w) (ho : o.op = .binOp .shr t x y yt) (hx : ev L x = some (.int .u8 (p : Int))) (hy : ev L y = some (.int .u64 4)) : SV P o a w (.int .u8 ((p / 16 : Nat) : Int)) := by
 have h1 : (eqGuard .shr t x y (.int .u8 (p : Int)) (.int .u64 4)).run P w = .ok () w := by unfold eqGuard; rfl
 unfold SV execOp
 rw [ho]
 simp [S.fr.eval hx, S.fr.eval hy, h1, binOp_shr, shift_shr_u8]
theorem sv_and15 {x y : Operand} {p : Nat} {t yt : TypeId} (S : St n L w0 F0 K0 F G a w) (ho : o.op = .binOp .and t x y yt) (hx : ev L x = some (.int .u8 (p : Int))) (hy : ev L y = some (.int .u8 15)) (hp : p ≤ 255) : SV P o a w (.int .u8 ((p % 16 : Nat) : Int)) := by
 have h1 : (eqGuard .and t x y (.int .u8 (p : Int)) (.int .u8 15)).run P w = .ok () w := by unfold eqGuard; rfl
 have h2 : ∀ q, q ≤ 255 → (Op.intBits .and .u8 ((q : Nat) : Int) 15).run P w = .ok (.int .u8 ((q % 16 : Nat) : Int)) w := by
  have : ∀ q, q < 256 → (Op.intBits .and .u8 ((q : Nat) : Int) 15) = pure (.int .u8 ((q % 16 : Nat) : Int)) := by
   intro q hq
   have e : ((BitVec.ofInt 8 (q : Int)) &&& (BitVec.ofInt 8 15)).toNat = q % 16 := by
    rw [BitVec.toNat_and]
    simp only [BitVec.toNat_ofInt]
    have e1 : ((q : Int) % ((2 ^ 8 : Nat) : Int)).toNat = q := by omega
    rw [e1]
    show q &&& 15 = _
    exact Nat.and_two_pow_sub_one_eq_mod q 4
   show (pure (.int .u8 (IntKind.u8.wrap ((((BitVec.ofInt 8 (q : Int)) &&& (BitVec.ofInt 8 15)).toNat : Nat) : Int))) : Sem Value) = _
   rw [e, IntWalk.u8_in _ (by omega)]
  intro q hq; rw [this q (by omega)]; rfl
 unfold SV execOp
 rw [ho]
 simp [S.fr.eval hx, S.fr.eval hy, h1, binOp, h2 p hp]
end
end Go.Wk
namespace Go.Proofs.YtbhipiepfclneaaGreatDoor
open Go Go.Wk
set_option linter.unusedSimpArgs false
set_option linter.unusedVariables false
attribute [local irreducible] Go.wpList Go.Code.wp Go.wpStill Go.Wk.wpPre Go.bodyPost Go.Calls Go.Wk.Ct Go.Wk.OwnS Go.Wk.wpG Go.Wk.wpM
def BdO (b : Nat) (l : List UInt8) (p v : Value) (g : Grp) : Prop := bldP b p ∧ OwnS 5 1 v l.length (u8c l) g
theorem wbCt (b : Nat) (p v : Value) (l : List UInt8) (c : UInt8) (g : Grp) (F : Heap) (h : BdO b l p v g) (hk : l.length ≤ 1000000000) :
  Ct Tryz.prog 87 [.pointer (some ⟨b, 0, none⟩), .int .u8 c.toNat] F [g, bldG b p v] (fun _ G' _ => ∃ p' v' g', G' = [g', bldG b p' v'] ∧ BdO b (l ++ [c]) p' v' g') :=
 Ct.mono (writeByteCt b p v l.length l c g F h.1 h.2 hk) fun _ _ _ ⟨v', g', h1, h2⟩ => ⟨_, v', g', h1, .inr rfl, by rw [List.length_append]; exact h2⟩
theorem wsCt (b : Nat) (p v : Value) (l s : List UInt8) (g : Grp) (F : Heap) (h : BdO b l p v g) (hk : l.length ≤ 1000000000) (hs : s.length ≤ 100000000) (h0 : 0 < s.length) :
  Ct Tryz.prog 63 [.pointer (some ⟨b, 0, none⟩), .string (bs s)] F [g, bldG b p v] (fun _ G' _ => ∃ p' v' g', G' = [g', bldG b p' v'] ∧ BdO b (l ++ s) p' v' g') :=
 Ct.mono (writeStringCt b p v l.length l s g F h.1 h.2 (by omega) hs h0) fun _ _ _ ⟨v', g', h1, h2⟩ => ⟨_, v', g', h1, .inr rfl, by rw [List.length_append]; exact h2⟩
def hexL : List UInt8 := [48, 49, 50, 51, 52, 53, 54, 55, 56, 57, 97, 98, 99, 100, 101, 102]
def hexD (n : Nat) : UInt8 := (hexL[n]?).getD 0
theorem hex_at (n : Nat) : hexD n = hexL.getD n 0 := by unfold hexD; rw [List.getD_eq_getElem?_getD]
def escB (c : UInt8) : List UInt8 := if c.toNat = 34 ∨ c.toNat = 92 then [92, c] else if c.toNat = 10 then [92, 110] else if c.toNat = 9 then [92, 116] else if 32 ≤ c.toNat ∧ c.toNat ≤ 126 then [c] else [92, 120] ++ [hexD (c.toNat / 16)] ++ [hexD (c.toNat % 16)]
def quoteS (s : List UInt8) : List UInt8 := [34] ++ s.flatMap escB ++ [34]
theorem BdO.cast {b : Nat} {l m : List UInt8} {p v : Value} {g : Grp} (h : BdO b l p v g) (e : l = m) : BdO b m p v g := by rw [← e]; exact h
theorem esc1 {c : UInt8} (h : c.toNat = 34 ∨ c.toNat = 92) : escB c = [92] ++ [c] := by unfold escB; rw [if_pos h]; rfl
theorem esc2 {c : UInt8} (h : c.toNat = 10) : escB c = [92, 110] := by unfold escB; rw [if_neg (by omega), if_pos h]
theorem esc3 {c : UInt8} (h : c.toNat = 9) : escB c = [92, 116] := by unfold escB; rw [if_neg (by omega), if_neg (by omega), if_pos h]
theorem esc4 {c : UInt8} (h : 32 ≤ c.toNat ∧ c.toNat ≤ 126 ∧ c.toNat ≠ 34 ∧ c.toNat ≠ 92) : escB c = [c] := by unfold escB; rw [if_neg (by omega), if_neg (by omega), if_neg (by omega), if_pos (by omega)]
theorem esc5 {c : UInt8} (h : ¬ (32 ≤ c.toNat ∧ c.toNat ≤ 126) ∧ c.toNat ≠ 9 ∧ c.toNat ≠ 10) : escB c = [92, 120] ++ [hexD (c.toNat / 16)] ++ [hexD (c.toNat % 16)] := by unfold escB; rw [if_neg (by omega), if_neg (by omega), if_neg (by omega), if_neg (by omega)]
theorem esc_at {s : List UInt8} {i : Nat} (h : i < s.length) : (s.take (i + 1)).flatMap escB = (s.take i).flatMap escB ++ escB (s.getD i 0) := by
 rw [List.take_add_one, List.flatMap_append, List.getD_eq_getElem?_getD, List.getElem?_eq_getElem h]
 simp
theorem escB_len (c : UInt8) : (escB c).length ≤ 4 := by
 unfold escB
 by_cases h1 : c.toNat = 34 ∨ c.toNat = 92
 ·rw [if_pos h1]; exact (by decide : 2 ≤ 4)
 ·rw [if_neg h1]
  by_cases h2 : c.toNat = 10
  ·rw [if_pos h2]; decide
  ·rw [if_neg h2]
   by_cases h3 : c.toNat = 9
   ·rw [if_pos h3]; decide
   ·rw [if_neg h3]
    by_cases h4 : 32 ≤ c.toNat ∧ c.toNat ≤ 126
    ·rw [if_pos h4]; exact (by decide : 1 ≤ 4)
    ·rw [if_neg h4]; simp
theorem esc_len : ∀ s : List UInt8, (s.flatMap escB).length ≤ 4 * s.length
 | [] => Nat.le_refl _
 | c :: s => by
  have := escB_len c
  have := esc_len s
  rw [List.flatMap_cons, List.length_append, List.length_cons]
  omega
theorem zzQt0 {p : Prop} (h : p := by (refine ⟨s.length - (i + 1), by omega, i + 1, p1, v1, g1, rfl, by omega, hown.cast ?_, ?_⟩; rotate_left 1; (refine S.keep ?_; exact zk); (rw [esc_at (by omega)]; first | rw [esc1 (by omega)] | rw [esc2 (by omega)] | rw [esc3 (by omega)] | rw [esc4 (by omega)] | rw [esc5 (by omega)]); simp only [List.append_assoc])) : p := h
theorem quoteCt (b : Nat) (p v : Value) (l s : List UInt8) (g : Grp) (F : Heap) (h : BdO b l p v g) (hk : l.length ≤ 100000000) (hs : s.length ≤ 100000000) :
  Ct Tryz.prog 90 [.pointer (some ⟨b, 0, none⟩), .string (bs s)] F [g, bldG b p v] (fun _ G' _ => ∃ p' v' g', G' = [g', bldG b p' v'] ∧ BdO b (l ++ quoteS s) p' v' g') := by
 refine Ct.enter Tryz.func90 rfl Tryz.ntmps90 rfl fun w0 a S => ?_
 (revert S a; refine go 2 ?_; intro Z hZ a S)
 (refine wpl_callOwn (Gs := [g, bldG b p v]) (Gr := []) S rfl rfl rfl rfl rfl rfl (wbCt b p v l 34 g F h (by omega)) rfl (by simp) ?_; clear S a; intro u G1 a w hv1 S; obtain ⟨p0, v0, g0, rfl, hown⟩ := hv1; (simp only [List.append_nil] at S))
 (revert S a; revert hZ Z; refine go 10 ?_; intro Z hZ a S)
 refine wpc_loop (fun m a w' => ∃ (i : Nat) (p1 v1 : Value) (g1 : Grp), m = s.length - i ∧ i ≤ s.length ∧ BdO b (l ++ ([34] ++ (s.take i).flatMap escB)) p1 v1 g1 ∧ St 63 [(0, .pointer (some ⟨b, 0, none⟩)), (1, .string (bs s)), (9, .int .i64 s.length), (10, .int .i64 i)] w0 F (keys [g, bldG b p v]) F [g1, bldG b p1 v1] a w') ?_ ?_
 ·(refine ⟨s.length, 0, p0, v0, g0, by omega, Nat.zero_le _, hown, ?_⟩; refine S.keep ?_; exact zk)
 (clear S; rintro m a w ⟨i, p1, v1, g1, rfl, hil, hown, S⟩)
 (revert S a; refine go 5 ?_; intro Z hZ a S)
 refine wpc_sp S rfl ?_ ?_ <;> intro h
 ·(revert S a; revert hZ Z; refine go 4 ?_; intro Z hZ a S)
  (refine wp_seq_k ?_; intro Z hZ)
  (have hq := esc_len (s.take i); rw [List.length_take] at hq)
  (revert S a; revert hZ Z; refine go 8 ?_; intro Z hZ a S)
  first | (refine wv S (sv_indexSN S rfl rfl rfl (by first | omega | (simp only [List.length_append, List.length_cons, List.length_nil]; omega))) ?_; clear S a; intro a S) | (refine wv S (sv_indexS S rfl rfl rfl (by first | omega | (simp only [List.length_append, List.length_cons, List.length_nil]; omega))) ?_; clear S a; intro a S)
  (revert S a; revert hZ Z; refine go 8 ?_; intro Z hZ a S)
  refine wgd S ?_ ?_
  ·(clear S; intro h S)
   (revert S a; revert hZ Z; refine go 7 ?_; intro a S)
   refine wpc_sp S rfl ?_ ?_ <;> intro h
   ·(revert S a; refine go 2 ?_; intro Z hZ a S)
    (refine wpl_callOwn (Gs := [g1, bldG b p1 v1]) (Gr := []) S rfl rfl rfl rfl rfl rfl (wbCt b p1 v1 _ (92) g1 F hown (by simp only [List.length_append, List.length_cons, List.length_nil]; omega)) rfl (by simp) ?_; clear S a hown; intro u G1 a w hv1 S; obtain ⟨p1, v1, g1, rfl, hown⟩ := hv1; (simp only [List.append_nil] at S))
    (revert S a; revert hZ Z; refine go 5 ?_; intro a S)
    (refine wpl_callOwn (Gs := [g1, bldG b p1 v1]) (Gr := []) S rfl rfl rfl rfl rfl rfl (wbCt b p1 v1 _ (s.getD i 0) g1 F hown (by simp only [List.length_append, List.length_cons, List.length_nil]; omega)) rfl (by simp) ?_; clear S a hown; intro u G1 a w hv1 S; obtain ⟨p1, v1, g1, rfl, hown⟩ := hv1; (simp only [List.append_nil] at S))
    (revert S a; revert hZ Z; refine go 6 ?_; intro a S)
    change ∃ m', _ ∧ _
    exact zzQt0
   (revert S a; refine go 6 ?_; intro a S)
   refine wpc_sp S rfl ?_ ?_ <;> intro h
   ·(revert S a; refine go 2 ?_; intro a S)
    (refine wpl_callOwn (Gs := [g1, bldG b p1 v1]) (Gr := []) S rfl rfl rfl rfl rfl rfl (wsCt b p1 v1 _ [92, 110] g1 F hown (by simp only [List.length_append, List.length_cons, List.length_nil]; omega) (by decide) (by decide)) rfl (by simp) ?_; clear S a hown; intro u G1 a w hv1 S; obtain ⟨p1, v1, g1, rfl, hown⟩ := hv1; (simp only [List.append_nil] at S))
    (revert S a; revert hZ Z; refine go 6 ?_; intro a S)
    change ∃ m', _ ∧ _
    exact zzQt0
   (revert S a; refine go 6 ?_; intro a S)
   refine wpc_sp S rfl ?_ ?_ <;> intro h
   ·(revert S a; refine go 2 ?_; intro a S)
    (refine wpl_callOwn (Gs := [g1, bldG b p1 v1]) (Gr := []) S rfl rfl rfl rfl rfl rfl (wsCt b p1 v1 _ [92, 116] g1 F hown (by simp only [List.length_append, List.length_cons, List.length_nil]; omega) (by decide) (by decide)) rfl (by simp) ?_; clear S a hown; intro u G1 a w hv1 S; obtain ⟨p1, v1, g1, rfl, hown⟩ := hv1; (simp only [List.append_nil] at S))
    (revert S a; revert hZ Z; refine go 6 ?_; intro a S)
    change ∃ m', _ ∧ _
    exact zzQt0
   (revert S a; refine go 4 ?_; intro Z hZ a S)
   refine wgd S ?_ ?_
   ·(clear S; intro h S)
    (revert S a; revert hZ Z; refine go 7 ?_; intro a S)
    refine wpc_sp S rfl ?_ ?_ <;> intro h
    ·(revert S a; refine go 3 ?_; intro a S)
     (refine wpl_callOwn (Gs := [g1, bldG b p1 v1]) (Gr := []) S rfl rfl rfl rfl rfl rfl (wbCt b p1 v1 _ (s.getD i 0) g1 F hown (by simp only [List.length_append, List.length_cons, List.length_nil]; omega)) rfl (by simp) ?_; clear S a hown; intro u G1 a w hv1 S; obtain ⟨p1, v1, g1, rfl, hown⟩ := hv1; (simp only [List.append_nil] at S))
     (revert S a; revert hZ Z; refine go 6 ?_; intro a S)
     change ∃ m', _ ∧ _
     exact zzQt0
    (revert S a; refine go 2 ?_; intro Z hZ a S)
    (refine wpl_callOwn (Gs := [g1, bldG b p1 v1]) (Gr := []) S rfl rfl rfl rfl rfl rfl (wsCt b p1 v1 _ [92, 120] g1 F hown (by simp only [List.length_append, List.length_cons, List.length_nil]; omega) (by decide) (by decide)) rfl (by simp) ?_; clear S a hown; intro u G1 a w hv1 S; obtain ⟨p1, v1, g1, rfl, hown⟩ := hv1; (simp only [List.append_nil] at S))
    (revert S a; revert hZ Z; refine go 5 ?_; intro Z hZ a S)
    (refine wv S (sv_shr4 S rfl rfl rfl) ?_; clear S a; intro a S)
    (refine wv S (sv_indexSN (s := hexL) S rfl rfl rfl (by have := (s.getD i 0).toNat_lt; show _ < 16; omega)) ?_; clear S a; intro a S; rw [← hex_at] at S)
    (refine wpl_callOwn (Gs := [g1, bldG b p1 v1]) (Gr := []) S rfl rfl rfl rfl rfl rfl (wbCt b p1 v1 _ (hexD ((s.getD i 0).toNat / 16)) g1 F hown (by simp only [List.length_append, List.length_cons, List.length_nil]; omega)) rfl (by simp) ?_; clear S a hown; intro u G1 a w hv1 S; obtain ⟨p1, v1, g1, rfl, hown⟩ := hv1; (simp only [List.append_nil] at S))
    (revert S a; revert hZ Z; refine go 5 ?_; intro a S)
    (refine wv S (sv_and15 S rfl rfl rfl (by have := (s.getD i 0).toNat_lt; omega)) ?_; clear S a; intro a S)
    (refine wv S (sv_indexSN (s := hexL) S rfl rfl rfl (by show _ < 16; omega)) ?_; clear S a; intro a S; rw [← hex_at] at S)
    (refine wpl_callOwn (Gs := [g1, bldG b p1 v1]) (Gr := []) S rfl rfl rfl rfl rfl rfl (wbCt b p1 v1 _ (hexD ((s.getD i 0).toNat % 16)) g1 F hown (by simp only [List.length_append, List.length_cons, List.length_nil]; omega)) rfl (by simp) ?_; clear S a hown; intro u G1 a w hv1 S; obtain ⟨p1, v1, g1, rfl, hown⟩ := hv1; (simp only [List.append_nil] at S))
    (revert S a; revert hZ Z; refine go 6 ?_; intro a S)
    change ∃ m', _ ∧ _
    exact zzQt0
   (clear S a; intro h a S)
   (revert S a; revert hZ Z; refine go 5 ?_; intro a S)
   refine wpc_false S rfl ?_
   (revert S a; refine go 2 ?_; intro Z hZ a S)
   (refine wpl_callOwn (Gs := [g1, bldG b p1 v1]) (Gr := []) S rfl rfl rfl rfl rfl rfl (wsCt b p1 v1 _ [92, 120] g1 F hown (by simp only [List.length_append, List.length_cons, List.length_nil]; omega) (by decide) (by decide)) rfl (by simp) ?_; clear S a hown; intro u G1 a w hv1 S; obtain ⟨p1, v1, g1, rfl, hown⟩ := hv1; (simp only [List.append_nil] at S))
   (revert S a; revert hZ Z; refine go 5 ?_; intro Z hZ a S)
   (refine wv S (sv_shr4 S rfl rfl rfl) ?_; clear S a; intro a S)
   (refine wv S (sv_indexSN (s := hexL) S rfl rfl rfl (by have := (s.getD i 0).toNat_lt; show _ < 16; omega)) ?_; clear S a; intro a S; rw [← hex_at] at S)
   (refine wpl_callOwn (Gs := [g1, bldG b p1 v1]) (Gr := []) S rfl rfl rfl rfl rfl rfl (wbCt b p1 v1 _ (hexD ((s.getD i 0).toNat / 16)) g1 F hown (by simp only [List.length_append, List.length_cons, List.length_nil]; omega)) rfl (by simp) ?_; clear S a hown; intro u G1 a w hv1 S; obtain ⟨p1, v1, g1, rfl, hown⟩ := hv1; (simp only [List.append_nil] at S))
   (revert S a; revert hZ Z; refine go 5 ?_; intro a S)
   (refine wv S (sv_and15 S rfl rfl rfl (by have := (s.getD i 0).toNat_lt; omega)) ?_; clear S a; intro a S)
   (refine wv S (sv_indexSN (s := hexL) S rfl rfl rfl (by show _ < 16; omega)) ?_; clear S a; intro a S; rw [← hex_at] at S)
   (refine wpl_callOwn (Gs := [g1, bldG b p1 v1]) (Gr := []) S rfl rfl rfl rfl rfl rfl (wbCt b p1 v1 _ (hexD ((s.getD i 0).toNat % 16)) g1 F hown (by simp only [List.length_append, List.length_cons, List.length_nil]; omega)) rfl (by simp) ?_; clear S a hown; intro u G1 a w hv1 S; obtain ⟨p1, v1, g1, rfl, hown⟩ := hv1; (simp only [List.append_nil] at S))
   (revert S a; revert hZ Z; refine go 6 ?_; intro a S)
   change ∃ m', _ ∧ _
   exact zzQt0
  (clear S a; intro h a S)
  (revert S a; revert hZ Z; refine go 5 ?_; intro a S)
  refine wpc_true S rfl ?_
  (revert S a; refine go 2 ?_; intro Z hZ a S)
  (refine wpl_callOwn (Gs := [g1, bldG b p1 v1]) (Gr := []) S rfl rfl rfl rfl rfl rfl (wbCt b p1 v1 _ (92) g1 F hown (by simp only [List.length_append, List.length_cons, List.length_nil]; omega)) rfl (by simp) ?_; clear S a hown; intro u G1 a w hv1 S; obtain ⟨p1, v1, g1, rfl, hown⟩ := hv1; (simp only [List.append_nil] at S))
  (revert S a; revert hZ Z; refine go 5 ?_; intro a S)
  (refine wpl_callOwn (Gs := [g1, bldG b p1 v1]) (Gr := []) S rfl rfl rfl rfl rfl rfl (wbCt b p1 v1 _ (s.getD i 0) g1 F hown (by simp only [List.length_append, List.length_cons, List.length_nil]; omega)) rfl (by simp) ?_; clear S a hown; intro u G1 a w hv1 S; obtain ⟨p1, v1, g1, rfl, hown⟩ := hv1; (simp only [List.append_nil] at S))
  (revert S a; revert hZ Z; refine go 6 ?_; intro a S)
  change ∃ m', _ ∧ _
  exact zzQt0
 (refine wp_exit ?_; conv => whnf)
 clear hZ Z
 (refine hZ _ _ ?_; clear hZ Z)
 (have hq := esc_len (s.take i); rw [List.length_take] at hq)
 (revert S a; refine go 2 ?_; intro a S)
 (refine wpl_callOwn (Gs := [g1, bldG b p1 v1]) (Gr := []) S rfl rfl rfl rfl rfl rfl (wbCt b p1 v1 _ (34) g1 F hown (by simp only [List.length_append, List.length_cons, List.length_nil]; omega)) rfl (by simp) ?_; clear S a hown; intro u G1 a w hv1 S; obtain ⟨p1, v1, g1, rfl, hown⟩ := hv1; (simp only [List.append_nil] at S))
 refine wpList_nil ?_
 refine fin_end S (results0 Tryz.results90) ?_
 exact ⟨_, _, _, rfl, hown.cast (by rw [List.take_of_length_le (by omega)]; unfold quoteS; simp only [List.append_assoc])⟩
end Go.Proofs.YtbhipiepfclneaaGreatDoor
namespace Go.Wk
open Go
set_option linter.unusedSimpArgs false
set_option linter.unusedVariables false
section
variable {P : Program} {ops : Array Oper} {Q : Exit → Act → World → Prop} {rest : List Oper} {n : Sz} {L : List (Nat × Value)} {w0 : World} {F0 : Heap} {K0 : List Nat} {F : Heap} {G : List Grp} {a : Act} {w : World} {o : Oper}
theorem permHead {A B : Grp} {R : List Grp} : (A :: B :: R).flatten.Perm ([A, B].flatten ++ R.flatten) := by simp
def cutA (ao : Option Addr) (i c sz : Nat) : Option Addr := if c = i then ao else ao.map (fun a : Addr => a.add (i * sz))
theorem cutA_pos {b off i c m sz : Nat} (h : i < m) (hc : m ≤ c) : cutA (some ⟨b, off, none⟩) i c sz = some ⟨b, off + i * sz, none⟩ := by
 unfold cutA; rw [if_neg (by omega)]; simp [Addr.add]
theorem sv_sliceSl_lo {x y : Operand} {ao : Option Addr} {m c i : Nat} {k : IntKind} {t e : TypeId} {zv : Value} {sz by_ : Nat} [ht : Und P t (.slice e)] [hi : Inf P e zv sz by_] (S : St n L w0 F0 K0 F G a w) (ho : o.op = .slice t x (some y) none none)
  (hx : ev L x = some (.slice ao m c)) (hy : ev L y = some (.int k (Int.ofNat i))) (h1 : i ≤ m) : SV P o a w (.slice (cutA ao i c sz) (m - i) (c - i)) := by
 have hb : (Instr.sliceBounds true m c (some (.int k (Int.ofNat i))) none none).run P w = .ok (i, m, c) w := by
  simp [Instr.sliceBounds, Instr.sliceBound, asIntOf, h1]
 unfold SV execOp
 rw [ho]
 simp only [Option.map_none, Option.map_some, S.fr.eval hx, S.fr.eval hy]
 simp only [Instr.sliceAt, Instr.slice, Sem.run_bind, run_underlying ht.h, Result.andThen_ok, hb, run_sizeOf hi]
 simp [cutA]
end
end Go.Wk
