/- The walk of letter; strconv.Itoa as a contract of the steps' own kind. -/
import Derived.Test.YtcjnmehpkcblfaaDoorUfP
import Derived.Test.YtcjnmehpkcblfaaDoorShelf
import Derived.Lib.AppendIntMem
import Derived.Lib.ItoaLen
namespace Go.Proofs.YtcjnmehpkcblfaaDoor
open Go Go.Wk Go.Un
set_option linter.unusedSimpArgs false
set_option linter.unusedVariables false
attribute [local irreducible] Go.wpList Go.Code.wp Go.wpStill Go.Wk.wpPre Go.bodyPost Go.Calls Go.Wk.Ct Go.Wk.OwnS
attribute [local irreducible] Go.Wk.wpG Go.Wk.wpM

section
variable {P : Program} {n : Sz} {L : List (Nat × Value)} {w0 : World} {F0 : Heap} {K0 : List Nat} {F : Heap} {G : List Grp} {a : Act} {w : World} {o : Oper}
theorem sv_conv_i32 {x : Operand} {k' : IntKind} {p : Int} {s t : TypeId} {ks : IntKind} [hs : Und P s (.int ks)] [ht : Und P t (.int .i32)] (S : St n L w0 F0 K0 F G a w) (ho : o.op = .convert s t x) (hx : ev L x = some (.int k' p))
    (hb : 0 ≤ p ∧ p ≤ 1000000) : SV P o a w (.int .i32 p) := by
  have h := sv_conv (P := P) (k := .i32) S ho hx
  have e : IntKind.i32.wrap p = p := by
    unfold IntKind.wrap
    have hm : p % 4294967296 = p := by omega
    simp [IntKind.bits, IntKind.signed, hm]
    omega
  rwa [e] at h
theorem sv_runeS {x : Operand} {k' : IntKind} {p : Int} {s t : TypeId} {ks : IntKind} [hs : Und P s (.int ks)] [ht : Und P t .string] (S : St n L w0 F0 K0 F G a w) (ho : o.op = .convert s t x) (hx : ev L x = some (.int k' p))
    (hb : 0 ≤ p ∧ p ≤ 127) : SV P o a w (.string (bs [UInt8.ofNat p.toNat])) := by
  have e : Utf8.encode p = bs [UInt8.ofNat p.toNat] := by
    have h1 : Utf8.valid p = true := by unfold Utf8.valid; simp; omega
    unfold Utf8.encode
    simp only [h1, if_true]
    rw [if_pos (show p.toNat < 0x80 by omega)]
    rfl
  unfold SV execOp
  rw [ho]
  simp [S.fr.eval hx, convert, run_underlying hs.h, run_underlying ht.h, Conv.intToString, e]
/-- A field of a value, of one cell. -/
theorem sv_field1 {x : Operand} {vs : List Value} {t : TypeId} {fs : List (Nat × TypeId)} {i fo : Nat} {ft : TypeId} {u : Value} [ht : Flds P t fs] (S : St n L w0 F0 K0 F G a w) (ho : o.op = .field t x i) (hx : ev L x = some (.agg ⟨vs⟩))
    (hf : fs[i]? = some (fo, ft)) (he : One P ft) (hv : vs[fo]? = some u) : SV P o a w u := by
  obtain ⟨fields, h1, h2⟩ := ht.h
  rw [← h2, List.getElem?_map] at hf
  obtain ⟨f, hf', e⟩ := Option.map_eq_some_iff.1 hf
  simp only [Prod.mk.injEq] at e
  obtain ⟨rfl, rfl⟩ := e
  have hf2 : fields[i]? = some f := by simpa using hf'
  have h3 : (part f.type ⟨vs⟩ f.offset).run P w = .ok u w := by
    simp [part, isAgg_notAgg he, hv]
  unfold SV execOp
  rw [ho]
  simp [S.fr.eval hx, Instr.field, run_underlying h1, hf2, asAgg, h3]
end
/-- The table of powers of ten lies in memory that does not turn. -/
def TabF (F : Heap) : Prop := ∀ w : World, (∀ b o, F b = some o → w.heap[b]? = some o) → Lib.TabIs Tryd.prog w "internal/strconv.uint64pow10" .u64 Lib.pow10Tab
theorem TabF.mono {F F' : Heap} (h : TabF F) (hF : ∀ b o, F b = some o → F' b = some o) : TabF F' := fun w hw => h w fun b o hb => hw b o (hF b o hb)
theorem itoaCt (n : Nat) (F : Heap) (hn : n ≤ 9223372036854775807) (hT : TabF F) : Ct Tryd.prog 34 [.int .i64 (n : Int)] F [] (fun _ _ u => u = .string (bs (Lib.itoa (n : Int)))) := by
  refine ct_of_below fun w hw => ?_
  refine (Tryd.strconv_Itoa n (by omega) (by omega) w (hT w hw.frz)).mono fun e w' ⟨h1, k, os, h2⟩ => ⟨?_, ?_⟩
  · rw [h1]; rfl
  · rw [h2]; exact Lib.below_grow _ w (Nat.le_refl _) k os
theorem letterCt (F : Heap) (i : Nat) (hi : i ≤ 10000000) (hT : TabF F) : Ct Tryd.prog 23 [.int .i64 (i : Int)] F [] (fun _ _ u => u = .string (bs (letS i))) := by
  have hr : (i : Int) % 26 = ((i % 26 : Nat) : Int) := rfl
  have hq : (i : Int) / 26 = ((i / 26 : Nat) : Int) := rfl
  have hlen := Lib.itoa_length_le ((i / 26 : Nat) : Int) (by omega) (by omega)
  have hr2 : i % 26 < 26 := Nat.mod_lt _ (by decide)
  refine Ct.enter Tryd.func23 rfl Tryd.ntmps23 rfl fun w0 a S => ?_
  (refine wp_seq_k ?_; intro Kq1 hKq1)
  refine wp_region_lit ?_
  (refine wpl_v S rfl rfl rfl (sv_pure S rfl) ?_; clear S a; intro a S)
  refine wpList_nil ?_
  (refine hKq1 _ _ ?_; try (clear hKq1 Kq1))
  (refine wp_seq_k ?_; intro Kq2 hKq2)
  refine wp_region_lit ?_
  (refine wpl_v S rfl rfl rfl (sv_pure S rfl) ?_; clear S a; intro a S)
  (refine wpl_v S rfl rfl rfl (sv_rem S rfl rfl rfl (by first | omega | (simp only [List.length_append, List.length_cons, List.length_nil]; omega))) ?_; clear S a; intro a S)
  (refine wpl_v S rfl rfl rfl (sv_add S rfl rfl rfl (by first | omega | (simp only [List.length_append, List.length_cons, List.length_nil]; omega))) ?_; clear S a; intro a S)
  (refine wpl_v S rfl rfl rfl (sv_conv_i32 S rfl rfl (by omega)) ?_; clear S a; intro a S)
  (refine wpl_v S rfl rfl rfl (sv_runeS S rfl rfl (by omega)) ?_; clear S a; intro a S)
  (refine wpl_v S rfl rfl rfl (sv_cat S rfl rfl rfl (by first | omega | (simp only [List.length_append, List.length_cons, List.length_nil]; omega))) ?_; clear S a; intro a S)
  (refine wpl_v S rfl rfl rfl (sv_pure S rfl) ?_; clear S a; intro a S)
  refine wpList_nil ?_
  (refine hKq2 _ _ ?_; try (clear hKq2 Kq2))
  (refine wp_seq_k ?_; intro Kq3 hKq3)
  (refine wp_seq_k ?_; intro Kq4 hKq4)
  refine wp_region_lit ?_
  (refine wpl_v S rfl rfl rfl (sv_pure S rfl) ?_; clear S a; intro a S)
  (refine wpl_v S rfl rfl rfl (sv_pure S rfl) ?_; clear S a; intro a S)
  refine wpList_nil ?_
  (refine hKq4 _ _ ?_; try (clear hKq4 Kq4))
  refine wpc_split S rfl (fun h => ?_) (fun h => ?_)
  · (skip; (try simp only [decide_eq_true_eq, decide_eq_false_iff_not, beq_iff_eq, bne_iff_ne, bne_eq_false_iff_eq, beq_eq_false_iff_ne, ne_eq, Bool.not_eq_true', Bool.not_eq_false', Bool.not_eq_true, Bool.not_eq_false, Bool.not_true, Bool.not_false, Int.ofNat_lt, Int.ofNat_le, Nat.not_lt, Nat.not_le] at h))
    refine wp_region_lit ?_
    (refine wpl_v S rfl rfl rfl (sv_pure S rfl) ?_; clear S a; intro a S)
    (refine wpl_v S rfl rfl rfl (sv_pure S rfl) ?_; clear S a; intro a S)
    (refine wpl_v S rfl rfl rfl (sv_quo S rfl rfl rfl (by first | omega | (simp only [List.length_append, List.length_cons, List.length_nil]; omega))) ?_; clear S a; intro a S)
    (rw [hq] at S; refine wpl_call0 S rfl rfl rfl rfl rfl rfl (itoaCt (i / 26) F (by omega) hT) rfl ?_; clear S a; intro v a w hv S; subst hv)
    (refine wpl_v S rfl rfl rfl (sv_cat S rfl rfl rfl (by first | omega | (simp only [List.length_append, List.length_cons, List.length_nil]; omega))) ?_; clear S a; intro a S)
    (refine wpl_v S rfl rfl rfl (sv_pure S rfl) ?_; clear S a; intro a S)
    refine wpList_nil ?_
    (refine hKq3 _ _ ?_; try (clear hKq3 Kq3))
    (refine wp_seq_k ?_; intro Kq5 hKq5)
    refine wp_region_lit ?_
    (refine wpl_v S rfl rfl rfl (sv_pure S rfl) ?_; clear S a; intro a S)
    (refine wpl_v S rfl rfl rfl (sv_pure S rfl) ?_; clear S a; intro a S)
    refine wpList_nil ?_
    (refine hKq5 _ _ ?_; try (clear hKq5 Kq5))
    refine wp_ret ?_
    refine fin_ret S (results1 Tryd.results23 (RV.tmp S rfl)) ?_
    (have e1 : (97 + (i : Int) % 26).toNat = 97 + i % 26 := (by omega); unfold letS; first | (rw [e1, if_pos (show 26 ≤ i by omega)]; rfl) | (rw [e1, if_neg (show ¬ 26 ≤ i by omega)]; rfl) | trace_state)
  · (skip; (try simp only [decide_eq_true_eq, decide_eq_false_iff_not, beq_iff_eq, bne_iff_ne, bne_eq_false_iff_eq, beq_eq_false_iff_ne, ne_eq, Bool.not_eq_true', Bool.not_eq_false', Bool.not_eq_true, Bool.not_eq_false, Bool.not_true, Bool.not_false, Int.ofNat_lt, Int.ofNat_le, Nat.not_lt, Nat.not_le] at h))
    refine wp_skip ?_
    (refine hKq3 _ _ ?_; try (clear hKq3 Kq3))
    (refine wp_seq_k ?_; intro Kq5 hKq5)
    refine wp_region_lit ?_
    (refine wpl_v S rfl rfl rfl (sv_pure S rfl) ?_; clear S a; intro a S)
    (refine wpl_v S rfl rfl rfl (sv_pure S rfl) ?_; clear S a; intro a S)
    refine wpList_nil ?_
    (refine hKq5 _ _ ?_; try (clear hKq5 Kq5))
    refine wp_ret ?_
    refine fin_ret S (results1 Tryd.results23 (RV.tmp S rfl)) ?_
    (have e1 : (97 + (i : Int) % 26).toNat = 97 + i % 26 := (by omega); unfold letS; first | (rw [e1, if_pos (show 26 ≤ i by omega)]; rfl) | (rw [e1, if_neg (show ¬ 26 ≤ i by omega)]; rfl) | trace_state)
end Go.Proofs.YtcjnmehpkcblfaaDoor
