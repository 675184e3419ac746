/- The walks of strings.Builder's WriteByte, Len and String, and of the lexer's quoted. -/
import Derived.Test.YtpgnmnacfilnkaaDoorWk11
import Derived.Test.YtpgnmnacfilnkaaDoorLxF
namespace Go.Proofs.YtpgnmnacfilnkaaDoor
open Go Go.Wk Go.Lx
set_option linter.unusedSimpArgs false
set_option linter.unusedVariables false
attribute [local irreducible] Go.wpList Go.Code.wp Go.wpStill Go.Wk.wpPre Go.bodyPost Go.Calls Go.Wk.Ct Go.Wk.OwnS
attribute [local irreducible] Go.Wk.wpG Go.Wk.wpM

theorem sv_sliceDataNil {P : Program} {n : Sz} {L : List (Nat × Value)} {w0 : World} {F0 : Heap} {K0 : List Nat} {F : Heap} {G : List Grp} {a : Act} {w : World} {o : Oper} {x : Operand} {ts : Array TypeId} {q c : Nat} (S : St n L w0 F0 K0 F G a w) (ho : o.op = .call { callee := .builtin .unsafeSliceData, args := #[x], argTypes := ts }) (hx : ev L x = some (.slice none q c)) : SV P o a w (.pointer none) := by
  unfold SV execOp
  rw [ho]
  simp [resolve, invoke, builtin, S.fr.eval hx, Lib.run_unsafeSliceData_nil w ts o.type q c]
theorem sv_unsafeStringNil {P : Program} {n : Sz} {L : List (Nat × Value)} {w0 : World} {F0 : Heap} {K0 : List Nat} {F : Heap} {G : List Grp} {a : Act} {w : World} {o : Oper} {x y : Operand} {pt it : TypeId} (S : St n L w0 F0 K0 F G a w) (ho : o.op = .call { callee := .builtin .unsafeString, args := #[x, y], argTypes := #[pt, it] }) (hx : ev L x = some (.pointer none)) (hy : ev L y = some (.int .i64 0)) : SV P o a w (.string (bs [])) := by
  unfold SV execOp
  rw [ho]
  simp [resolve, invoke, builtin, S.fr.eval hx, S.fr.eval hy, Lib.run_unsafeString_none w pt it o.type none]
  rfl
instance : NoEsc Tryd.prog 62 := ⟨fun x w => by
  rw [run_callFunc_extern Tryd.func62 (by kernel_rfl) (by kernel_rfl) (by kernel_rfl) (e := Extern.AbiNoEscape.same) (by kernel_rfl), Lib.run_noEscape]
  rfl⟩
/-- The builder's own block: never written, or written. -/
def bldG (b : Nat) (p v : Value) : Grp := [(b, .cells ⟨[p, v]⟩ 75 (0, 0))]
def bldP (b : Nat) (p : Value) : Prop := p = .pointer none ∨ p = .pointer (some ⟨b, 0, none⟩)

set_option maxHeartbeats 1000000 in
theorem copyCheck0 (b : Nat) (v : Value) (F : Heap) : Ct Tryd.prog 57 [.pointer (some ⟨b, 0, none⟩)] F [[(b, .cells ⟨[.pointer none, v]⟩ 75 (0, 0))]] (fun _ G' _ => G' = [[(b, .cells ⟨[.pointer (some ⟨b, 0, none⟩), v]⟩ 75 (0, 0))]]) := by
  refine Ct.enter Tryd.func57 rfl Tryd.ntmps57 rfl fun w0 a S => ?_
  (refine wp_seq_k ?_; intro Kq1 hKq1)
  refine wp_region_lit ?_
  (refine wpl_v S rfl rfl rfl (sv_pure S rfl) ?_; clear S a; intro a S)
  (refine wpl_v S rfl rfl rfl (sv_nilCheck S rfl rfl) ?_; clear S a; intro a S)
  (refine wpl_v S rfl rfl rfl (sv_fieldAddr S rfl rfl rfl inferInstance rfl) ?_; clear S a; intro a S)
  first | (refine wpl_v S rfl rfl rfl (sv_loadO S rfl rfl (by rfl)) ?_; clear S a; intro a S) | (refine wpl_v S rfl rfl rfl (sv_loadF S rfl rfl (by assumption)) ?_; clear S a; intro a S)
  (refine wpl_v S rfl rfl rfl (sv_eqPtrNil S rfl rfl rfl) ?_; clear S a; intro a S)
  refine wpList_nil ?_
  (refine hKq1 _ _ ?_; try (clear hKq1 Kq1))
  refine wpc_split S rfl (fun h => ?_) (fun h => ?_)
  · (skip; (try simp only [decide_eq_true_eq, decide_eq_false_iff_not, beq_iff_eq, bne_iff_ne, bne_eq_false_iff_eq, beq_eq_false_iff_ne, ne_eq, Bool.not_eq_true', Bool.not_eq_false', Bool.not_eq_true, Bool.not_eq_false, Bool.not_true, Bool.not_false, Int.ofNat_lt, Int.ofNat_le, Nat.not_lt, Nat.not_le] at h))
    refine wp_region_lit ?_
    (refine wpl_v S rfl rfl rfl (sv_pure S rfl) ?_; clear S a; intro a S)
    (refine wpl_v S rfl rfl rfl (sv_pure S rfl) ?_; clear S a; intro a S)
    (refine wpl_v S rfl rfl rfl (sv_toUnsafe S rfl rfl rfl (by simp)) ?_; clear S a; intro a S)
    (refine wpl_v S rfl rfl rfl (sv_noEsc S rfl rfl rfl) ?_; clear S a; intro a S)
    (refine wpl_v S rfl rfl rfl (sv_fromUnsafe S rfl rfl (by kernel_rfl)) ?_; clear S a; intro a S)
    (refine wpl_v S rfl rfl rfl (sv_nilCheck S rfl rfl) ?_; clear S a; intro a S)
    (refine wpl_v S rfl rfl rfl (sv_fieldAddr S rfl rfl rfl inferInstance rfl) ?_; clear S a; intro a S)
    (refine wpl_store1 S rfl rfl rfl rfl rfl rfl (by first | (simp; done) | (simp [Value.cells]; done) | exact Nat.le_of_ble_eq_true rfl) ?_; clear S; intro w S)
    refine wpList_nil ?_
    refine fin_end S (results0 Tryd.results57) ?_
    rfl
  · (skip; (try simp only [decide_eq_true_eq, decide_eq_false_iff_not, beq_iff_eq, bne_iff_ne, bne_eq_false_iff_eq, beq_eq_false_iff_ne, ne_eq, Bool.not_eq_true', Bool.not_eq_false', Bool.not_eq_true, Bool.not_eq_false, Bool.not_true, Bool.not_false, Int.ofNat_lt, Int.ofNat_le, Nat.not_lt, Nat.not_le] at h); cases h)
set_option maxHeartbeats 1000000 in
theorem copyCheck1 (b : Nat) (v : Value) (F : Heap) : Ct Tryd.prog 57 [.pointer (some ⟨b, 0, none⟩)] F [[(b, .cells ⟨[.pointer (some ⟨b, 0, none⟩), v]⟩ 75 (0, 0))]] (fun _ G' _ => G' = [[(b, .cells ⟨[.pointer (some ⟨b, 0, none⟩), v]⟩ 75 (0, 0))]]) := by
  refine Ct.enter Tryd.func57 rfl Tryd.ntmps57 rfl fun w0 a S => ?_
  (refine wp_seq_k ?_; intro Kq1 hKq1)
  refine wp_region_lit ?_
  (refine wpl_v S rfl rfl rfl (sv_pure S rfl) ?_; clear S a; intro a S)
  (refine wpl_v S rfl rfl rfl (sv_nilCheck S rfl rfl) ?_; clear S a; intro a S)
  (refine wpl_v S rfl rfl rfl (sv_fieldAddr S rfl rfl rfl inferInstance rfl) ?_; clear S a; intro a S)
  first | (refine wpl_v S rfl rfl rfl (sv_loadO S rfl rfl (by rfl)) ?_; clear S a; intro a S) | (refine wpl_v S rfl rfl rfl (sv_loadF S rfl rfl (by assumption)) ?_; clear S a; intro a S)
  (refine wpl_v S rfl rfl rfl (sv_eqPtrSome S rfl rfl rfl) ?_; clear S a; intro a S)
  refine wpList_nil ?_
  (refine hKq1 _ _ ?_; try (clear hKq1 Kq1))
  refine wpc_split S rfl (fun h => ?_) (fun h => ?_)
  · (skip; (try simp only [decide_eq_true_eq, decide_eq_false_iff_not, beq_iff_eq, bne_iff_ne, bne_eq_false_iff_eq, beq_eq_false_iff_ne, ne_eq, Bool.not_eq_true', Bool.not_eq_false', Bool.not_eq_true, Bool.not_eq_false, Bool.not_true, Bool.not_false, Int.ofNat_lt, Int.ofNat_le, Nat.not_lt, Nat.not_le] at h); cases h)
  · (skip; (try simp only [decide_eq_true_eq, decide_eq_false_iff_not, beq_iff_eq, bne_iff_ne, bne_eq_false_iff_eq, beq_eq_false_iff_ne, ne_eq, Bool.not_eq_true', Bool.not_eq_false', Bool.not_eq_true, Bool.not_eq_false, Bool.not_true, Bool.not_false, Int.ofNat_lt, Int.ofNat_le, Nat.not_lt, Nat.not_le] at h))
    (refine wp_seq_k ?_; intro Kq2 hKq2)
    refine wp_region_lit ?_
    (refine wpl_v S rfl rfl rfl (sv_pure S rfl) ?_; clear S a; intro a S)
    (refine wpl_v S rfl rfl rfl (sv_nilCheck S rfl rfl) ?_; clear S a; intro a S)
    (refine wpl_v S rfl rfl rfl (sv_fieldAddr S rfl rfl rfl inferInstance rfl) ?_; clear S a; intro a S)
    first | (refine wpl_v S rfl rfl rfl (sv_loadO S rfl rfl (by rfl)) ?_; clear S a; intro a S) | (refine wpl_v S rfl rfl rfl (sv_loadF S rfl rfl (by assumption)) ?_; clear S a; intro a S)
    (refine wpl_v S rfl rfl rfl (sv_pure S rfl) ?_; clear S a; intro a S)
    (refine wpl_v S rfl rfl rfl (sv_nePtrSame S rfl rfl rfl) ?_; clear S a; intro a S)
    refine wpList_nil ?_
    (refine hKq2 _ _ ?_; try (clear hKq2 Kq2))
    refine wpc_split S rfl (fun h => ?_) (fun h => ?_)
    · (skip; (try simp only [decide_eq_true_eq, decide_eq_false_iff_not, beq_iff_eq, bne_iff_ne, bne_eq_false_iff_eq, beq_eq_false_iff_ne, ne_eq, Bool.not_eq_true', Bool.not_eq_false', Bool.not_eq_true, Bool.not_eq_false, Bool.not_true, Bool.not_false, Int.ofNat_lt, Int.ofNat_le, Nat.not_lt, Nat.not_le] at h); cases h)
    · (skip; (try simp only [decide_eq_true_eq, decide_eq_false_iff_not, beq_iff_eq, bne_iff_ne, bne_eq_false_iff_eq, beq_eq_false_iff_ne, ne_eq, Bool.not_eq_true', Bool.not_eq_false', Bool.not_eq_true, Bool.not_eq_false, Bool.not_true, Bool.not_false, Int.ofNat_lt, Int.ofNat_le, Nat.not_lt, Nat.not_le] at h))
      refine wp_skip ?_
      refine fin_end S (results0 Tryd.results57) ?_
      rfl
theorem copyCheckCt (b : Nat) (p v : Value) (F : Heap) (hp : bldP b p) : Ct Tryd.prog 57 [.pointer (some ⟨b, 0, none⟩)] F [bldG b p v] (fun _ G' _ => G' = [bldG b (.pointer (some ⟨b, 0, none⟩)) v]) := by
  rcases hp with rfl | rfl
  · exact copyCheck0 b v F
  · exact copyCheck1 b v F

def u8c (l : List UInt8) : List Value := l.map fun c => Value.int .u8 c.toNat

set_option maxHeartbeats 1000000 in
theorem writeByteCt (b : Nat) (p v : Value) (k : Nat) (l : List UInt8) (c : UInt8) (g : Grp) (F : Heap) (hp : bldP b p) (hown : OwnS 5 1 v k (u8c l) g) (hk : k ≤ 1000000000) :
    Ct Tryd.prog 53 [.pointer (some ⟨b, 0, none⟩), .int .u8 c.toNat] F [g, bldG b p v] (fun _ G' _ => ∃ v' g', G' = [g', bldG b (.pointer (some ⟨b, 0, none⟩)) v'] ∧ OwnS 5 1 v' (k + 1) (u8c (l ++ [c])) g') := by
  refine Ct.enter Tryd.func53 rfl Tryd.ntmps53 rfl fun w0 a S => ?_
  (refine wp_seq_k ?_; intro Kq1 hKq1)
  refine wp_region_lit ?_
  (refine wpl_v S rfl rfl rfl (sv_pure S rfl) ?_; clear S a; intro a S)
  refine wpList_nil ?_
  (refine hKq1 _ _ ?_; try (clear hKq1 Kq1))
  (refine wp_seq_k ?_; intro Kq2 hKq2)
  refine wp_region_lit ?_
  (refine wpl_v S rfl rfl rfl (sv_pure S rfl) ?_; clear S a; intro a S)
  (refine wpl_callOwn (Gs := [bldG b p v]) (Gr := [g]) S rfl rfl rfl rfl rfl rfl (copyCheckCt b p v F hp) rfl (by simp only [List.flatten_cons, List.flatten_nil, List.append_nil]; exact List.perm_append_comm) ?_; clear S a; intro u G1 a w hv1 S; subst hv1; replace S : St _ _ _ _ _ _ [[(b, .cells ⟨[.pointer (some ⟨b, 0, none⟩), v]⟩ 75 (0, 0))], g] _ _ := S)
  refine wpList_nil ?_
  (refine hKq2 _ _ ?_; try (clear hKq2 Kq2))
  (refine wp_seq_k ?_; intro Kq3 hKq3)
  refine wp_region_lit ?_
  (refine wpl_v S rfl rfl rfl (sv_pure S rfl) ?_; clear S a; intro a S)
  (refine wpl_v S rfl rfl rfl (sv_pure S rfl) ?_; clear S a; intro a S)
  (refine wpl_v S rfl rfl rfl (sv_nilCheck S rfl rfl) ?_; clear S a; intro a S)
  (refine wpl_v S rfl rfl rfl (sv_fieldAddr S rfl rfl rfl inferInstance rfl) ?_; clear S a; intro a S)
  first | (refine wpl_v S rfl rfl rfl (sv_loadO S rfl rfl (by rfl)) ?_; clear S a; intro a S) | (refine wpl_v S rfl rfl rfl (sv_loadF S rfl rfl (by assumption)) ?_; clear S a; intro a S)
  (refine wpl_v S rfl rfl rfl (sv_pure S rfl) ?_; clear S a; intro a S)
  (refine wpl_append S rfl rfl rfl rfl rfl rfl rfl rfl rfl rfl rfl (fun _ => rfl) hown (by rfl) (by simp [Value.cells, splice]) (by simp [Value.cells, Value.oneCell', splice]) rfl (by rfl) (by rfl) rfl (by omega) (by omega) ?_; clear hown S a; intro v u g a w hown S)
  (refine wpl_v S rfl rfl rfl (sv_nilCheck S rfl rfl) ?_; clear S a; intro a S)
  (refine wpl_v S rfl rfl rfl (sv_fieldAddr S rfl rfl rfl inferInstance rfl) ?_; clear S a; intro a S)
  (refine wpl_store1 S rfl rfl rfl rfl rfl hown.oneCell (by simp) ?_; clear S; intro w S)
  refine wpList_nil ?_
  (refine hKq3 _ _ ?_; try (clear hKq3 Kq3))
  (refine wp_seq_k ?_; intro Kq4 hKq4)
  refine wp_region_lit ?_
  (refine wpl_v S rfl rfl rfl (sv_pure S rfl) ?_; clear S a; intro a S)
  refine wpList_nil ?_
  (refine hKq4 _ _ ?_; try (clear hKq4 Kq4))
  refine wp_ret ?_
  replace S : St _ _ _ _ _ _ [g, bldG b (.pointer (some ⟨b, 0, none⟩)) v] _ _ := ⟨S.fr, S.tr.perm (by simp only [List.flatten_cons, List.flatten_nil, List.append_nil]; exact List.perm_append_comm)⟩
  refine fin_ret S (results1 Tryd.results53 (RV.tmp S rfl)) ?_
  (refine ⟨_, _, rfl, ?_⟩; unfold u8c; rw [List.map_append]; exact hown)
set_option maxHeartbeats 1000000 in
theorem bldLenCt (b : Nat) (p v : Value) (k : Nat) (l : List UInt8) (g : Grp) (F : Heap) (hown : OwnS 5 1 v k (u8c l) g) :
    Ct Tryd.prog 54 [.pointer (some ⟨b, 0, none⟩)] F [g, bldG b p v] (fun _ G' u => u = .int .i64 k ∧ G' = [g, bldG b p v]) := by
  obtain ⟨ao, cap, rfl, -, -, -⟩ := hown.at
  (refine Ct.enter Tryd.func54 rfl Tryd.ntmps54 rfl fun w0 a S => ?_); replace S : St _ _ _ _ _ _ [g, [(b, .cells ⟨[p, .slice ao k cap]⟩ 75 (0, 0))]] _ _ := S
  (refine wp_seq_k ?_; intro Kq1 hKq1)
  refine wp_region_lit ?_
  (refine wpl_v S rfl rfl rfl (sv_pure S rfl) ?_; clear S a; intro a S)
  refine wpList_nil ?_
  (refine hKq1 _ _ ?_; try (clear hKq1 Kq1))
  (refine wp_seq_k ?_; intro Kq2 hKq2)
  refine wp_region_lit ?_
  (refine wpl_v S rfl rfl rfl (sv_pure S rfl) ?_; clear S a; intro a S)
  (refine wpl_v S rfl rfl rfl (sv_nilCheck S rfl rfl) ?_; clear S a; intro a S)
  (refine wpl_v S rfl rfl rfl (sv_fieldAddr S rfl rfl rfl inferInstance rfl) ?_; clear S a; intro a S)
  first | (refine wpl_v S rfl rfl rfl (sv_loadO S rfl rfl (by rfl)) ?_; clear S a; intro a S) | (refine wpl_v S rfl rfl rfl (sv_loadF S rfl rfl (by assumption)) ?_; clear S a; intro a S)
  (refine wpl_v S rfl rfl rfl (sv_lenSl S rfl rfl) ?_; clear S a; intro a S)
  (refine wpl_v S rfl rfl rfl (sv_pure S rfl) ?_; clear S a; intro a S)
  refine wpList_nil ?_
  (refine hKq2 _ _ ?_; try (clear hKq2 Kq2))
  refine wp_ret ?_
  refine fin_ret S (results1 Tryd.results54 (RV.tmp S rfl)) ?_
  exact ⟨rfl, rfl⟩
set_option maxHeartbeats 1000000 in
theorem bldString1 (b : Nat) (p v : Value) (k : Nat) (l : List UInt8) (g : Grp) (F : Heap) (hk : k ≤ 1000000000) (h0 : 0 < k) (hown : OwnS 5 1 v k (u8c l) g) :
    Ct Tryd.prog 44 [.pointer (some ⟨b, 0, none⟩)] F [g, bldG b p v] (fun _ _ u => u = .string (bs l)) := by
  obtain ⟨ao, cap, rfl, hcap, -, hpos⟩ := hown.at
  obtain ⟨br, rfl⟩ := hpos h0
  (refine Ct.enter Tryd.func44 rfl Tryd.ntmps44 rfl fun w0 a S => ?_); replace S : St _ _ _ _ _ _ [g, [(b, .cells ⟨[p, .slice (some ⟨br, 0, none⟩) k cap]⟩ 75 (0, 0))]] _ _ := S
  (refine wp_seq_k ?_; intro Kq1 hKq1)
  refine wp_region_lit ?_
  (refine wpl_v S rfl rfl rfl (sv_pure S rfl) ?_; clear S a; intro a S)
  refine wpList_nil ?_
  (refine hKq1 _ _ ?_; try (clear hKq1 Kq1))
  (refine wp_seq_k ?_; intro Kq2 hKq2)
  (refine wpc_mixL [0, 1, 2, 3, 4, 5, 6, 7, 8, 9] [3, 4, 8, 9] [b] S mixed (by kernel_rfl) ?_; clear S; intro w S)
  refine wppk_one rfl rfl ?_
  (refine wpp_v S rfl rfl rfl rfl (fun _ S => sv_pure S rfl) ?_; clear S a; intro a S)
  refine wpp_nil ?_
  refine wppk_one rfl rfl ?_
  (refine wpp_v S rfl rfl rfl rfl (fun _ S => sv_nilCheck S rfl rfl) ?_; clear S a; intro a S)
  refine wpp_nil ?_
  refine wppk_one rfl rfl ?_
  (refine wpp_v S rfl rfl rfl rfl (fun _ S => sv_fieldAddr S rfl rfl rfl inferInstance rfl) ?_; clear S a; intro a S)
  refine wpp_nil ?_
  first | (refine wppk_late S rfl rfl rfl rfl rfl (fun w' hw => hw.1) (fun w' S => sv_loadO S rfl rfl (by rfl)) ?_; clear S a; intro a S) | (refine wppk_late S rfl rfl rfl rfl rfl (fun w' hw => hw.1) (fun w' S => sv_loadAO S rfl rfl (by rfl)) ?_; clear S a; intro a S)
  (refine wppk_late S rfl rfl rfl rfl rfl (fun w' hw => hw.1) (fun w' S => sv_sliceData S rfl rfl (by omega)) ?_; clear S a; intro a S)
  refine wppk_one rfl rfl ?_
  (refine wpp_v S rfl rfl rfl rfl (fun _ S => sv_pure S rfl) ?_; clear S a; intro a S)
  refine wpp_nil ?_
  refine wppk_one rfl rfl ?_
  (refine wpp_v S rfl rfl rfl rfl (fun _ S => sv_nilCheck S rfl rfl) ?_; clear S a; intro a S)
  refine wpp_nil ?_
  refine wppk_one rfl rfl ?_
  (refine wpp_v S rfl rfl rfl rfl (fun _ S => sv_fieldAddr S rfl rfl rfl inferInstance rfl) ?_; clear S a; intro a S)
  refine wpp_nil ?_
  first | (refine wppk_late S rfl rfl rfl rfl rfl (fun w' hw => hw.1) (fun w' S => sv_loadO S rfl rfl (by rfl)) ?_; clear S a; intro a S) | (refine wppk_late S rfl rfl rfl rfl rfl (fun w' hw => hw.1) (fun w' S => sv_loadAO S rfl rfl (by rfl)) ?_; clear S a; intro a S)
  (refine wppk_late S rfl rfl rfl rfl rfl (fun w' hw => hw.1) (fun w' S => sv_lenSl S rfl rfl) ?_; clear S a; intro a S)
  refine wplk_one rfl ⟨S.has inferInstance, trivial⟩ ?_
  (refine wpl_unsafeString S rfl rfl rfl rfl rfl rfl hown (by kernel_rfl) h0 (by omega) ?_; clear S a; intro a w S)
  refine wpList_nil ?_
  refine wplk_one rfl ⟨S.has inferInstance, trivial⟩ ?_
  (refine wpl_v S rfl rfl rfl (sv_pure S rfl) ?_; clear S a; intro a S)
  refine wpList_nil ?_
  refine wplk_nil ⟨S.has inferInstance, trivial⟩ ?_
  (refine hKq2 _ _ ?_; try (clear hKq2 Kq2))
  refine wp_ret ?_
  refine fin_ret S (results1 Tryd.results44 (RV.tmp S rfl)) ?_
  rfl
set_option maxHeartbeats 1000000 in
theorem bldString0 (b : Nat) (p : Value) (g : Grp) (F : Heap) :
    Ct Tryd.prog 44 [.pointer (some ⟨b, 0, none⟩)] F [g, bldG b p (.slice none 0 0)] (fun _ _ u => u = .string (bs [])) := by
  (refine Ct.enter Tryd.func44 rfl Tryd.ntmps44 rfl fun w0 a S => ?_); replace S : St _ _ _ _ _ _ [g, [(b, .cells ⟨[p, .slice none 0 0]⟩ 75 (0, 0))]] _ _ := S
  (refine wp_seq_k ?_; intro Kq1 hKq1)
  refine wp_region_lit ?_
  (refine wpl_v S rfl rfl rfl (sv_pure S rfl) ?_; clear S a; intro a S)
  refine wpList_nil ?_
  (refine hKq1 _ _ ?_; try (clear hKq1 Kq1))
  (refine wp_seq_k ?_; intro Kq2 hKq2)
  (refine wpc_mixL [0, 1, 2, 3, 4, 5, 6, 7, 8, 9] [3, 4, 8, 9] [b] S mixed (by kernel_rfl) ?_; clear S; intro w S)
  refine wppk_one rfl rfl ?_
  (refine wpp_v S rfl rfl rfl rfl (fun _ S => sv_pure S rfl) ?_; clear S a; intro a S)
  refine wpp_nil ?_
  refine wppk_one rfl rfl ?_
  (refine wpp_v S rfl rfl rfl rfl (fun _ S => sv_nilCheck S rfl rfl) ?_; clear S a; intro a S)
  refine wpp_nil ?_
  refine wppk_one rfl rfl ?_
  (refine wpp_v S rfl rfl rfl rfl (fun _ S => sv_fieldAddr S rfl rfl rfl inferInstance rfl) ?_; clear S a; intro a S)
  refine wpp_nil ?_
  first | (refine wppk_late S rfl rfl rfl rfl rfl (fun w' hw => hw.1) (fun w' S => sv_loadO S rfl rfl (by rfl)) ?_; clear S a; intro a S) | (refine wppk_late S rfl rfl rfl rfl rfl (fun w' hw => hw.1) (fun w' S => sv_loadAO S rfl rfl (by rfl)) ?_; clear S a; intro a S)
  (refine wppk_late S rfl rfl rfl rfl rfl (fun w' hw => hw.1) (fun w' S => sv_sliceDataNil S rfl rfl) ?_; clear S a; intro a S)
  refine wppk_one rfl rfl ?_
  (refine wpp_v S rfl rfl rfl rfl (fun _ S => sv_pure S rfl) ?_; clear S a; intro a S)
  refine wpp_nil ?_
  refine wppk_one rfl rfl ?_
  (refine wpp_v S rfl rfl rfl rfl (fun _ S => sv_nilCheck S rfl rfl) ?_; clear S a; intro a S)
  refine wpp_nil ?_
  refine wppk_one rfl rfl ?_
  (refine wpp_v S rfl rfl rfl rfl (fun _ S => sv_fieldAddr S rfl rfl rfl inferInstance rfl) ?_; clear S a; intro a S)
  refine wpp_nil ?_
  first | (refine wppk_late S rfl rfl rfl rfl rfl (fun w' hw => hw.1) (fun w' S => sv_loadO S rfl rfl (by rfl)) ?_; clear S a; intro a S) | (refine wppk_late S rfl rfl rfl rfl rfl (fun w' hw => hw.1) (fun w' S => sv_loadAO S rfl rfl (by rfl)) ?_; clear S a; intro a S)
  (refine wppk_late S rfl rfl rfl rfl rfl (fun w' hw => hw.1) (fun w' S => sv_lenSl S rfl rfl) ?_; clear S a; intro a S)
  refine wplk_one rfl ⟨S.has inferInstance, trivial⟩ ?_
  (refine wpl_v S rfl rfl rfl (sv_unsafeStringNil S rfl rfl rfl) ?_; clear S a; intro a S)
  refine wpList_nil ?_
  refine wplk_one rfl ⟨S.has inferInstance, trivial⟩ ?_
  (refine wpl_v S rfl rfl rfl (sv_pure S rfl) ?_; clear S a; intro a S)
  refine wpList_nil ?_
  refine wplk_nil ⟨S.has inferInstance, trivial⟩ ?_
  (refine hKq2 _ _ ?_; try (clear hKq2 Kq2))
  refine wp_ret ?_
  refine fin_ret S (results1 Tryd.results44 (RV.tmp S rfl)) ?_
  rfl
theorem bldStringCt (b : Nat) (p v : Value) (l : List UInt8) (g : Grp) (F : Heap) (hk : l.length ≤ 1000000000) (h0 : l = [] → v = .slice none 0 0) (hown : OwnS 5 1 v l.length (u8c l) g) :
    Ct Tryd.prog 44 [.pointer (some ⟨b, 0, none⟩)] F [g, bldG b p v] (fun _ _ u => u = .string (bs l)) := by
  rcases Nat.eq_zero_or_pos l.length with h | h
  · have : l = [] := List.eq_nil_of_length_eq_zero h
    subst this
    rw [h0 rfl]
    exact bldString0 b p g F
  · exact bldString1 b p v l.length l g F hk h hown

def markC (o : Option (UInt8 × Nat)) : UInt8 := match o with | some (c, _) => c | none => 0
def markK (o : Option (UInt8 × Nat)) : Nat := match o with | some (_, k) => k | none => 0
theorem markV_eq (o : Option (UInt8 × Nat)) : markV o = .tuple ⟨[.int .u8 (markC o).toNat, .int .i64 (markK o : Nat)]⟩ := by
  rcases o with _ | ⟨c, k⟩ <;> rfl
theorem markK_zero {r : List UInt8} (h : (markK (markQ r) : Int) = 0) : markQ r = none := by
  rcases hm : markQ r with _ | ⟨c, k⟩
  · rfl
  · rw [hm] at h
    have := mark_pos hm
    simp only [markK] at h; omega
theorem markK_some {r : List UInt8} (h : ¬ (markK (markQ r) : Int) = 0) : markQ r = some (markC (markQ r), markK (markQ r)) := by
  rcases hm : markQ r with _ | ⟨c, k⟩
  · rw [hm] at h; exact absurd rfl h
  · rfl
theorem St.dropApp {n : Sz} {L : List (Nat × Value)} {w0 : World} {F0 : Heap} {K0 : List Nat} {F : Heap} {G1 G2 : List Grp} {a : Act} {w : World} (S : St n L w0 F0 K0 F (G1 ++ G2) a w) : St n L w0 F0 K0 F G2 a w := ⟨S.fr, S.tr.sub (by rw [List.flatten_append]; exact List.sublist_append_right _ _)⟩

set_option maxHeartbeats 2000000 in
theorem quotedCt (F : Heap) (X mb : Nat) (r : List UInt8) (hL : LexAt F X mb r) (hs : r.length ≤ 1000000000) :
    Ct Tryd.prog 31 [ptr X] F [] (fun _ _ u => Tried (quoO r) u) := by
  have hr := hL.s
  refine Ct.enter Tryd.func31 rfl Tryd.ntmps31 rfl fun w0 a S => ?_
  (refine wp_seq_k ?_; intro Kq1 hKq1)
  refine wp_region_lit ?_
  (refine wpl_alloc S rfl rfl rfl rfl ?_; clear S a; intro b2 a w S)
  (refine wpl_v S rfl rfl rfl (sv_pure S rfl) ?_; clear S a; intro a S)
  refine wpList_nil ?_
  (refine hKq1 _ _ ?_; try (clear hKq1 Kq1))
  (refine wp_seq_k ?_; intro Kq2 hKq2)
  (refine wp_seq_k ?_; intro Kq3 hKq3)
  refine wp_region_lit ?_
  (refine wpl_v S rfl rfl rfl (sv_pure S rfl) ?_; clear S a; intro a S)
  (refine wpl_v S rfl rfl rfl (sv_nilCheck S rfl rfl) ?_; clear S a; intro a S)
  (refine wpl_v S rfl rfl rfl (sv_fieldAddr S rfl rfl rfl inferInstance rfl) ?_; clear S a; intro a S)
  first | (refine wpl_v S rfl rfl rfl (sv_loadO S rfl rfl (by rfl)) ?_; clear S a; intro a S) | (refine wpl_v S rfl rfl rfl (sv_loadF S rfl rfl (by assumption)) ?_; clear S a; intro a S)
  ((first | (refine wpl_call0 S rfl rfl rfl rfl rfl rfl (prefixCt (r.drop k) [34] F) rfl ?_; clear S a; intro v9 a w hv S; rw [prefix1 (r.drop k) 34 34 rfl (by decide)] at hv; subst hv) | (refine wpl_call0 S rfl rfl rfl rfl rfl rfl (prefixCt r [34] F) rfl ?_; clear S a; intro v9 a w hv S; rw [prefix1 r 34 34 rfl (by decide)] at hv; subst hv)))
  (refine wpl_v S rfl rfl rfl (sv_pure S rfl) ?_; clear S a; intro a S)
  refine wpList_nil ?_
  (refine hKq3 _ _ ?_; try (clear hKq3 Kq3))
  refine wpc_split S rfl (fun h => ?_) (fun h => ?_)
  · (skip; (try simp only [decide_eq_true_eq, decide_eq_false_iff_not, beq_iff_eq, bne_iff_ne, bne_eq_false_iff_eq, beq_eq_false_iff_ne, ne_eq, Bool.not_eq_true', Bool.not_eq_false', Bool.not_eq_true, Bool.not_eq_false, Bool.not_true, Bool.not_false, Int.ofNat_lt, Int.ofNat_le, Nat.not_lt, Nat.not_le] at h))
    (refine wp_seq_k ?_; intro Kq4 hKq4)
    refine wp_region_lit ?_
    (refine wpl_v S rfl rfl rfl (sv_build S rfl rfl rfl) ?_; clear S a; intro a S)
    (refine wpl_storeO S rfl rfl rfl rfl rfl (by rfl) (by simp [Value.cells, Value.oneCell', fdV, splice]) (by rfl) ?_; clear S; intro w S)
    (refine wpl_v S rfl rfl rfl (sv_pure S rfl) ?_; clear S a; intro a S)
    refine wpList_nil ?_
    (refine hKq4 _ _ ?_; try (clear hKq4 Kq4))
    refine wp_ret ?_
    refine fin_ret S (results2 Tryd.results31 (RV.cellO S rfl (by rfl)) (RV.tmp S rfl)) ?_
    (first | (refine Tried.no ⟨_, _, _, _⟩ rfl ?_; unfold quoO; rw [if_pos (by assumption)]) | (refine Tried.yes ⟨_, _, _, _⟩ rfl ?_; unfold quoO quotedF; rw [if_neg (by omega)]; simp only [hqm, hgd]; (repeat' split) <;> first | exact ⟨_, rfl, rfl, fun _ => rfl⟩ | exact ⟨_, rfl, rfl, fun h => absurd h (by decide)⟩ | (exfalso; omega) | (exact ⟨_, rfl, rfl, fun _ => by have : k - 1 + 2 = k + 1 := (by omega); rw [this]⟩)))
  · (skip; (try simp only [decide_eq_true_eq, decide_eq_false_iff_not, beq_iff_eq, bne_iff_ne, bne_eq_false_iff_eq, beq_eq_false_iff_ne, ne_eq, Bool.not_eq_true', Bool.not_eq_false', Bool.not_eq_true, Bool.not_eq_false, Bool.not_true, Bool.not_false, Int.ofNat_lt, Int.ofNat_le, Nat.not_lt, Nat.not_le] at h))
    refine wp_skip ?_
    (refine hKq2 _ _ ?_; try (clear hKq2 Kq2))
    (refine wp_seq_k ?_; intro Kq4 hKq4)
    refine wp_region_lit ?_
    (refine wpl_alloc S rfl rfl rfl rfl ?_; clear S a; intro b4 a w S)
    refine wpList_nil ?_
    (refine hKq4 _ _ ?_; try (clear hKq4 Kq4))
    (refine wp_seq_k ?_; intro Kq5 hKq5)
    refine wp_region_lit ?_
    (refine wpl_v S rfl rfl rfl (sv_pure S rfl) ?_; clear S a; intro a S)
    refine wpList_nil ?_
    (refine hKq5 _ _ ?_; try (clear hKq5 Kq5))
    (refine wp_seq_k ?_; intro Kq6 hKq6)
    refine wp_block ?_
    refine wpc_loop (fun m a w' => ∃ (k : Nat) (l : List UInt8) (v p : Value) (g : Grp), m = r.length - k ∧ 1 ≤ k ∧ k ≤ r.length ∧ l.length < k ∧ qmarks (r.drop 1) = (l ++ (qmarks (r.drop k)).1, (k - 1) + (qmarks (r.drop k)).2) ∧ bldP b4 p ∧ OwnS 5 1 v l.length (u8c l) g ∧ (l = [] → v = .slice none 0 0) ∧ St 50 [(0, ptr X), (2, .pointer (some ⟨b2, 0, none⟩)), (3, .bool false), (4, .pointer (some ⟨b4, 0, none⟩)), (5, .int .i64 k)] w0 F [] F [g, bldG b4 p v, [(b2, .cells ⟨[.int .u8 0, .int .i64 0, .string (bs []), .int .i64 0]⟩ 52 (0, 0))]] a w') ?_ ?_
    · (have hr0 := pos_of_getD' (r := r) (i := 0) (k := 34) (by first | assumption | omega) (by decide); refine ⟨r.length - 1, 1, [], .slice none 0 0, .pointer none, [], rfl, by omega, by omega, by simp, by simp, .inl rfl, OwnS.nil _ _, fun _ => rfl, ?_⟩; have S := S.nilg; refine S.keep ?_; repeat (first | exact trivial | refine ⟨rfl, ?_⟩))
    · (clear S; rintro m a w ⟨k, l, v, p, g, rfl, hk1, hk2, hl, hqm, hp, hown, hnil, S⟩)
      refine wp_block ?_
      (refine wp_seq_k ?_; intro Kq7 hKq7)
      refine wp_region_lit ?_
      (refine wpl_v S rfl rfl rfl (sv_pure S rfl) ?_; clear S a; intro a S)
      (refine wpl_v S rfl rfl rfl (sv_nilCheck S rfl rfl) ?_; clear S a; intro a S)
      (refine wpl_v S rfl rfl rfl (sv_fieldAddr S rfl rfl rfl inferInstance rfl) ?_; clear S a; intro a S)
      first | (refine wpl_v S rfl rfl rfl (sv_loadO S rfl rfl (by rfl)) ?_; clear S a; intro a S) | (refine wpl_v S rfl rfl rfl (sv_loadF S rfl rfl (by assumption)) ?_; clear S a; intro a S)
      (refine wpl_v S rfl rfl rfl (sv_pure S rfl) ?_; clear S a; intro a S)
      (refine wpl_v S rfl rfl rfl (sv_sliceS_lo S rfl rfl rfl (by first | omega | (have := pos_of_getD' (by assumption) (by decide); omega))) ?_; clear S a; intro a S)
      (refine wpl_call0 S rfl rfl rfl rfl rfl rfl (markCt (r.drop k) F (by rw [List.length_drop]; omega)) rfl ?_; clear S a; intro v9 a w hv S; rw [markV_eq] at hv; subst hv)
      (refine wpl_v S rfl rfl rfl (sv_pure S rfl) ?_; clear S a; intro a S)
      (refine wpl_v S rfl rfl rfl (sv_pure S rfl) ?_; clear S a; intro a S)
      (refine wpl_v S rfl rfl rfl (sv_pure S rfl) ?_; clear S a; intro a S)
      (refine wpl_v S rfl rfl rfl (sv_pure S rfl) ?_; clear S a; intro a S)
      (refine wpl_v S rfl rfl rfl (sv_pure S rfl) ?_; clear S a; intro a S)
      refine wpList_nil ?_
      (refine hKq7 _ _ ?_; try (clear hKq7 Kq7))
      (refine wp_seq_k ?_; intro Kq8 hKq8)
      (refine wp_seq_k ?_; intro Kq9 hKq9)
      refine wp_region_lit ?_
      (refine wpl_v S rfl rfl rfl (sv_pure S rfl) ?_; clear S a; intro a S)
      (refine wpl_v S rfl rfl rfl (sv_pure S rfl) ?_; clear S a; intro a S)
      refine wpList_nil ?_
      (refine hKq9 _ _ ?_; try (clear hKq9 Kq9))
      refine wpc_split S rfl (fun h => ?_) (fun h => ?_)
      · (skip; (try simp only [decide_eq_true_eq, decide_eq_false_iff_not, beq_iff_eq, bne_iff_ne, bne_eq_false_iff_eq, beq_eq_false_iff_ne, ne_eq, Bool.not_eq_true', Bool.not_eq_false', Bool.not_eq_true, Bool.not_eq_false, Bool.not_true, Bool.not_false, Int.ofNat_lt, Int.ofNat_le, Nat.not_lt, Nat.not_le] at h))
        refine wp_exit ?_
        (refine hKq6 _ _ ?_; try (clear hKq6 Kq6))
        (refine wp_seq_k ?_; intro Kq10 hKq10)
        refine wp_block ?_
        (refine wp_seq_k ?_; intro Kq11 hKq11)
        (have hz := markK_zero (by assumption); rw [qmarks_none hz] at hqm; simp only [List.append_nil, Nat.add_zero] at hqm; have hgd : (r.drop 1).getD (k - 1) 0 = (r.drop k).getD 0 0 := (by simp only [List.getD_eq_getElem?_getD, List.getElem?_drop]; rw [show 1 + (k - 1) = k + 0 by omega]))
        refine wp_region_lit ?_
        (refine wpl_v S rfl rfl rfl (sv_pure S rfl) ?_; clear S a; intro a S)
        (refine wpl_v S rfl rfl rfl (sv_nilCheck S rfl rfl) ?_; clear S a; intro a S)
        (refine wpl_v S rfl rfl rfl (sv_fieldAddr S rfl rfl rfl inferInstance rfl) ?_; clear S a; intro a S)
        first | (refine wpl_v S rfl rfl rfl (sv_loadO S rfl rfl (by rfl)) ?_; clear S a; intro a S) | (refine wpl_v S rfl rfl rfl (sv_loadF S rfl rfl (by assumption)) ?_; clear S a; intro a S)
        (refine wpl_v S rfl rfl rfl (sv_pure S rfl) ?_; clear S a; intro a S)
        (refine wpl_v S rfl rfl rfl (sv_sliceS_lo S rfl rfl rfl (by first | omega | (have := pos_of_getD' (by assumption) (by decide); omega))) ?_; clear S a; intro a S)
        ((first | (refine wpl_call0 S rfl rfl rfl rfl rfl rfl (prefixCt (r.drop k) [34] F) rfl ?_; clear S a; intro v9 a w hv S; rw [prefix1 (r.drop k) 34 34 rfl (by decide)] at hv; subst hv) | (refine wpl_call0 S rfl rfl rfl rfl rfl rfl (prefixCt r [34] F) rfl ?_; clear S a; intro v9 a w hv S; rw [prefix1 r 34 34 rfl (by decide)] at hv; subst hv)))
        (refine wpl_v S rfl rfl rfl (sv_pure S rfl) ?_; clear S a; intro a S)
        (refine wpl_v S rfl rfl rfl (sv_pure S rfl) ?_; clear S a; intro a S)
        refine wpList_nil ?_
        (refine hKq11 _ _ ?_; try (clear hKq11 Kq11))
        refine wpc_split S rfl (fun h => ?_) (fun h => ?_)
        · (skip; (try simp only [decide_eq_true_eq, decide_eq_false_iff_not, beq_iff_eq, bne_iff_ne, bne_eq_false_iff_eq, beq_eq_false_iff_ne, ne_eq, Bool.not_eq_true', Bool.not_eq_false', Bool.not_eq_true, Bool.not_eq_false, Bool.not_true, Bool.not_false, Int.ofNat_lt, Int.ofNat_le, Nat.not_lt, Nat.not_le] at h))
          (refine wp_seq_k ?_; intro Kq12 hKq12)
          refine wp_region_lit ?_
          (refine wpl_v S rfl rfl rfl (sv_build S rfl rfl rfl) ?_; clear S a; intro a S)
          (refine wpl_storeO S rfl rfl rfl rfl rfl (by rfl) (by simp [Value.cells, Value.oneCell', fdV, splice]) (by rfl) ?_; clear S; intro w S)
          (refine wpl_v S rfl rfl rfl (sv_pure S rfl) ?_; clear S a; intro a S)
          refine wpList_nil ?_
          (refine hKq12 _ _ ?_; try (clear hKq12 Kq12))
          refine wp_ret ?_
          refine fin_ret S (results2 Tryd.results31 (RV.cellO S rfl (by rfl)) (RV.tmp S rfl)) ?_
          (first | (refine Tried.no ⟨_, _, _, _⟩ rfl ?_; unfold quoO; rw [if_pos (by assumption)]) | (refine Tried.yes ⟨_, _, _, _⟩ rfl ?_; unfold quoO quotedF; rw [if_neg (by omega)]; simp only [hqm, hgd]; (repeat' split) <;> first | exact ⟨_, rfl, rfl, fun _ => rfl⟩ | exact ⟨_, rfl, rfl, fun h => absurd h (by decide)⟩ | (exfalso; omega) | (exact ⟨_, rfl, rfl, fun _ => by have : k - 1 + 2 = k + 1 := (by omega); rw [this]⟩)))
        · (skip; (try simp only [decide_eq_true_eq, decide_eq_false_iff_not, beq_iff_eq, bne_iff_ne, bne_eq_false_iff_eq, beq_eq_false_iff_ne, ne_eq, Bool.not_eq_true', Bool.not_eq_false', Bool.not_eq_true, Bool.not_eq_false, Bool.not_true, Bool.not_false, Int.ofNat_lt, Int.ofNat_le, Nat.not_lt, Nat.not_le] at h))
          (refine wp_seq_k ?_; intro Kq12 hKq12)
          refine wp_region_lit ?_
          (refine wpl_callOwn (Gs := [g, bldG b4 p v]) (Gr := [[(b2, .cells ⟨[.int .u8 0, .int .i64 0, .string (bs []), .int .i64 0]⟩ 52 (0, 0))]]) S rfl rfl rfl rfl rfl rfl (bldLenCt b4 p v l.length l g F hown) rfl (by simp) ?_; clear S a; intro u G1 a w hv1 S; obtain ⟨rfl, rfl⟩ := hv1; replace S : St _ _ _ _ _ _ [g, bldG b4 p v, [(b2, .cells ⟨[.int .u8 0, .int .i64 0, .string (bs []), .int .i64 0]⟩ 52 (0, 0))]] _ _ := S)
          (refine wpl_v S rfl rfl rfl (sv_pure S rfl) ?_; clear S a; intro a S)
          (refine wpl_v S rfl rfl rfl (sv_pure S rfl) ?_; clear S a; intro a S)
          refine wpList_nil ?_
          (refine hKq12 _ _ ?_; try (clear hKq12 Kq12))
          refine wpc_split S rfl (fun h => ?_) (fun h => ?_)
          · (skip; (try simp only [decide_eq_true_eq, decide_eq_false_iff_not, beq_iff_eq, bne_iff_ne, bne_eq_false_iff_eq, beq_eq_false_iff_ne, ne_eq, Bool.not_eq_true', Bool.not_eq_false', Bool.not_eq_true, Bool.not_eq_false, Bool.not_true, Bool.not_false, Int.ofNat_lt, Int.ofNat_le, Nat.not_lt, Nat.not_le] at h))
            (refine wp_seq_k ?_; intro Kq13 hKq13)
            refine wp_region_lit ?_
            (refine wpl_v S rfl rfl rfl (sv_build S rfl rfl rfl) ?_; clear S a; intro a S)
            (refine wpl_storeO S rfl rfl rfl rfl rfl (by rfl) (by simp [Value.cells, Value.oneCell', fdV, splice]) (by rfl) ?_; clear S; intro w S)
            (refine wpl_v S rfl rfl rfl (sv_pure S rfl) ?_; clear S a; intro a S)
            refine wpList_nil ?_
            (refine hKq13 _ _ ?_; try (clear hKq13 Kq13))
            refine wp_ret ?_
            refine fin_ret S (results2 Tryd.results31 (RV.cellO S rfl (by rfl)) (RV.tmp S rfl)) ?_
            (first | (refine Tried.no ⟨_, _, _, _⟩ rfl ?_; unfold quoO; rw [if_pos (by assumption)]) | (refine Tried.yes ⟨_, _, _, _⟩ rfl ?_; unfold quoO quotedF; rw [if_neg (by omega)]; simp only [hqm, hgd]; (repeat' split) <;> first | exact ⟨_, rfl, rfl, fun _ => rfl⟩ | exact ⟨_, rfl, rfl, fun h => absurd h (by decide)⟩ | (exfalso; omega) | (exact ⟨_, rfl, rfl, fun _ => by have : k - 1 + 2 = k + 1 := (by omega); rw [this]⟩)))
          · (skip; (try simp only [decide_eq_true_eq, decide_eq_false_iff_not, beq_iff_eq, bne_iff_ne, bne_eq_false_iff_eq, beq_eq_false_iff_ne, ne_eq, Bool.not_eq_true', Bool.not_eq_false', Bool.not_eq_true, Bool.not_eq_false, Bool.not_true, Bool.not_false, Int.ofNat_lt, Int.ofNat_le, Nat.not_lt, Nat.not_le] at h))
            refine wp_skip ?_
            (refine hKq10 _ _ ?_; try (clear hKq10 Kq10))
            (refine wp_seq_k ?_; intro Kq13 hKq13)
            refine wp_region_lit ?_
            (refine wpl_v S rfl rfl rfl (sv_pure S rfl) ?_; clear S a; intro a S)
            (refine wpl_v S rfl rfl rfl (sv_add S rfl rfl rfl (by first | omega | (have := pos_of_getD' (by assumption) (by decide); omega))) ?_; clear S a; intro a S)
            (refine wpl_callOwn (Gs := [g, bldG b4 p v]) (Gr := [[(b2, .cells ⟨[.int .u8 0, .int .i64 0, .string (bs []), .int .i64 0]⟩ 52 (0, 0))]]) S rfl rfl rfl rfl rfl rfl (bldStringCt b4 p v l g F (by omega) hnil hown) rfl (by simp) ?_; clear S a; intro u G1 a w hv1 S; subst hv1; replace S := St.dropApp S)
            (refine wpl_v S rfl rfl rfl (sv_build S rfl rfl rfl) ?_; clear S a; intro a S)
            (refine wpl_storeO S rfl rfl rfl rfl rfl (by rfl) (by simp [Value.cells, Value.oneCell', fdV, splice]) (by rfl) ?_; clear S; intro w S)
            (refine wpl_v S rfl rfl rfl (sv_pure S rfl) ?_; clear S a; intro a S)
            refine wpList_nil ?_
            (refine hKq13 _ _ ?_; try (clear hKq13 Kq13))
            refine wp_ret ?_
            refine fin_ret S (results2 Tryd.results31 (RV.cellO S rfl (by rfl)) (RV.tmp S rfl)) ?_
            (first | (refine Tried.no ⟨_, _, _, _⟩ rfl ?_; unfold quoO; rw [if_pos (by assumption)]) | (refine Tried.yes ⟨_, _, _, _⟩ rfl ?_; unfold quoO quotedF; rw [if_neg (by omega)]; simp only [hqm, hgd]; (repeat' split) <;> first | exact ⟨_, rfl, rfl, fun _ => rfl⟩ | exact ⟨_, rfl, rfl, fun h => absurd h (by decide)⟩ | (exfalso; omega) | (exact ⟨_, rfl, rfl, fun _ => by have : k - 1 + 2 = k + 1 := (by omega); rw [this]⟩)))
      · (skip; (try simp only [decide_eq_true_eq, decide_eq_false_iff_not, beq_iff_eq, bne_iff_ne, bne_eq_false_iff_eq, beq_eq_false_iff_ne, ne_eq, Bool.not_eq_true', Bool.not_eq_false', Bool.not_eq_true, Bool.not_eq_false, Bool.not_true, Bool.not_false, Int.ofNat_lt, Int.ofNat_le, Nat.not_lt, Nat.not_le] at h))
        refine wp_skip ?_
        (refine hKq8 _ _ ?_; try (clear hKq8 Kq8))
        (refine wp_seq_k ?_; intro Kq10 hKq10)
        (have hsm := markK_some (by assumption); have hpos := mark_pos hsm; rw [List.length_drop] at hpos)
        refine wp_region_lit ?_
        (refine wpl_v S rfl rfl rfl (sv_pure S rfl) ?_; clear S a; intro a S)
        (refine wpl_callOwn (Gs := [g, bldG b4 p v]) (Gr := [[(b2, .cells ⟨[.int .u8 0, .int .i64 0, .string (bs []), .int .i64 0]⟩ 52 (0, 0))]]) S rfl rfl rfl rfl rfl rfl (writeByteCt b4 p v l.length l (markC (markQ (r.drop k))) g F hp hown (by omega)) rfl (by simp) ?_; clear S a hown; intro u G1 a w hv1 S; obtain ⟨v, g, rfl, hown⟩ := hv1)
        refine wpList_nil ?_
        (refine hKq10 _ _ ?_; try (clear hKq10 Kq10))
        refine wp_region_lit ?_
        (refine wpl_v S rfl rfl rfl (sv_pure S rfl) ?_; clear S a; intro a S)
        (refine wpl_v S rfl rfl rfl (sv_pure S rfl) ?_; clear S a; intro a S)
        (refine wpl_v S rfl rfl rfl (sv_add S rfl rfl rfl (by first | omega | (have := pos_of_getD' (by assumption) (by decide); omega))) ?_; clear S a; intro a S)
        (refine wpl_v S rfl rfl rfl (sv_pure S rfl) ?_; clear S a; intro a S)
        refine wpList_nil ?_
        change ∃ m', _ ∧ _
        (rw [qmarks_some hsm, List.drop_drop] at hqm; refine ⟨r.length - (k + markK (markQ (r.drop k))), by omega, k + markK (markQ (r.drop k)), l ++ [markC (markQ (r.drop k))], v, _, g, rfl, by omega, by omega, by simp; omega, (by rw [hqm]; simp; omega), .inr rfl, (by rw [List.length_append]; exact hown), (fun h9 => by simp at h9), ?_⟩; refine S.keep ?_; repeat (first | exact trivial | refine ⟨rfl, ?_⟩))
end Go.Proofs.YtpgnmnacfilnkaaDoor
