/- The walks of strings.Builder's methods, the builder's two blocks taken along: WriteString appends the bytes, Len counts them, String makes them a string. -/
import Derived.Test.YtmmpbpfdnpgklaaDoorWk11
import Derived.Test.YtmmpbpfdnpgklaaDoorBig5
namespace Go.Proofs.YtmmpbpfdnpgklaaDoor
open Go Go.Wk Go.Num
set_option linter.unusedSimpArgs false
set_option linter.unusedVariables false
attribute [local irreducible] Go.wpList Go.Code.wp Go.wpStill Go.Wk.wpPre Go.bodyPost Go.Calls Go.Wk.Ct Go.Wk.OwnS
attribute [local irreducible] Go.Wk.wpG

instance : NoEsc Tryd.prog 88 := ⟨fun x w => by
  rw [run_callFunc_extern Tryd.func88 (by kernel_rfl) (by kernel_rfl) (by kernel_rfl) (e := Extern.AbiNoEscape.same) (by kernel_rfl), Lib.run_noEscape]
  rfl⟩
/-- The builder's own block: never written, or written. -/
def bldG (b : Nat) (p v : Value) : Grp := [(b, .cells ⟨[p, v]⟩ 73 (0, 0))]
def bldP (b : Nat) (p : Value) : Prop := p = .pointer none ∨ p = .pointer (some ⟨b, 0, none⟩)

set_option maxHeartbeats 1000000 in
theorem copyCheck0 (b : Nat) (v : Value) (F : Heap) : Ct Tryd.prog 70 [.pointer (some ⟨b, 0, none⟩)] F [[(b, .cells ⟨[.pointer none, v]⟩ 73 (0, 0))]] (fun _ G' _ => G' = [[(b, .cells ⟨[.pointer (some ⟨b, 0, none⟩), v]⟩ 73 (0, 0))]]) := by
  refine Ct.enter Tryd.func70 rfl Tryd.ntmps70 rfl fun w0 a S => ?_
  (refine wp_seq_k ?_; intro Kq1 hKq1)
  refine wp_region_lit ?_
  (refine wpl_v S rfl rfl rfl (sv_pure S rfl) ?_; clear S a; intro a S)
  (refine wpl_v S rfl rfl rfl (sv_nilCheck S rfl rfl) ?_; clear S a; intro a S)
  (refine wpl_v S rfl rfl rfl (sv_fieldAddr S rfl rfl rfl inferInstance rfl) ?_; clear S a; intro a S)
  first | (refine wpl_v S rfl rfl rfl (sv_loadO S rfl rfl (by rfl)) ?_; clear S a; intro a S) | (refine wpl_v S rfl rfl rfl (sv_loadF S rfl rfl (by assumption)) ?_; clear S a; intro a S)
  (refine wpl_v S rfl rfl rfl (sv_eqPtrNil S rfl rfl rfl) ?_; clear S a; intro a S)
  refine wpList_nil ?_
  (refine hKq1 _ _ ?_; try (clear hKq1 Kq1))
  refine wpc_split S rfl (fun h => ?_) (fun h => ?_)
  · (skip; (try simp only [decide_eq_true_eq, decide_eq_false_iff_not, beq_iff_eq, bne_iff_ne, bne_eq_false_iff_eq, beq_eq_false_iff_ne, ne_eq, Bool.not_eq_true', Bool.not_eq_false', Bool.not_eq_true, Bool.not_eq_false, Bool.not_true, Bool.not_false, Int.ofNat_lt, Int.ofNat_le, Nat.not_lt, Nat.not_le] at h))
    refine wp_region_lit ?_
    (refine wpl_v S rfl rfl rfl (sv_pure S rfl) ?_; clear S a; intro a S)
    (refine wpl_v S rfl rfl rfl (sv_pure S rfl) ?_; clear S a; intro a S)
    (refine wpl_v S rfl rfl rfl (sv_toUnsafe S rfl rfl rfl (by simp)) ?_; clear S a; intro a S)
    (refine wpl_v S rfl rfl rfl (sv_noEsc S rfl rfl rfl) ?_; clear S a; intro a S)
    (refine wpl_v S rfl rfl rfl (sv_fromUnsafe S rfl rfl (by kernel_rfl)) ?_; clear S a; intro a S)
    (refine wpl_v S rfl rfl rfl (sv_nilCheck S rfl rfl) ?_; clear S a; intro a S)
    (refine wpl_v S rfl rfl rfl (sv_fieldAddr S rfl rfl rfl inferInstance rfl) ?_; clear S a; intro a S)
    (refine wpl_store1 S rfl rfl rfl rfl rfl rfl (by first | (simp; done) | (simp [Value.cells]; done)) ?_; clear S; intro w S)
    refine wpList_nil ?_
    refine fin_end S (results0 Tryd.results70) ?_
    rfl
  · (skip; (try simp only [decide_eq_true_eq, decide_eq_false_iff_not, beq_iff_eq, bne_iff_ne, bne_eq_false_iff_eq, beq_eq_false_iff_ne, ne_eq, Bool.not_eq_true', Bool.not_eq_false', Bool.not_eq_true, Bool.not_eq_false, Bool.not_true, Bool.not_false, Int.ofNat_lt, Int.ofNat_le, Nat.not_lt, Nat.not_le] at h); cases h)
set_option maxHeartbeats 1000000 in
theorem copyCheck1 (b : Nat) (v : Value) (F : Heap) : Ct Tryd.prog 70 [.pointer (some ⟨b, 0, none⟩)] F [[(b, .cells ⟨[.pointer (some ⟨b, 0, none⟩), v]⟩ 73 (0, 0))]] (fun _ G' _ => G' = [[(b, .cells ⟨[.pointer (some ⟨b, 0, none⟩), v]⟩ 73 (0, 0))]]) := by
  refine Ct.enter Tryd.func70 rfl Tryd.ntmps70 rfl fun w0 a S => ?_
  (refine wp_seq_k ?_; intro Kq1 hKq1)
  refine wp_region_lit ?_
  (refine wpl_v S rfl rfl rfl (sv_pure S rfl) ?_; clear S a; intro a S)
  (refine wpl_v S rfl rfl rfl (sv_nilCheck S rfl rfl) ?_; clear S a; intro a S)
  (refine wpl_v S rfl rfl rfl (sv_fieldAddr S rfl rfl rfl inferInstance rfl) ?_; clear S a; intro a S)
  first | (refine wpl_v S rfl rfl rfl (sv_loadO S rfl rfl (by rfl)) ?_; clear S a; intro a S) | (refine wpl_v S rfl rfl rfl (sv_loadF S rfl rfl (by assumption)) ?_; clear S a; intro a S)
  (refine wpl_v S rfl rfl rfl (sv_eqPtrSome S rfl rfl rfl) ?_; clear S a; intro a S)
  refine wpList_nil ?_
  (refine hKq1 _ _ ?_; try (clear hKq1 Kq1))
  refine wpc_split S rfl (fun h => ?_) (fun h => ?_)
  · (skip; (try simp only [decide_eq_true_eq, decide_eq_false_iff_not, beq_iff_eq, bne_iff_ne, bne_eq_false_iff_eq, beq_eq_false_iff_ne, ne_eq, Bool.not_eq_true', Bool.not_eq_false', Bool.not_eq_true, Bool.not_eq_false, Bool.not_true, Bool.not_false, Int.ofNat_lt, Int.ofNat_le, Nat.not_lt, Nat.not_le] at h); cases h)
  · (skip; (try simp only [decide_eq_true_eq, decide_eq_false_iff_not, beq_iff_eq, bne_iff_ne, bne_eq_false_iff_eq, beq_eq_false_iff_ne, ne_eq, Bool.not_eq_true', Bool.not_eq_false', Bool.not_eq_true, Bool.not_eq_false, Bool.not_true, Bool.not_false, Int.ofNat_lt, Int.ofNat_le, Nat.not_lt, Nat.not_le] at h))
    (refine wp_seq_k ?_; intro Kq2 hKq2)
    refine wp_region_lit ?_
    (refine wpl_v S rfl rfl rfl (sv_pure S rfl) ?_; clear S a; intro a S)
    (refine wpl_v S rfl rfl rfl (sv_nilCheck S rfl rfl) ?_; clear S a; intro a S)
    (refine wpl_v S rfl rfl rfl (sv_fieldAddr S rfl rfl rfl inferInstance rfl) ?_; clear S a; intro a S)
    first | (refine wpl_v S rfl rfl rfl (sv_loadO S rfl rfl (by rfl)) ?_; clear S a; intro a S) | (refine wpl_v S rfl rfl rfl (sv_loadF S rfl rfl (by assumption)) ?_; clear S a; intro a S)
    (refine wpl_v S rfl rfl rfl (sv_pure S rfl) ?_; clear S a; intro a S)
    (refine wpl_v S rfl rfl rfl (sv_nePtrSame S rfl rfl rfl) ?_; clear S a; intro a S)
    refine wpList_nil ?_
    (refine hKq2 _ _ ?_; try (clear hKq2 Kq2))
    refine wpc_split S rfl (fun h => ?_) (fun h => ?_)
    · (skip; (try simp only [decide_eq_true_eq, decide_eq_false_iff_not, beq_iff_eq, bne_iff_ne, bne_eq_false_iff_eq, beq_eq_false_iff_ne, ne_eq, Bool.not_eq_true', Bool.not_eq_false', Bool.not_eq_true, Bool.not_eq_false, Bool.not_true, Bool.not_false, Int.ofNat_lt, Int.ofNat_le, Nat.not_lt, Nat.not_le] at h); cases h)
    · (skip; (try simp only [decide_eq_true_eq, decide_eq_false_iff_not, beq_iff_eq, bne_iff_ne, bne_eq_false_iff_eq, beq_eq_false_iff_ne, ne_eq, Bool.not_eq_true', Bool.not_eq_false', Bool.not_eq_true, Bool.not_eq_false, Bool.not_true, Bool.not_false, Int.ofNat_lt, Int.ofNat_le, Nat.not_lt, Nat.not_le] at h))
      refine wp_skip ?_
      refine fin_end S (results0 Tryd.results70) ?_
      rfl
theorem copyCheckCt (b : Nat) (p v : Value) (F : Heap) (hp : bldP b p) : Ct Tryd.prog 70 [.pointer (some ⟨b, 0, none⟩)] F [bldG b p v] (fun _ G' _ => G' = [bldG b (.pointer (some ⟨b, 0, none⟩)) v]) := by
  rcases hp with rfl | rfl
  · exact copyCheck0 b v F
  · exact copyCheck1 b v F

def u8c (l : List UInt8) : List Value := l.map fun c => Value.int .u8 c.toNat
set_option maxHeartbeats 1000000 in
theorem writeStringCt (b : Nat) (p v : Value) (k : Nat) (l s : List UInt8) (g : Grp) (F : Heap) (hp : bldP b p) (hown : OwnS 5 1 v k (u8c l) g) (hs : 0 < s.length) (hk : k + s.length ≤ 1000000000) :
    Ct Tryd.prog 52 [.pointer (some ⟨b, 0, none⟩), .string (bs s)] F [bldG b p v, g] (fun _ G' _ => ∃ v' g', G' = [bldG b (.pointer (some ⟨b, 0, none⟩)) v', g'] ∧ OwnS 5 1 v' (k + s.length) (u8c (l ++ s)) g') := by
  refine Ct.enter Tryd.func52 rfl Tryd.ntmps52 rfl fun w0 a S => ?_
  (refine wp_seq_k ?_; intro Kq1 hKq1)
  refine wp_region_lit ?_
  (refine wpl_v S rfl rfl rfl (sv_pure S rfl) ?_; clear S a; intro a S)
  (refine wpl_v S rfl rfl rfl (sv_pure S rfl) ?_; clear S a; intro a S)
  refine wpList_nil ?_
  (refine hKq1 _ _ ?_; try (clear hKq1 Kq1))
  (refine wp_seq_k ?_; intro Kq2 hKq2)
  refine wp_region_lit ?_
  (refine wpl_v S rfl rfl rfl (sv_pure S rfl) ?_; clear S a; intro a S)
  (refine wpl_callOwn (Gs := [bldG b p v]) (Gr := [g]) S rfl rfl rfl rfl rfl rfl (copyCheckCt b p v F hp) rfl (by simp) ?_; clear S a; intro u G1 a w hv1 S; subst hv1; replace S : St _ _ _ _ _ _ [[(b, .cells ⟨[.pointer (some ⟨b, 0, none⟩), v]⟩ 73 (0, 0))], g] _ _ := S)
  refine wpList_nil ?_
  (refine hKq2 _ _ ?_; try (clear hKq2 Kq2))
  (refine wp_seq_k ?_; intro Kq3 hKq3)
  refine wp_region_lit ?_
  (refine wpl_v S rfl rfl rfl (sv_pure S rfl) ?_; clear S a; intro a S)
  (refine wpl_v S rfl rfl rfl (sv_pure S rfl) ?_; clear S a; intro a S)
  (refine wpl_v S rfl rfl rfl (sv_nilCheck S rfl rfl) ?_; clear S a; intro a S)
  (refine wpl_v S rfl rfl rfl (sv_fieldAddr S rfl rfl rfl inferInstance rfl) ?_; clear S a; intro a S)
  first | (refine wpl_v S rfl rfl rfl (sv_loadO S rfl rfl (by rfl)) ?_; clear S a; intro a S) | (refine wpl_v S rfl rfl rfl (sv_loadF S rfl rfl (by assumption)) ?_; clear S a; intro a S)
  (refine wpl_v S rfl rfl rfl (sv_pure S rfl) ?_; clear S a; intro a S)
  (refine wpl_appendStr S rfl rfl rfl rfl rfl rfl hown (by rfl) (by omega) (by omega) (by omega) ?_; clear hown S a; intro v1 g1 a w hown S)
  (refine wpl_v S rfl rfl rfl (sv_nilCheck S rfl rfl) ?_; clear S a; intro a S)
  (refine wpl_v S rfl rfl rfl (sv_fieldAddr S rfl rfl rfl inferInstance rfl) ?_; clear S a; intro a S)
  (refine wpl_store1 S rfl rfl rfl rfl rfl hown.oneCell (by simp) ?_; clear S; intro w S)
  refine wpList_nil ?_
  (refine hKq3 _ _ ?_; try (clear hKq3 Kq3))
  (refine wp_seq_k ?_; intro Kq4 hKq4)
  refine wp_region_lit ?_
  (refine wpl_v S rfl rfl rfl (sv_pure S rfl) ?_; clear S a; intro a S)
  (refine wpl_v S rfl rfl rfl (sv_lenS S rfl rfl) ?_; clear S a; intro a S)
  (refine wpl_v S rfl rfl rfl (sv_pure S rfl) ?_; clear S a; intro a S)
  (refine wpl_v S rfl rfl rfl (sv_pure S rfl) ?_; clear S a; intro a S)
  refine wpList_nil ?_
  (refine hKq4 _ _ ?_; try (clear hKq4 Kq4))
  refine wp_ret ?_
  refine fin_ret S (results2 Tryd.results52 (RV.tmp S rfl) (RV.tmp S rfl)) ?_
  (refine ⟨_, _, rfl, ?_⟩; unfold u8c; rw [List.map_append]; exact hown)
set_option maxHeartbeats 1000000 in
theorem bldLenCt (b : Nat) (p v : Value) (k : Nat) (l : List UInt8) (g : Grp) (F : Heap) (hown : OwnS 5 1 v k (u8c l) g) :
    Ct Tryd.prog 53 [.pointer (some ⟨b, 0, none⟩)] F [bldG b p v, g] (fun _ G' u => u = .int .i64 k ∧ G' = [bldG b p v, g]) := by
  obtain ⟨ao, cap, rfl, -, -, -⟩ := hown.at
  (refine Ct.enter Tryd.func53 rfl Tryd.ntmps53 rfl fun w0 a S => ?_); replace S : St _ _ _ _ _ _ [[(b, .cells ⟨[p, .slice ao k cap]⟩ 73 (0, 0))], g] _ _ := S
  (refine wp_seq_k ?_; intro Kq1 hKq1)
  refine wp_region_lit ?_
  (refine wpl_v S rfl rfl rfl (sv_pure S rfl) ?_; clear S a; intro a S)
  refine wpList_nil ?_
  (refine hKq1 _ _ ?_; try (clear hKq1 Kq1))
  (refine wp_seq_k ?_; intro Kq2 hKq2)
  refine wp_region_lit ?_
  (refine wpl_v S rfl rfl rfl (sv_pure S rfl) ?_; clear S a; intro a S)
  (refine wpl_v S rfl rfl rfl (sv_nilCheck S rfl rfl) ?_; clear S a; intro a S)
  (refine wpl_v S rfl rfl rfl (sv_fieldAddr S rfl rfl rfl inferInstance rfl) ?_; clear S a; intro a S)
  first | (refine wpl_v S rfl rfl rfl (sv_loadO S rfl rfl (by rfl)) ?_; clear S a; intro a S) | (refine wpl_v S rfl rfl rfl (sv_loadF S rfl rfl (by assumption)) ?_; clear S a; intro a S)
  (refine wpl_v S rfl rfl rfl (sv_lenSl S rfl rfl) ?_; clear S a; intro a S)
  (refine wpl_v S rfl rfl rfl (sv_pure S rfl) ?_; clear S a; intro a S)
  refine wpList_nil ?_
  (refine hKq2 _ _ ?_; try (clear hKq2 Kq2))
  refine wp_ret ?_
  refine fin_ret S (results1 Tryd.results53 (RV.tmp S rfl)) ?_
  exact ⟨rfl, rfl⟩
set_option maxHeartbeats 1000000 in
theorem bldStringCt (b : Nat) (p v : Value) (k : Nat) (l : List UInt8) (g : Grp) (F : Heap) (hk : k ≤ 1000000000) (h0 : 0 < k) (hown : OwnS 5 1 v k (u8c l) g) :
    Ct Tryd.prog 54 [.pointer (some ⟨b, 0, none⟩)] F [bldG b p v, g] (fun _ _ u => u = .string (bs l)) := by
  obtain ⟨ao, cap, rfl, hcap, -, hpos⟩ := hown.at
  obtain ⟨br, rfl⟩ := hpos h0
  (refine Ct.enter Tryd.func54 rfl Tryd.ntmps54 rfl fun w0 a S => ?_); replace S : St _ _ _ _ _ _ [[(b, .cells ⟨[p, .slice (some ⟨br, 0, none⟩) k cap]⟩ 73 (0, 0))], g] _ _ := S
  (refine wp_seq_k ?_; intro Kq1 hKq1)
  refine wp_region_lit ?_
  (refine wpl_v S rfl rfl rfl (sv_pure S rfl) ?_; clear S a; intro a S)
  refine wpList_nil ?_
  (refine hKq1 _ _ ?_; try (clear hKq1 Kq1))
  (refine wp_seq_k ?_; intro Kq2 hKq2)
  (refine wpc_mixL [0, 1, 2, 3, 4, 5, 6, 7, 8, 9] [3, 4, 8, 9] [b] S mixed (by kernel_rfl) ?_; clear S; intro w S)
  refine wppk_one rfl rfl ?_
  (refine wpp_v S rfl rfl rfl rfl (fun _ S => sv_pure S rfl) ?_; clear S a; intro a S)
  refine wpp_nil ?_
  refine wppk_one rfl rfl ?_
  (refine wpp_v S rfl rfl rfl rfl (fun _ S => sv_nilCheck S rfl rfl) ?_; clear S a; intro a S)
  refine wpp_nil ?_
  refine wppk_one rfl rfl ?_
  (refine wpp_v S rfl rfl rfl rfl (fun _ S => sv_fieldAddr S rfl rfl rfl inferInstance rfl) ?_; clear S a; intro a S)
  refine wpp_nil ?_
  first | (refine wppk_late S rfl rfl rfl rfl rfl (fun w' hw => hw.1) (fun w' S => sv_loadO S rfl rfl (by rfl)) ?_; clear S a; intro a S) | (refine wppk_late S rfl rfl rfl rfl rfl (fun w' hw => hw.1) (fun w' S => sv_loadAO S rfl rfl (by rfl)) ?_; clear S a; intro a S)
  (refine wppk_late S rfl rfl rfl rfl rfl (fun w' hw => hw.1) (fun w' S => sv_sliceData S rfl rfl (by omega)) ?_; clear S a; intro a S)
  refine wppk_one rfl rfl ?_
  (refine wpp_v S rfl rfl rfl rfl (fun _ S => sv_pure S rfl) ?_; clear S a; intro a S)
  refine wpp_nil ?_
  refine wppk_one rfl rfl ?_
  (refine wpp_v S rfl rfl rfl rfl (fun _ S => sv_nilCheck S rfl rfl) ?_; clear S a; intro a S)
  refine wpp_nil ?_
  refine wppk_one rfl rfl ?_
  (refine wpp_v S rfl rfl rfl rfl (fun _ S => sv_fieldAddr S rfl rfl rfl inferInstance rfl) ?_; clear S a; intro a S)
  refine wpp_nil ?_
  first | (refine wppk_late S rfl rfl rfl rfl rfl (fun w' hw => hw.1) (fun w' S => sv_loadO S rfl rfl (by rfl)) ?_; clear S a; intro a S) | (refine wppk_late S rfl rfl rfl rfl rfl (fun w' hw => hw.1) (fun w' S => sv_loadAO S rfl rfl (by rfl)) ?_; clear S a; intro a S)
  (refine wppk_late S rfl rfl rfl rfl rfl (fun w' hw => hw.1) (fun w' S => sv_lenSl S rfl rfl) ?_; clear S a; intro a S)
  refine wplk_one rfl ⟨S.has inferInstance, trivial⟩ ?_
  (refine wpl_unsafeString S rfl rfl rfl rfl rfl rfl hown (by kernel_rfl) h0 (by omega) ?_; clear S a; intro a w S)
  refine wpList_nil ?_
  refine wplk_one rfl ⟨S.has inferInstance, trivial⟩ ?_
  (refine wpl_v S rfl rfl rfl (sv_pure S rfl) ?_; clear S a; intro a S)
  refine wpList_nil ?_
  refine wplk_nil ⟨S.has inferInstance, trivial⟩ ?_
  (refine hKq2 _ _ ?_; try (clear hKq2 Kq2))
  refine wp_ret ?_
  refine fin_ret S (results1 Tryd.results54 (RV.tmp S rfl)) ?_
  rfl
end Go.Proofs.YtmmpbpfdnpgklaaDoor
