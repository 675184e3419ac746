/- The walks of the lexer's sign, hex and mark. -/
import Derived.Test.YtpgnmnacfilnkaaDoorLxE
namespace Go.Proofs.YtpgnmnacfilnkaaDoor
open Go Go.Wk Go.Lx
set_option linter.unusedSimpArgs false
set_option linter.unusedVariables false
attribute [local irreducible] Go.wpList Go.Code.wp Go.wpStill Go.Wk.wpPre Go.bodyPost Go.Calls Go.Wk.Ct Go.Wk.OwnS
attribute [local irreducible] Go.Wk.wpG Go.Wk.wpM

def signO (r : List UInt8) : Option Fnd := (signsL.find? fun s => Lib.hasPrefix r s).map fun s => ⟨0, 8, s.length, s⟩
def signsV : List Value := signsL.map fun l => .string (bs l)

set_option maxRecDepth 10000 in
set_option maxHeartbeats 2000000 in
theorem signCt (F : Heap) (X mb : Nat) (r : List UInt8) (hL : LexAt F X mb r) (hs : r.length ≤ 1000000000) :
    Ct Tryd.prog 33 [ptr X] F [] (fun _ _ u => Tried (signO r) u) := by
  have hr := hL.s
  refine Ct.enter Tryd.func33 rfl Tryd.ntmps33 rfl fun w0 a S => ?_
  (refine wp_seq_k ?_; intro Kq1 hKq1)
  refine wp_region_lit ?_
  (refine wpl_alloc S rfl rfl rfl rfl ?_; clear S a; intro b2 a w S)
  (refine wpl_v S rfl rfl rfl (sv_pure S rfl) ?_; clear S a; intro a S)
  refine wpList_nil ?_
  (refine hKq1 _ _ ?_; try (clear hKq1 Kq1))
  (refine wp_seq_k ?_; intro Kq2 hKq2)
  (refine wp_seq_k ?_; intro Kq3 hKq3)
  refine wp_region_lit ?_
  (refine wpl_v S rfl rfl rfl (sv_buildA S rfl rfl rfl (by simp [Value.cells]) rfl) ?_; clear S a; intro a S)
  (refine wpl_v S rfl rfl rfl (sv_pure S rfl) ?_; clear S a; intro a S)
  refine wpList_nil ?_
  (refine hKq3 _ _ ?_; try (clear hKq3 Kq3))
  refine wp_block ?_
  refine wpc_loop (fun m a w' => ∃ (i : Nat), m = 21 - i ∧ i ≤ 21 ∧ (∀ j, (hj : j < i) → (hj2 : j < signsL.length) → Lib.hasPrefix r (signsL[j]'hj2) = false) ∧ St 22 [(0, ptr X), (2, .pointer (some ⟨b2, 0, none⟩)), (3, .bool false), (6, .agg ⟨signsV⟩), (7, .int .i64 i)] w0 F [] F [[(b2, .cells ⟨[.int .u8 0, .int .i64 0, .string (bs []), .int .i64 0]⟩ 52 (0, 0))]] a w') ?_ ?_
  · (refine ⟨21, 0, by simp, Nat.zero_le _, fun j hj => by omega, ?_⟩; refine S.keep ?_; repeat (first | exact trivial | refine ⟨rfl, ?_⟩))
  · (clear S; rintro m a w ⟨i, rfl, hi, hall, S⟩)
    (refine wp_seq_k ?_; intro Kq4 hKq4)
    refine wp_region_lit ?_
    (refine wpl_v S rfl rfl rfl (sv_pure S rfl) ?_; clear S a; intro a S)
    refine wpList_nil ?_
    (refine hKq4 _ _ ?_; try (clear hKq4 Kq4))
    (refine wp_seq_k ?_; intro Kq5 hKq5)
    refine wpc_split S rfl (fun h => ?_) (fun h => ?_)
    · (skip; (try simp only [decide_eq_true_eq, decide_eq_false_iff_not, beq_iff_eq, bne_iff_ne, bne_eq_false_iff_eq, beq_eq_false_iff_ne, ne_eq, Bool.not_eq_true', Bool.not_eq_false', Bool.not_eq_true, Bool.not_eq_false, Bool.not_true, Bool.not_false, Int.ofNat_lt, Int.ofNat_le, Nat.not_lt, Nat.not_le] at h))
      refine wp_skip ?_
      (refine hKq5 _ _ ?_; try (clear hKq5 Kq5))
      (refine wp_seq_k ?_; intro Kq6 hKq6)
      refine wp_block ?_
      (refine wp_seq_k ?_; intro Kq7 hKq7)
      (have hi21 : i < signsL.length := (by show i < 21; omega); have hx : signsV[i]? = some (.string (bs (signsL[i]'hi21))) := (by unfold signsV; rw [List.getElem?_map, List.getElem?_eq_getElem hi21]; rfl))
      refine wp_region_lit ?_
      (refine wpl_v S rfl rfl rfl (sv_indexA S rfl rfl rfl (by omega) hx) ?_; clear S a; intro a S)
      (refine wpl_v S rfl rfl rfl (sv_pure S rfl) ?_; clear S a; intro a S)
      refine wpList_nil ?_
      (refine hKq7 _ _ ?_; try (clear hKq7 Kq7))
      (refine wp_seq_k ?_; intro Kq8 hKq8)
      refine wp_region_lit ?_
      (refine wpl_v S rfl rfl rfl (sv_pure S rfl) ?_; clear S a; intro a S)
      (refine wpl_v S rfl rfl rfl (sv_nilCheck S rfl rfl) ?_; clear S a; intro a S)
      (refine wpl_v S rfl rfl rfl (sv_fieldAddr S rfl rfl rfl inferInstance rfl) ?_; clear S a; intro a S)
      first | (refine wpl_v S rfl rfl rfl (sv_loadO S rfl rfl (by rfl)) ?_; clear S a; intro a S) | (refine wpl_v S rfl rfl rfl (sv_loadF S rfl rfl (by assumption)) ?_; clear S a; intro a S)
      (refine wpl_v S rfl rfl rfl (sv_pure S rfl) ?_; clear S a; intro a S)
      (refine wpl_call0 S rfl rfl rfl rfl rfl rfl (prefixCt r (signsL[i]'hi21) F) rfl ?_; clear S a; intro v a w hv S; subst hv)
      refine wpList_nil ?_
      (refine hKq8 _ _ ?_; try (clear hKq8 Kq8))
      refine wpc_split S rfl (fun h => ?_) (fun h => ?_)
      · (skip; (try simp only [decide_eq_true_eq, decide_eq_false_iff_not, beq_iff_eq, bne_iff_ne, bne_eq_false_iff_eq, beq_eq_false_iff_ne, ne_eq, Bool.not_eq_true', Bool.not_eq_false', Bool.not_eq_true, Bool.not_eq_false, Bool.not_true, Bool.not_false, Int.ofNat_lt, Int.ofNat_le, Nat.not_lt, Nat.not_le] at h))
        (refine wp_seq_k ?_; intro Kq9 hKq9)
        refine wp_region_lit ?_
        (refine wpl_v S rfl rfl rfl (sv_pure S rfl) ?_; clear S a; intro a S)
        (refine wpl_v S rfl rfl rfl (sv_lenS S rfl rfl) ?_; clear S a; intro a S)
        (refine wpl_v S rfl rfl rfl (sv_pure S rfl) ?_; clear S a; intro a S)
        (refine wpl_v S rfl rfl rfl (sv_build S rfl rfl rfl) ?_; clear S a; intro a S)
        (refine wpl_storeO S rfl rfl rfl rfl rfl (by rfl) (by simp [Value.cells, Value.oneCell', fdV, splice]) (by rfl) ?_; clear S; intro w S)
        (refine wpl_v S rfl rfl rfl (sv_pure S rfl) ?_; clear S a; intro a S)
        refine wpList_nil ?_
        (refine hKq9 _ _ ?_; try (clear hKq9 Kq9))
        refine wp_ret ?_
        refine fin_ret S (results2 Tryd.results33 (RV.cellO S rfl (by rfl)) (RV.tmp S rfl)) ?_
        (first | (refine Tried.yes ⟨_, _, _, _⟩ rfl ⟨_, (by unfold signO; rw [find_at hi21 (fun j hj => hall j hj _) (by assumption)]; rfl), rfl, fun _ => rfl⟩) | (refine Tried.no ⟨_, _, _, _⟩ rfl (by unfold signO; rw [find_no (fun j hj => hall j (by have : j < 21 := hj; omega) hj)]; rfl)))
      · (skip; (try simp only [decide_eq_true_eq, decide_eq_false_iff_not, beq_iff_eq, bne_iff_ne, bne_eq_false_iff_eq, beq_eq_false_iff_ne, ne_eq, Bool.not_eq_true', Bool.not_eq_false', Bool.not_eq_true, Bool.not_eq_false, Bool.not_true, Bool.not_false, Int.ofNat_lt, Int.ofNat_le, Nat.not_lt, Nat.not_le] at h))
        refine wp_skip ?_
        (refine hKq6 _ _ ?_; try (clear hKq6 Kq6))
        refine wp_region_lit ?_
        (refine wpl_v S rfl rfl rfl (sv_add S rfl rfl rfl (by first | omega | (simp only [List.length_append, List.length_cons, List.length_nil]; omega))) ?_; clear S a; intro a S)
        (refine wpl_v S rfl rfl rfl (sv_pure S rfl) ?_; clear S a; intro a S)
        refine wpList_nil ?_
        change ∃ m', _ ∧ _
        (refine ⟨21 - (i + 1), by omega, i + 1, rfl, by omega, fun j hj hj2 => (by rcases Nat.lt_or_eq_of_le (Nat.le_of_lt_succ hj) with h9 | h9; exact hall j h9 hj2; subst h9; assumption), ?_⟩; refine S.keep ?_; repeat (first | exact trivial | refine ⟨rfl, ?_⟩))
    · (skip; (try simp only [decide_eq_true_eq, decide_eq_false_iff_not, beq_iff_eq, bne_iff_ne, bne_eq_false_iff_eq, beq_eq_false_iff_ne, ne_eq, Bool.not_eq_true', Bool.not_eq_false', Bool.not_eq_true, Bool.not_eq_false, Bool.not_true, Bool.not_false, Int.ofNat_lt, Int.ofNat_le, Nat.not_lt, Nat.not_le] at h))
      refine wp_exit ?_
      (refine hKq2 _ _ ?_; try (clear hKq2 Kq2))
      (refine wp_seq_k ?_; intro Kq6 hKq6)
      refine wp_region_lit ?_
      (refine wpl_v S rfl rfl rfl (sv_build S rfl rfl rfl) ?_; clear S a; intro a S)
      (refine wpl_storeO S rfl rfl rfl rfl rfl (by rfl) (by simp [Value.cells, Value.oneCell', fdV, splice]) (by rfl) ?_; clear S; intro w S)
      (refine wpl_v S rfl rfl rfl (sv_pure S rfl) ?_; clear S a; intro a S)
      refine wpList_nil ?_
      (refine hKq6 _ _ ?_; try (clear hKq6 Kq6))
      refine wp_ret ?_
      refine fin_ret S (results2 Tryd.results33 (RV.cellO S rfl (by rfl)) (RV.tmp S rfl)) ?_
      (first | (refine Tried.yes ⟨_, _, _, _⟩ rfl ⟨_, (by unfold signO; rw [find_at hi21 (fun j hj => hall j hj _) (by assumption)]; rfl), rfl, fun _ => rfl⟩) | (refine Tried.no ⟨_, _, _, _⟩ rfl (by unfold signO; rw [find_no (fun j hj => hall j (by have : j < 21 := hj; omega) hj)]; rfl)))

theorem hexT : ∀ n : Fin 256, Lib.indexByte [48, 49, 50, 51, 52, 53, 54, 55, 56, 57, 97, 98, 99, 100, 101, 102] (UInt8.ofNat n.val) = hexI (UInt8.ofNat n.val) := by decide +kernel
theorem hex_eq (c : UInt8) : Lib.indexByte [48, 49, 50, 51, 52, 53, 54, 55, 56, 57, 97, 98, 99, 100, 101, 102] c = hexI c := by
  have := hexT ⟨c.toNat, c.toNat_lt⟩
  simpa using this
theorem indexByteCt (s : List UInt8) (c : UInt8) (F : Heap) : Ct Tryd.prog 66 [.string (bs s), .int .u8 c.toNat] F [] (fun _ _ u => u = .int .i64 (Lib.indexByte s c)) := by
  refine ct_of_below fun w hw => ?_
  refine (Tryd.strings_IndexByte (bs s) c.toNat w).mono fun e w' ⟨h1, h2⟩ => ⟨?_, by subst h2; exact RowKit.Below.refl _ _⟩
  rw [h1]
  have : ((c.toNat : Int).toNat).toUInt8 = c := by simp
  rw [this]; rfl
set_option maxHeartbeats 1000000 in
theorem hexCt (c : UInt8) (F : Heap) : Ct Tryd.prog 61 [.int .u8 c.toNat] F [] (fun _ _ u => u = .int .i64 (hexI c)) := by
  refine Ct.enter Tryd.func61 rfl Tryd.ntmps61 rfl fun w0 a S => ?_
  (refine wp_seq_k ?_; intro Kq1 hKq1)
  refine wp_region_lit ?_
  (refine wpl_v S rfl rfl rfl (sv_pure S rfl) ?_; clear S a; intro a S)
  refine wpList_nil ?_
  (refine hKq1 _ _ ?_; try (clear hKq1 Kq1))
  (refine wp_seq_k ?_; intro Kq2 hKq2)
  refine wp_region_lit ?_
  (refine wpl_v S rfl rfl rfl (sv_pure S rfl) ?_; clear S a; intro a S)
  (refine wpl_call0 S rfl rfl rfl rfl rfl rfl (indexByteCt [48, 49, 50, 51, 52, 53, 54, 55, 56, 57, 97, 98, 99, 100, 101, 102] c F) rfl ?_; clear S a; intro v a w hv S; subst hv)
  (refine wpl_v S rfl rfl rfl (sv_pure S rfl) ?_; clear S a; intro a S)
  refine wpList_nil ?_
  (refine hKq2 _ _ ?_; try (clear hKq2 Kq2))
  refine wp_ret ?_
  refine fin_ret S (results1 Tryd.results61 (RV.tmp S rfl)) ?_
  (rw [hex_eq])

def markV (o : Option (UInt8 × Nat)) : Value := match o with | some (c, k) => .tuple ⟨[.int .u8 c.toNat, .int .i64 k]⟩ | none => .tuple ⟨[.int .u8 0, .int .i64 0]⟩
theorem hexByte {x y : UInt8} (hx : 0 ≤ hexI x) (hy : 0 ≤ hexI y) : (16 * hexI x + hexI y : Int) = ((UInt8.ofNat (16 * (hexI x).toNat + (hexI y).toNat)).toNat : Nat) := by
  have h1 := hexI_le x
  have h2 := hexI_le y
  rw [UInt8.toNat_ofNat']
  omega
set_option maxHeartbeats 2000000 in
theorem markCt (r : List UInt8) (F : Heap) (hs : r.length ≤ 1000000000) : Ct Tryd.prog 52 [.string (bs r)] F [] (fun _ _ u => u = markV (markQ r)) := by
  have hl : r = [] ∨ 0 < r.length := by cases r <;> simp
  have hx2 := hexI_le (r.getD 2 0)
  have hx3 := hexI_le (r.getD 3 0)
  refine Ct.enter Tryd.func52 rfl Tryd.ntmps52 rfl fun w0 a S => ?_
  (refine wp_seq_k ?_; intro Kq1 hKq1)
  refine wp_region_lit ?_
  (refine wpl_v S rfl rfl rfl (sv_pure S rfl) ?_; clear S a; intro a S)
  (refine wpl_v S rfl rfl rfl (sv_pure S rfl) ?_; clear S a; intro a S)
  refine wpList_nil ?_
  (refine hKq1 _ _ ?_; try (clear hKq1 Kq1))
  (refine wp_seq_k ?_; intro Kq2 hKq2)
  refine wp_block ?_
  (refine wp_seq_k ?_; intro Kq3 hKq3)
  refine wp_region_lit ?_
  (refine wpl_v S rfl rfl rfl (sv_pure S rfl) ?_; clear S a; intro a S)
  (refine wpl_v S rfl rfl rfl (sv_pure S rfl) ?_; clear S a; intro a S)
  (refine wpl_v S rfl rfl rfl (sv_pure S rfl) ?_; clear S a; intro a S)
  refine wpl_guard S rfl rfl rfl rfl rfl ?_ ?_
  · (intro h S'; clear S; have S := S'; clear S'; (try simp only [decide_eq_true_eq, decide_eq_false_iff_not, beq_iff_eq, bne_iff_ne, bne_eq_false_iff_eq, beq_eq_false_iff_ne, ne_eq, Bool.not_eq_true', Bool.not_eq_false', Bool.not_eq_true, Bool.not_eq_false, Bool.not_true, Bool.not_false, Int.ofNat_lt, Int.ofNat_le, Nat.not_lt, Nat.not_le] at h))
    (refine wpl_v S rfl rfl rfl (sv_pure S rfl) ?_; clear S a; intro a S)
    refine wpl_take S rfl rfl rfl ?_
    (refine wpl_v S rfl rfl rfl (sv_indexSN (i := 0) S rfl rfl rfl (by first | omega | (rcases hl with hl | hl <;> first | contradiction | omega))) ?_; clear S a; intro a S)
    refine wpl_take S rfl rfl rfl ?_
    (refine wpl_v S rfl rfl rfl (sv_pure S rfl) ?_; clear S a; intro a S)
    first | (refine wpl_v S rfl rfl rfl (sv_pure S rfl) ?_; clear S a; intro a S) | (refine wpl_v S rfl rfl rfl (sv_pickB S rfl rfl rfl rfl) ?_; clear S a; intro a S)
    (refine wpl_v S rfl rfl rfl (sv_pure S rfl) ?_; clear S a; intro a S)
    refine wpl_guard S rfl rfl rfl rfl rfl ?_ ?_
    · (intro h S'; clear S; have S := S'; clear S'; (try simp only [decide_eq_true_eq, decide_eq_false_iff_not, beq_iff_eq, bne_iff_ne, bne_eq_false_iff_eq, beq_eq_false_iff_ne, ne_eq, Bool.not_eq_true', Bool.not_eq_false', Bool.not_eq_true, Bool.not_eq_false, Bool.not_true, Bool.not_false, Int.ofNat_lt, Int.ofNat_le, Nat.not_lt, Nat.not_le] at h))
      (refine wpl_v S rfl rfl rfl (sv_pure S rfl) ?_; clear S a; intro a S)
      refine wpl_take S rfl rfl rfl ?_
      (refine wpl_v S rfl rfl rfl (sv_indexSN (i := 0) S rfl rfl rfl (by first | omega | (rcases hl with hl | hl <;> first | contradiction | omega))) ?_; clear S a; intro a S)
      refine wpl_take S rfl rfl rfl ?_
      (refine wpl_v S rfl rfl rfl (sv_pure S rfl) ?_; clear S a; intro a S)
      first | (refine wpl_v S rfl rfl rfl (sv_pure S rfl) ?_; clear S a; intro a S) | (refine wpl_v S rfl rfl rfl (sv_pickB S rfl rfl rfl rfl) ?_; clear S a; intro a S)
      (refine wpl_v S rfl rfl rfl (sv_pure S rfl) ?_; clear S a; intro a S)
      refine wpl_guard S rfl rfl rfl rfl rfl ?_ ?_
      · (intro h S'; clear S; have S := S'; clear S'; (try simp only [decide_eq_true_eq, decide_eq_false_iff_not, beq_iff_eq, bne_iff_ne, bne_eq_false_iff_eq, beq_eq_false_iff_ne, ne_eq, Bool.not_eq_true', Bool.not_eq_false', Bool.not_eq_true, Bool.not_eq_false, Bool.not_true, Bool.not_false, Int.ofNat_lt, Int.ofNat_le, Nat.not_lt, Nat.not_le] at h))
        (refine wpl_v S rfl rfl rfl (sv_pure S rfl) ?_; clear S a; intro a S)
        refine wpl_take S rfl rfl rfl ?_
        (refine wpl_v S rfl rfl rfl (sv_indexSN (i := 0) S rfl rfl rfl (by first | omega | (rcases hl with hl | hl <;> first | contradiction | omega))) ?_; clear S a; intro a S)
        refine wpl_take S rfl rfl rfl ?_
        (refine wpl_v S rfl rfl rfl (sv_pure S rfl) ?_; clear S a; intro a S)
        first | (refine wpl_v S rfl rfl rfl (sv_pure S rfl) ?_; clear S a; intro a S) | (refine wpl_v S rfl rfl rfl (sv_pickB S rfl rfl rfl rfl) ?_; clear S a; intro a S)
        (refine wpl_v S rfl rfl rfl (sv_pure S rfl) ?_; clear S a; intro a S)
        refine wpList_nil ?_
        (refine hKq3 _ _ ?_; try (clear hKq3 Kq3))
        refine wpc_split S rfl (fun h => ?_) (fun h => ?_)
        · (skip; (try simp only [decide_eq_true_eq, decide_eq_false_iff_not, beq_iff_eq, bne_iff_ne, bne_eq_false_iff_eq, beq_eq_false_iff_ne, ne_eq, Bool.not_eq_true', Bool.not_eq_false', Bool.not_eq_true, Bool.not_eq_false, Bool.not_true, Bool.not_false, Int.ofNat_lt, Int.ofNat_le, Nat.not_lt, Nat.not_le] at h))
          (refine wp_seq_k ?_; intro Kq4 hKq4)
          refine wp_region_lit ?_
          (refine wpl_v S rfl rfl rfl (sv_pure S rfl) ?_; clear S a; intro a S)
          (refine wpl_v S rfl rfl rfl (sv_pure S rfl) ?_; clear S a; intro a S)
          refine wpList_nil ?_
          (refine hKq4 _ _ ?_; try (clear hKq4 Kq4))
          refine wp_ret ?_
          refine fin_ret S (results2 Tryd.results52 (RV.tmp S rfl) (RV.tmp S rfl)) ?_
          (unfold markQ; (repeat' split) <;> first | rfl | (rw [hexByte (by omega) (by omega)]; rfl) | (exfalso; omega) | (exfalso; simp_all; done) | (exfalso; simp_all; omega))
        · (skip; (try simp only [decide_eq_true_eq, decide_eq_false_iff_not, beq_iff_eq, bne_iff_ne, bne_eq_false_iff_eq, beq_eq_false_iff_ne, ne_eq, Bool.not_eq_true', Bool.not_eq_false', Bool.not_eq_true, Bool.not_eq_false, Bool.not_true, Bool.not_false, Int.ofNat_lt, Int.ofNat_le, Nat.not_lt, Nat.not_le] at h))
          (refine wp_seq_k ?_; intro Kq4 hKq4)
          refine wp_region_lit ?_
          (refine wpl_v S rfl rfl rfl (sv_pure S rfl) ?_; clear S a; intro a S)
          (refine wpl_v S rfl rfl rfl (sv_indexSN (i := 0) S rfl rfl rfl (by first | omega | (rcases hl with hl | hl <;> first | contradiction | omega))) ?_; clear S a; intro a S)
          (refine wpl_v S rfl rfl rfl (sv_pure S rfl) ?_; clear S a; intro a S)
          (refine wpl_v S rfl rfl rfl (sv_pure S rfl) ?_; clear S a; intro a S)
          refine wpList_nil ?_
          (refine hKq4 _ _ ?_; try (clear hKq4 Kq4))
          refine wpc_split S rfl (fun h => ?_) (fun h => ?_)
          · (skip; (try simp only [decide_eq_true_eq, decide_eq_false_iff_not, beq_iff_eq, bne_iff_ne, bne_eq_false_iff_eq, beq_eq_false_iff_ne, ne_eq, Bool.not_eq_true', Bool.not_eq_false', Bool.not_eq_true, Bool.not_eq_false, Bool.not_true, Bool.not_false, Int.ofNat_lt, Int.ofNat_le, Nat.not_lt, Nat.not_le] at h))
            (refine wp_seq_k ?_; intro Kq5 hKq5)
            refine wp_region_lit ?_
            (refine wpl_v S rfl rfl rfl (sv_pure S rfl) ?_; clear S a; intro a S)
            (refine wpl_v S rfl rfl rfl (sv_indexSN (i := 0) S rfl rfl rfl (by first | omega | (rcases hl with hl | hl <;> first | contradiction | omega))) ?_; clear S a; intro a S)
            (refine wpl_v S rfl rfl rfl (sv_pure S rfl) ?_; clear S a; intro a S)
            (refine wpl_v S rfl rfl rfl (sv_pure S rfl) ?_; clear S a; intro a S)
            refine wpList_nil ?_
            (refine hKq5 _ _ ?_; try (clear hKq5 Kq5))
            refine wp_ret ?_
            refine fin_ret S (results2 Tryd.results52 (RV.tmp S rfl) (RV.tmp S rfl)) ?_
            (unfold markQ; (repeat' split) <;> first | rfl | (rw [hexByte (by omega) (by omega)]; rfl) | (exfalso; omega) | (exfalso; simp_all; done) | (exfalso; simp_all; omega))
          · (skip; (try simp only [decide_eq_true_eq, decide_eq_false_iff_not, beq_iff_eq, bne_iff_ne, bne_eq_false_iff_eq, beq_eq_false_iff_ne, ne_eq, Bool.not_eq_true', Bool.not_eq_false', Bool.not_eq_true, Bool.not_eq_false, Bool.not_true, Bool.not_false, Int.ofNat_lt, Int.ofNat_le, Nat.not_lt, Nat.not_le] at h))
            (refine wp_seq_k ?_; intro Kq5 hKq5)
            refine wp_region_lit ?_
            (refine wpl_v S rfl rfl rfl (sv_pure S rfl) ?_; clear S a; intro a S)
            (refine wpl_v S rfl rfl rfl (sv_lenS S rfl rfl) ?_; clear S a; intro a S)
            (refine wpl_v S rfl rfl rfl (sv_pure S rfl) ?_; clear S a; intro a S)
            (refine wpl_v S rfl rfl rfl (sv_pure S rfl) ?_; clear S a; intro a S)
            refine wpList_nil ?_
            (refine hKq5 _ _ ?_; try (clear hKq5 Kq5))
            refine wpc_split S rfl (fun h => ?_) (fun h => ?_)
            · (skip; (try simp only [decide_eq_true_eq, decide_eq_false_iff_not, beq_iff_eq, bne_iff_ne, bne_eq_false_iff_eq, beq_eq_false_iff_ne, ne_eq, Bool.not_eq_true', Bool.not_eq_false', Bool.not_eq_true, Bool.not_eq_false, Bool.not_true, Bool.not_false, Int.ofNat_lt, Int.ofNat_le, Nat.not_lt, Nat.not_le] at h))
              (refine wp_seq_k ?_; intro Kq6 hKq6)
              refine wp_region_lit ?_
              (refine wpl_v S rfl rfl rfl (sv_pure S rfl) ?_; clear S a; intro a S)
              (refine wpl_v S rfl rfl rfl (sv_pure S rfl) ?_; clear S a; intro a S)
              refine wpList_nil ?_
              (refine hKq6 _ _ ?_; try (clear hKq6 Kq6))
              refine wp_ret ?_
              refine fin_ret S (results2 Tryd.results52 (RV.tmp S rfl) (RV.tmp S rfl)) ?_
              (unfold markQ; (repeat' split) <;> first | rfl | (rw [hexByte (by omega) (by omega)]; rfl) | (exfalso; omega) | (exfalso; simp_all; done) | (exfalso; simp_all; omega))
            · (skip; (try simp only [decide_eq_true_eq, decide_eq_false_iff_not, beq_iff_eq, bne_iff_ne, bne_eq_false_iff_eq, beq_eq_false_iff_ne, ne_eq, Bool.not_eq_true', Bool.not_eq_false', Bool.not_eq_true, Bool.not_eq_false, Bool.not_true, Bool.not_false, Int.ofNat_lt, Int.ofNat_le, Nat.not_lt, Nat.not_le] at h))
              refine wp_skip ?_
              (refine hKq2 _ _ ?_; try (clear hKq2 Kq2))
              (refine wp_seq_k ?_; intro Kq6 hKq6)
              (refine wp_seq_k ?_; intro Kq7 hKq7)
              refine wp_region_lit ?_
              (refine wpl_v S rfl rfl rfl (sv_pure S rfl) ?_; clear S a; intro a S)
              (refine wpl_v S rfl rfl rfl (sv_indexSN (i := 1) S rfl rfl rfl (by first | omega | (rcases hl with hl | hl <;> first | contradiction | omega))) ?_; clear S a; intro a S)
              refine wpList_nil ?_
              (refine hKq7 _ _ ?_; try (clear hKq7 Kq7))
              refine wp_block ?_
              (refine wp_seq_k ?_; intro Kq8 hKq8)
              (refine wp_seq_k ?_; intro Kq9 hKq9)
              refine wp_region_lit ?_
              (refine wpl_v S rfl rfl rfl (sv_pure S rfl) ?_; clear S a; intro a S)
              (refine wpl_v S rfl rfl rfl (sv_pure S rfl) ?_; clear S a; intro a S)
              refine wpList_nil ?_
              (refine hKq9 _ _ ?_; try (clear hKq9 Kq9))
              refine wpc_split S rfl (fun h => ?_) (fun h => ?_)
              · (skip; (try simp only [decide_eq_true_eq, decide_eq_false_iff_not, beq_iff_eq, bne_iff_ne, bne_eq_false_iff_eq, beq_eq_false_iff_ne, ne_eq, Bool.not_eq_true', Bool.not_eq_false', Bool.not_eq_true, Bool.not_eq_false, Bool.not_true, Bool.not_false, Int.ofNat_lt, Int.ofNat_le, Nat.not_lt, Nat.not_le] at h))
                refine wp_skip ?_
                (refine hKq8 _ _ ?_; try (clear hKq8 Kq8))
                refine wpc_split S rfl (fun h => ?_) (fun h => ?_)
                · (skip; (try simp only [decide_eq_true_eq, decide_eq_false_iff_not, beq_iff_eq, bne_iff_ne, bne_eq_false_iff_eq, beq_eq_false_iff_ne, ne_eq, Bool.not_eq_true', Bool.not_eq_false', Bool.not_eq_true, Bool.not_eq_false, Bool.not_true, Bool.not_false, Int.ofNat_lt, Int.ofNat_le, Nat.not_lt, Nat.not_le] at h))
                  (refine wp_seq_k ?_; intro Kq10 hKq10)
                  refine wp_region_lit ?_
                  (refine wpl_v S rfl rfl rfl (sv_pure S rfl) ?_; clear S a; intro a S)
                  (refine wpl_v S rfl rfl rfl (sv_indexSN (i := 1) S rfl rfl rfl (by first | omega | (rcases hl with hl | hl <;> first | contradiction | omega))) ?_; clear S a; intro a S)
                  (refine wpl_v S rfl rfl rfl (sv_pure S rfl) ?_; clear S a; intro a S)
                  (refine wpl_v S rfl rfl rfl (sv_pure S rfl) ?_; clear S a; intro a S)
                  refine wpList_nil ?_
                  (refine hKq10 _ _ ?_; try (clear hKq10 Kq10))
                  refine wp_ret ?_
                  refine fin_ret S (results2 Tryd.results52 (RV.tmp S rfl) (RV.tmp S rfl)) ?_
                  (unfold markQ; (repeat' split) <;> first | rfl | (rw [hexByte (by omega) (by omega)]; rfl) | (exfalso; omega) | (exfalso; simp_all; done) | (exfalso; simp_all; omega))
                · (skip; (try simp only [decide_eq_true_eq, decide_eq_false_iff_not, beq_iff_eq, bne_iff_ne, bne_eq_false_iff_eq, beq_eq_false_iff_ne, ne_eq, Bool.not_eq_true', Bool.not_eq_false', Bool.not_eq_true, Bool.not_eq_false, Bool.not_true, Bool.not_false, Int.ofNat_lt, Int.ofNat_le, Nat.not_lt, Nat.not_le] at h))
                  (refine wp_seq_k ?_; intro Kq10 hKq10)
                  refine wp_region_lit ?_
                  (refine wpl_v S rfl rfl rfl (sv_pure S rfl) ?_; clear S a; intro a S)
                  (refine wpl_v S rfl rfl rfl (sv_pure S rfl) ?_; clear S a; intro a S)
                  refine wpList_nil ?_
                  (refine hKq10 _ _ ?_; try (clear hKq10 Kq10))
                  refine wpc_split S rfl (fun h => ?_) (fun h => ?_)
                  · (skip; (try simp only [decide_eq_true_eq, decide_eq_false_iff_not, beq_iff_eq, bne_iff_ne, bne_eq_false_iff_eq, beq_eq_false_iff_ne, ne_eq, Bool.not_eq_true', Bool.not_eq_false', Bool.not_eq_true, Bool.not_eq_false, Bool.not_true, Bool.not_false, Int.ofNat_lt, Int.ofNat_le, Nat.not_lt, Nat.not_le] at h))
                    (refine wp_seq_k ?_; intro Kq11 hKq11)
                    refine wp_region_lit ?_
                    (refine wpl_v S rfl rfl rfl (sv_pure S rfl) ?_; clear S a; intro a S)
                    (refine wpl_v S rfl rfl rfl (sv_pure S rfl) ?_; clear S a; intro a S)
                    refine wpList_nil ?_
                    (refine hKq11 _ _ ?_; try (clear hKq11 Kq11))
                    refine wp_ret ?_
                    refine fin_ret S (results2 Tryd.results52 (RV.tmp S rfl) (RV.tmp S rfl)) ?_
                    (unfold markQ; (repeat' split) <;> first | rfl | (rw [hexByte (by omega) (by omega)]; rfl) | (exfalso; omega) | (exfalso; simp_all; done) | (exfalso; simp_all; omega))
                  · (skip; (try simp only [decide_eq_true_eq, decide_eq_false_iff_not, beq_iff_eq, bne_iff_ne, bne_eq_false_iff_eq, beq_eq_false_iff_ne, ne_eq, Bool.not_eq_true', Bool.not_eq_false', Bool.not_eq_true, Bool.not_eq_false, Bool.not_true, Bool.not_false, Int.ofNat_lt, Int.ofNat_le, Nat.not_lt, Nat.not_le] at h))
                    (refine wp_seq_k ?_; intro Kq11 hKq11)
                    refine wp_region_lit ?_
                    (refine wpl_v S rfl rfl rfl (sv_pure S rfl) ?_; clear S a; intro a S)
                    (refine wpl_v S rfl rfl rfl (sv_pure S rfl) ?_; clear S a; intro a S)
                    refine wpList_nil ?_
                    (refine hKq11 _ _ ?_; try (clear hKq11 Kq11))
                    refine wpc_split S rfl (fun h => ?_) (fun h => ?_)
                    · (skip; (try simp only [decide_eq_true_eq, decide_eq_false_iff_not, beq_iff_eq, bne_iff_ne, bne_eq_false_iff_eq, beq_eq_false_iff_ne, ne_eq, Bool.not_eq_true', Bool.not_eq_false', Bool.not_eq_true, Bool.not_eq_false, Bool.not_true, Bool.not_false, Int.ofNat_lt, Int.ofNat_le, Nat.not_lt, Nat.not_le] at h))
                      (refine wp_seq_k ?_; intro Kq12 hKq12)
                      refine wp_region_lit ?_
                      (refine wpl_v S rfl rfl rfl (sv_pure S rfl) ?_; clear S a; intro a S)
                      (refine wpl_v S rfl rfl rfl (sv_pure S rfl) ?_; clear S a; intro a S)
                      refine wpList_nil ?_
                      (refine hKq12 _ _ ?_; try (clear hKq12 Kq12))
                      refine wp_ret ?_
                      refine fin_ret S (results2 Tryd.results52 (RV.tmp S rfl) (RV.tmp S rfl)) ?_
                      (unfold markQ; (repeat' split) <;> first | rfl | (rw [hexByte (by omega) (by omega)]; rfl) | (exfalso; omega) | (exfalso; simp_all; done) | (exfalso; simp_all; omega))
                    · (skip; (try simp only [decide_eq_true_eq, decide_eq_false_iff_not, beq_iff_eq, bne_iff_ne, bne_eq_false_iff_eq, beq_eq_false_iff_ne, ne_eq, Bool.not_eq_true', Bool.not_eq_false', Bool.not_eq_true, Bool.not_eq_false, Bool.not_true, Bool.not_false, Int.ofNat_lt, Int.ofNat_le, Nat.not_lt, Nat.not_le] at h))
                      (refine wp_seq_k ?_; intro Kq12 hKq12)
                      refine wp_region_lit ?_
                      (refine wpl_v S rfl rfl rfl (sv_pure S rfl) ?_; clear S a; intro a S)
                      (refine wpl_v S rfl rfl rfl (sv_pure S rfl) ?_; clear S a; intro a S)
                      refine wpList_nil ?_
                      (refine hKq12 _ _ ?_; try (clear hKq12 Kq12))
                      refine wpc_split S rfl (fun h => ?_) (fun h => ?_)
                      · (skip; (try simp only [decide_eq_true_eq, decide_eq_false_iff_not, beq_iff_eq, bne_iff_ne, bne_eq_false_iff_eq, beq_eq_false_iff_ne, ne_eq, Bool.not_eq_true', Bool.not_eq_false', Bool.not_eq_true, Bool.not_eq_false, Bool.not_true, Bool.not_false, Int.ofNat_lt, Int.ofNat_le, Nat.not_lt, Nat.not_le] at h))
                        (refine wp_seq_k ?_; intro Kq13 hKq13)
                        refine wp_region_lit ?_
                        (refine wpl_v S rfl rfl rfl (sv_pure S rfl) ?_; clear S a; intro a S)
                        (refine wpl_v S rfl rfl rfl (sv_lenS S rfl rfl) ?_; clear S a; intro a S)
                        (refine wpl_v S rfl rfl rfl (sv_pure S rfl) ?_; clear S a; intro a S)
                        (refine wpl_v S rfl rfl rfl (sv_pure S rfl) ?_; clear S a; intro a S)
                        refine wpl_guard S rfl rfl rfl rfl rfl ?_ ?_
                        · (intro h S'; clear S; have S := S'; clear S'; (try simp only [decide_eq_true_eq, decide_eq_false_iff_not, beq_iff_eq, bne_iff_ne, bne_eq_false_iff_eq, beq_eq_false_iff_ne, ne_eq, Bool.not_eq_true', Bool.not_eq_false', Bool.not_eq_true, Bool.not_eq_false, Bool.not_true, Bool.not_false, Int.ofNat_lt, Int.ofNat_le, Nat.not_lt, Nat.not_le] at h))
                          (refine wpl_v S rfl rfl rfl (sv_pure S rfl) ?_; clear S a; intro a S)
                          refine wpl_take S rfl rfl rfl ?_
                          (refine wpl_v S rfl rfl rfl (sv_indexSN (i := 2) S rfl rfl rfl (by first | omega | (rcases hl with hl | hl <;> first | contradiction | omega))) ?_; clear S a; intro a S)
                          refine wpl_take S rfl rfl rfl ?_
                          ((first | (refine wpl_call0 S rfl rfl rfl rfl rfl rfl (hexCt (r.getD 2 0) F) rfl ?_) | (refine wpl_call0 S rfl rfl rfl rfl rfl rfl (hexCt (r.getD 3 0) F) rfl ?_)); clear S a; intro v a w hv S; subst hv)
                          refine wpl_take S rfl rfl rfl ?_
                          (refine wpl_v S rfl rfl rfl (sv_pure S rfl) ?_; clear S a; intro a S)
                          first | (refine wpl_v S rfl rfl rfl (sv_pure S rfl) ?_; clear S a; intro a S) | (refine wpl_v S rfl rfl rfl (sv_pickB S rfl rfl rfl rfl) ?_; clear S a; intro a S)
                          (refine wpl_v S rfl rfl rfl (sv_pure S rfl) ?_; clear S a; intro a S)
                          refine wpl_guard S rfl rfl rfl rfl rfl ?_ ?_
                          · (intro h S'; clear S; have S := S'; clear S'; (try simp only [decide_eq_true_eq, decide_eq_false_iff_not, beq_iff_eq, bne_iff_ne, bne_eq_false_iff_eq, beq_eq_false_iff_ne, ne_eq, Bool.not_eq_true', Bool.not_eq_false', Bool.not_eq_true, Bool.not_eq_false, Bool.not_true, Bool.not_false, Int.ofNat_lt, Int.ofNat_le, Nat.not_lt, Nat.not_le] at h))
                            (refine wpl_v S rfl rfl rfl (sv_pure S rfl) ?_; clear S a; intro a S)
                            refine wpl_take S rfl rfl rfl ?_
                            (refine wpl_v S rfl rfl rfl (sv_indexSN (i := 3) S rfl rfl rfl (by first | omega | (rcases hl with hl | hl <;> first | contradiction | omega))) ?_; clear S a; intro a S)
                            refine wpl_take S rfl rfl rfl ?_
                            ((first | (refine wpl_call0 S rfl rfl rfl rfl rfl rfl (hexCt (r.getD 2 0) F) rfl ?_) | (refine wpl_call0 S rfl rfl rfl rfl rfl rfl (hexCt (r.getD 3 0) F) rfl ?_)); clear S a; intro v a w hv S; subst hv)
                            refine wpl_take S rfl rfl rfl ?_
                            (refine wpl_v S rfl rfl rfl (sv_pure S rfl) ?_; clear S a; intro a S)
                            first | (refine wpl_v S rfl rfl rfl (sv_pure S rfl) ?_; clear S a; intro a S) | (refine wpl_v S rfl rfl rfl (sv_pickB S rfl rfl rfl rfl) ?_; clear S a; intro a S)
                            refine wpList_nil ?_
                            (refine hKq13 _ _ ?_; try (clear hKq13 Kq13))
                            refine wpc_split S rfl (fun h => ?_) (fun h => ?_)
                            · (skip; (try simp only [decide_eq_true_eq, decide_eq_false_iff_not, beq_iff_eq, bne_iff_ne, bne_eq_false_iff_eq, beq_eq_false_iff_ne, ne_eq, Bool.not_eq_true', Bool.not_eq_false', Bool.not_eq_true, Bool.not_eq_false, Bool.not_true, Bool.not_false, Int.ofNat_lt, Int.ofNat_le, Nat.not_lt, Nat.not_le] at h))
                              (refine wp_seq_k ?_; intro Kq14 hKq14)
                              (refine wpc_mixM [0, 1, 3, 4, 5, 7, 8] [] [] (.one 0 (.one 1 (.one 4 (.one 5 (.one 2 (.one 3 (.one 6 (.one 7 (.one 8 (.one 9 (.one 10 .nil))))))))))) [] S mixed (by kernel_rfl) ?_; clear S; intro w S)
                              (refine wpm_v S rfl rfl rfl (want_none _ rfl) rfl rfl (fun w' S => sv_pure S rfl) ?_; clear S a; intro a S)
                              (refine wpm_v S rfl rfl rfl (want_none _ rfl) rfl rfl (fun w' S => sv_indexSN (i := 2) S rfl rfl rfl (by first | omega | (rcases hl with hl | hl <;> first | contradiction | omega))) ?_; clear S a; intro a S)
                              (refine wpm_v S rfl rfl rfl (want_none _ rfl) rfl rfl (fun w' S => sv_pure S rfl) ?_; clear S a; intro a S)
                              (refine wpm_v S rfl rfl rfl (want_none _ rfl) rfl rfl (fun w' S => sv_indexSN (i := 3) S rfl rfl rfl (by first | omega | (rcases hl with hl | hl <;> first | contradiction | omega))) ?_; clear S a; intro a S)
                              refine wpm_eff rfl rfl (fun _ => ⟨fun b o h => S.tr.frz b o (by first | exact h | solve_by_elim), trivial⟩) ?_
                              ((first | (refine wpl_call0 S rfl rfl rfl rfl rfl rfl (hexCt (r.getD 2 0) F) rfl ?_) | (refine wpl_call0 S rfl rfl rfl rfl rfl rfl (hexCt (r.getD 3 0) F) rfl ?_)); clear S a; intro v a w hv S; subst hv)
                              refine wpList_nil ?_
                              (refine wpm_v S rfl rfl rfl (want_none _ rfl) rfl rfl (fun w' S => sv_mul S rfl rfl rfl (by first | omega | (rcases hl with hl | hl <;> first | contradiction | omega))) ?_; clear S a; intro a S)
                              refine wpm_eff rfl rfl (fun _ => ⟨fun b o h => S.tr.frz b o (by first | exact h | solve_by_elim), trivial⟩) ?_
                              ((first | (refine wpl_call0 S rfl rfl rfl rfl rfl rfl (hexCt (r.getD 2 0) F) rfl ?_) | (refine wpl_call0 S rfl rfl rfl rfl rfl rfl (hexCt (r.getD 3 0) F) rfl ?_)); clear S a; intro v a w hv S; subst hv)
                              refine wpList_nil ?_
                              (refine wpm_v S rfl rfl rfl (want_none _ rfl) rfl rfl (fun w' S => sv_add S rfl rfl rfl (by first | omega | (rcases hl with hl | hl <;> first | contradiction | omega))) ?_; clear S a; intro a S)
                              first | (refine wpm_v S rfl rfl rfl (want_none _ rfl) rfl rfl (fun w' S => sv_conv_u8 S rfl rfl (by first | omega | (rcases hl with hl | hl <;> first | contradiction | omega))) ?_; clear S a; intro a S) | (refine wpm_v S rfl rfl rfl (want_none _ rfl) rfl rfl (fun w' S => sv_conv S rfl rfl) ?_; clear S a; intro a S)
                              refine wpm_eff rfl rfl (fun _ => ⟨fun b o h => S.tr.frz b o (by first | exact h | solve_by_elim), trivial⟩) ?_
                              (refine wpl_v S rfl rfl rfl (sv_pure S rfl) ?_; clear S a; intro a S)
                              refine wpList_nil ?_
                              refine wpm_eff rfl rfl (fun _ => ⟨fun b o h => S.tr.frz b o (by first | exact h | solve_by_elim), trivial⟩) ?_
                              (refine wpl_v S rfl rfl rfl (sv_pure S rfl) ?_; clear S a; intro a S)
                              refine wpList_nil ?_
                              refine wpm_nil (fun _ => ⟨fun b o h => S.tr.frz b o (by first | exact h | solve_by_elim), trivial⟩) ?_
                              (refine hKq14 _ _ ?_; try (clear hKq14 Kq14))
                              refine wp_ret ?_
                              refine fin_ret S (results2 Tryd.results52 (RV.tmp S rfl) (RV.tmp S rfl)) ?_
                              (unfold markQ; (repeat' split) <;> first | rfl | (rw [hexByte (by omega) (by omega)]; rfl) | (exfalso; omega) | (exfalso; simp_all; done) | (exfalso; simp_all; omega))
                            · (skip; (try simp only [decide_eq_true_eq, decide_eq_false_iff_not, beq_iff_eq, bne_iff_ne, bne_eq_false_iff_eq, beq_eq_false_iff_ne, ne_eq, Bool.not_eq_true', Bool.not_eq_false', Bool.not_eq_true, Bool.not_eq_false, Bool.not_true, Bool.not_false, Int.ofNat_lt, Int.ofNat_le, Nat.not_lt, Nat.not_le] at h))
                              refine wp_skip ?_
                              (refine hKq6 _ _ ?_; try (clear hKq6 Kq6))
                              (refine wp_seq_k ?_; intro Kq14 hKq14)
                              refine wp_region_lit ?_
                              (refine wpl_v S rfl rfl rfl (sv_pure S rfl) ?_; clear S a; intro a S)
                              (refine wpl_v S rfl rfl rfl (sv_pure S rfl) ?_; clear S a; intro a S)
                              refine wpList_nil ?_
                              (refine hKq14 _ _ ?_; try (clear hKq14 Kq14))
                              refine wp_ret ?_
                              refine fin_ret S (results2 Tryd.results52 (RV.tmp S rfl) (RV.tmp S rfl)) ?_
                              (unfold markQ; (repeat' split) <;> first | rfl | (rw [hexByte (by omega) (by omega)]; rfl) | (exfalso; omega) | (exfalso; simp_all; done) | (exfalso; simp_all; omega))
                          · (intro h; clear S a; intro a S; (try simp only [decide_eq_true_eq, decide_eq_false_iff_not, beq_iff_eq, bne_iff_ne, bne_eq_false_iff_eq, beq_eq_false_iff_ne, ne_eq, Bool.not_eq_true', Bool.not_eq_false', Bool.not_eq_true, Bool.not_eq_false, Bool.not_true, Bool.not_false, Int.ofNat_lt, Int.ofNat_le, Nat.not_lt, Nat.not_le] at h))
                            (refine wpl_skip S rfl rfl rfl rfl rfl ?_; clear S a; intro a S)
                            (refine wpl_skip S rfl rfl rfl rfl rfl ?_; clear S a; intro a S)
                            (refine wpl_skip S rfl rfl rfl rfl rfl ?_; clear S a; intro a S)
                            first | (refine wpl_v S rfl rfl rfl (sv_pure S rfl) ?_; clear S a; intro a S) | (refine wpl_v S rfl rfl rfl (sv_pickB S rfl rfl rfl rfl) ?_; clear S a; intro a S)
                            refine wpList_nil ?_
                            (refine hKq13 _ _ ?_; try (clear hKq13 Kq13))
                            refine wpc_false S rfl ?_
                            refine wp_skip ?_
                            (refine hKq6 _ _ ?_; try (clear hKq6 Kq6))
                            (refine wp_seq_k ?_; intro Kq14 hKq14)
                            refine wp_region_lit ?_
                            (refine wpl_v S rfl rfl rfl (sv_pure S rfl) ?_; clear S a; intro a S)
                            (refine wpl_v S rfl rfl rfl (sv_pure S rfl) ?_; clear S a; intro a S)
                            refine wpList_nil ?_
                            (refine hKq14 _ _ ?_; try (clear hKq14 Kq14))
                            refine wp_ret ?_
                            refine fin_ret S (results2 Tryd.results52 (RV.tmp S rfl) (RV.tmp S rfl)) ?_
                            (unfold markQ; (repeat' split) <;> first | rfl | (rw [hexByte (by omega) (by omega)]; rfl) | (exfalso; omega) | (exfalso; simp_all; done) | (exfalso; simp_all; omega))
                        · (intro h; clear S a; intro a S; (try simp only [decide_eq_true_eq, decide_eq_false_iff_not, beq_iff_eq, bne_iff_ne, bne_eq_false_iff_eq, beq_eq_false_iff_ne, ne_eq, Bool.not_eq_true', Bool.not_eq_false', Bool.not_eq_true, Bool.not_eq_false, Bool.not_true, Bool.not_false, Int.ofNat_lt, Int.ofNat_le, Nat.not_lt, Nat.not_le] at h))
                          (refine wpl_skip S rfl rfl rfl rfl rfl ?_; clear S a; intro a S)
                          (refine wpl_skip S rfl rfl rfl rfl rfl ?_; clear S a; intro a S)
                          (refine wpl_skip S rfl rfl rfl rfl rfl ?_; clear S a; intro a S)
                          first | (refine wpl_v S rfl rfl rfl (sv_pure S rfl) ?_; clear S a; intro a S) | (refine wpl_v S rfl rfl rfl (sv_pickB S rfl rfl rfl rfl) ?_; clear S a; intro a S)
                          (refine wpl_v S rfl rfl rfl (sv_pure S rfl) ?_; clear S a; intro a S)
                          (refine wpl_skip S rfl rfl rfl rfl rfl ?_; clear S a; intro a S)
                          (refine wpl_skip S rfl rfl rfl rfl rfl ?_; clear S a; intro a S)
                          (refine wpl_skip S rfl rfl rfl rfl rfl ?_; clear S a; intro a S)
                          (refine wpl_skip S rfl rfl rfl rfl rfl ?_; clear S a; intro a S)
                          first | (refine wpl_v S rfl rfl rfl (sv_pure S rfl) ?_; clear S a; intro a S) | (refine wpl_v S rfl rfl rfl (sv_pickB S rfl rfl rfl rfl) ?_; clear S a; intro a S)
                          refine wpList_nil ?_
                          (refine hKq13 _ _ ?_; try (clear hKq13 Kq13))
                          refine wpc_false S rfl ?_
                          refine wp_skip ?_
                          (refine hKq6 _ _ ?_; try (clear hKq6 Kq6))
                          (refine wp_seq_k ?_; intro Kq14 hKq14)
                          refine wp_region_lit ?_
                          (refine wpl_v S rfl rfl rfl (sv_pure S rfl) ?_; clear S a; intro a S)
                          (refine wpl_v S rfl rfl rfl (sv_pure S rfl) ?_; clear S a; intro a S)
                          refine wpList_nil ?_
                          (refine hKq14 _ _ ?_; try (clear hKq14 Kq14))
                          refine wp_ret ?_
                          refine fin_ret S (results2 Tryd.results52 (RV.tmp S rfl) (RV.tmp S rfl)) ?_
                          (unfold markQ; (repeat' split) <;> first | rfl | (rw [hexByte (by omega) (by omega)]; rfl) | (exfalso; omega) | (exfalso; simp_all; done) | (exfalso; simp_all; omega))
                      · (skip; (try simp only [decide_eq_true_eq, decide_eq_false_iff_not, beq_iff_eq, bne_iff_ne, bne_eq_false_iff_eq, beq_eq_false_iff_ne, ne_eq, Bool.not_eq_true', Bool.not_eq_false', Bool.not_eq_true, Bool.not_eq_false, Bool.not_true, Bool.not_false, Int.ofNat_lt, Int.ofNat_le, Nat.not_lt, Nat.not_le] at h))
                        refine wp_skip ?_
                        (refine hKq6 _ _ ?_; try (clear hKq6 Kq6))
                        (refine wp_seq_k ?_; intro Kq13 hKq13)
                        refine wp_region_lit ?_
                        (refine wpl_v S rfl rfl rfl (sv_pure S rfl) ?_; clear S a; intro a S)
                        (refine wpl_v S rfl rfl rfl (sv_pure S rfl) ?_; clear S a; intro a S)
                        refine wpList_nil ?_
                        (refine hKq13 _ _ ?_; try (clear hKq13 Kq13))
                        refine wp_ret ?_
                        refine fin_ret S (results2 Tryd.results52 (RV.tmp S rfl) (RV.tmp S rfl)) ?_
                        (unfold markQ; (repeat' split) <;> first | rfl | (rw [hexByte (by omega) (by omega)]; rfl) | (exfalso; omega) | (exfalso; simp_all; done) | (exfalso; simp_all; omega))
              · (skip; (try simp only [decide_eq_true_eq, decide_eq_false_iff_not, beq_iff_eq, bne_iff_ne, bne_eq_false_iff_eq, beq_eq_false_iff_ne, ne_eq, Bool.not_eq_true', Bool.not_eq_false', Bool.not_eq_true, Bool.not_eq_false, Bool.not_true, Bool.not_false, Int.ofNat_lt, Int.ofNat_le, Nat.not_lt, Nat.not_le] at h))
                refine wp_region_lit ?_
                (refine wpl_v S rfl rfl rfl (sv_pure S rfl) ?_; clear S a; intro a S)
                (refine wpl_v S rfl rfl rfl (sv_pure S rfl) ?_; clear S a; intro a S)
                refine wpList_nil ?_
                (refine hKq8 _ _ ?_; try (clear hKq8 Kq8))
                refine wpc_split S rfl (fun h => ?_) (fun h => ?_)
                · (skip; (try simp only [decide_eq_true_eq, decide_eq_false_iff_not, beq_iff_eq, bne_iff_ne, bne_eq_false_iff_eq, beq_eq_false_iff_ne, ne_eq, Bool.not_eq_true', Bool.not_eq_false', Bool.not_eq_true, Bool.not_eq_false, Bool.not_true, Bool.not_false, Int.ofNat_lt, Int.ofNat_le, Nat.not_lt, Nat.not_le] at h))
                  (refine wp_seq_k ?_; intro Kq10 hKq10)
                  refine wp_region_lit ?_
                  (refine wpl_v S rfl rfl rfl (sv_pure S rfl) ?_; clear S a; intro a S)
                  (refine wpl_v S rfl rfl rfl (sv_indexSN (i := 1) S rfl rfl rfl (by first | omega | (rcases hl with hl | hl <;> first | contradiction | omega))) ?_; clear S a; intro a S)
                  (refine wpl_v S rfl rfl rfl (sv_pure S rfl) ?_; clear S a; intro a S)
                  (refine wpl_v S rfl rfl rfl (sv_pure S rfl) ?_; clear S a; intro a S)
                  refine wpList_nil ?_
                  (refine hKq10 _ _ ?_; try (clear hKq10 Kq10))
                  refine wp_ret ?_
                  refine fin_ret S (results2 Tryd.results52 (RV.tmp S rfl) (RV.tmp S rfl)) ?_
                  (unfold markQ; (repeat' split) <;> first | rfl | (rw [hexByte (by omega) (by omega)]; rfl) | (exfalso; omega) | (exfalso; simp_all; done) | (exfalso; simp_all; omega))
                · (skip; (try simp only [decide_eq_true_eq, decide_eq_false_iff_not, beq_iff_eq, bne_iff_ne, bne_eq_false_iff_eq, beq_eq_false_iff_ne, ne_eq, Bool.not_eq_true', Bool.not_eq_false', Bool.not_eq_true, Bool.not_eq_false, Bool.not_true, Bool.not_false, Int.ofNat_lt, Int.ofNat_le, Nat.not_lt, Nat.not_le] at h))
                  (refine wp_seq_k ?_; intro Kq10 hKq10)
                  refine wp_region_lit ?_
                  (refine wpl_v S rfl rfl rfl (sv_pure S rfl) ?_; clear S a; intro a S)
                  (refine wpl_v S rfl rfl rfl (sv_pure S rfl) ?_; clear S a; intro a S)
                  refine wpList_nil ?_
                  (refine hKq10 _ _ ?_; try (clear hKq10 Kq10))
                  refine wpc_split S rfl (fun h => ?_) (fun h => ?_)
                  · (skip; (try simp only [decide_eq_true_eq, decide_eq_false_iff_not, beq_iff_eq, bne_iff_ne, bne_eq_false_iff_eq, beq_eq_false_iff_ne, ne_eq, Bool.not_eq_true', Bool.not_eq_false', Bool.not_eq_true, Bool.not_eq_false, Bool.not_true, Bool.not_false, Int.ofNat_lt, Int.ofNat_le, Nat.not_lt, Nat.not_le] at h))
                    (refine wp_seq_k ?_; intro Kq11 hKq11)
                    refine wp_region_lit ?_
                    (refine wpl_v S rfl rfl rfl (sv_pure S rfl) ?_; clear S a; intro a S)
                    (refine wpl_v S rfl rfl rfl (sv_pure S rfl) ?_; clear S a; intro a S)
                    refine wpList_nil ?_
                    (refine hKq11 _ _ ?_; try (clear hKq11 Kq11))
                    refine wp_ret ?_
                    refine fin_ret S (results2 Tryd.results52 (RV.tmp S rfl) (RV.tmp S rfl)) ?_
                    (unfold markQ; (repeat' split) <;> first | rfl | (rw [hexByte (by omega) (by omega)]; rfl) | (exfalso; omega) | (exfalso; simp_all; done) | (exfalso; simp_all; omega))
                  · (skip; (try simp only [decide_eq_true_eq, decide_eq_false_iff_not, beq_iff_eq, bne_iff_ne, bne_eq_false_iff_eq, beq_eq_false_iff_ne, ne_eq, Bool.not_eq_true', Bool.not_eq_false', Bool.not_eq_true, Bool.not_eq_false, Bool.not_true, Bool.not_false, Int.ofNat_lt, Int.ofNat_le, Nat.not_lt, Nat.not_le] at h))
                    (refine wp_seq_k ?_; intro Kq11 hKq11)
                    refine wp_region_lit ?_
                    (refine wpl_v S rfl rfl rfl (sv_pure S rfl) ?_; clear S a; intro a S)
                    (refine wpl_v S rfl rfl rfl (sv_pure S rfl) ?_; clear S a; intro a S)
                    refine wpList_nil ?_
                    (refine hKq11 _ _ ?_; try (clear hKq11 Kq11))
                    refine wpc_split S rfl (fun h => ?_) (fun h => ?_)
                    · (skip; (try simp only [decide_eq_true_eq, decide_eq_false_iff_not, beq_iff_eq, bne_iff_ne, bne_eq_false_iff_eq, beq_eq_false_iff_ne, ne_eq, Bool.not_eq_true', Bool.not_eq_false', Bool.not_eq_true, Bool.not_eq_false, Bool.not_true, Bool.not_false, Int.ofNat_lt, Int.ofNat_le, Nat.not_lt, Nat.not_le] at h))
                      (refine wp_seq_k ?_; intro Kq12 hKq12)
                      refine wp_region_lit ?_
                      (refine wpl_v S rfl rfl rfl (sv_pure S rfl) ?_; clear S a; intro a S)
                      (refine wpl_v S rfl rfl rfl (sv_pure S rfl) ?_; clear S a; intro a S)
                      refine wpList_nil ?_
                      (refine hKq12 _ _ ?_; try (clear hKq12 Kq12))
                      refine wp_ret ?_
                      refine fin_ret S (results2 Tryd.results52 (RV.tmp S rfl) (RV.tmp S rfl)) ?_
                      (unfold markQ; (repeat' split) <;> first | rfl | (rw [hexByte (by omega) (by omega)]; rfl) | (exfalso; omega) | (exfalso; simp_all; done) | (exfalso; simp_all; omega))
                    · (skip; (try simp only [decide_eq_true_eq, decide_eq_false_iff_not, beq_iff_eq, bne_iff_ne, bne_eq_false_iff_eq, beq_eq_false_iff_ne, ne_eq, Bool.not_eq_true', Bool.not_eq_false', Bool.not_eq_true, Bool.not_eq_false, Bool.not_true, Bool.not_false, Int.ofNat_lt, Int.ofNat_le, Nat.not_lt, Nat.not_le] at h))
                      (refine wp_seq_k ?_; intro Kq12 hKq12)
                      refine wp_region_lit ?_
                      (refine wpl_v S rfl rfl rfl (sv_pure S rfl) ?_; clear S a; intro a S)
                      (refine wpl_v S rfl rfl rfl (sv_pure S rfl) ?_; clear S a; intro a S)
                      refine wpList_nil ?_
                      (refine hKq12 _ _ ?_; try (clear hKq12 Kq12))
                      refine wpc_split S rfl (fun h => ?_) (fun h => ?_)
                      · (skip; (try simp only [decide_eq_true_eq, decide_eq_false_iff_not, beq_iff_eq, bne_iff_ne, bne_eq_false_iff_eq, beq_eq_false_iff_ne, ne_eq, Bool.not_eq_true', Bool.not_eq_false', Bool.not_eq_true, Bool.not_eq_false, Bool.not_true, Bool.not_false, Int.ofNat_lt, Int.ofNat_le, Nat.not_lt, Nat.not_le] at h))
                        (refine wp_seq_k ?_; intro Kq13 hKq13)
                        refine wp_region_lit ?_
                        (refine wpl_v S rfl rfl rfl (sv_pure S rfl) ?_; clear S a; intro a S)
                        (refine wpl_v S rfl rfl rfl (sv_lenS S rfl rfl) ?_; clear S a; intro a S)
                        (refine wpl_v S rfl rfl rfl (sv_pure S rfl) ?_; clear S a; intro a S)
                        (refine wpl_v S rfl rfl rfl (sv_pure S rfl) ?_; clear S a; intro a S)
                        refine wpl_guard S rfl rfl rfl rfl rfl ?_ ?_
                        · (intro h S'; clear S; have S := S'; clear S'; (try simp only [decide_eq_true_eq, decide_eq_false_iff_not, beq_iff_eq, bne_iff_ne, bne_eq_false_iff_eq, beq_eq_false_iff_ne, ne_eq, Bool.not_eq_true', Bool.not_eq_false', Bool.not_eq_true, Bool.not_eq_false, Bool.not_true, Bool.not_false, Int.ofNat_lt, Int.ofNat_le, Nat.not_lt, Nat.not_le] at h))
                          (refine wpl_v S rfl rfl rfl (sv_pure S rfl) ?_; clear S a; intro a S)
                          refine wpl_take S rfl rfl rfl ?_
                          (refine wpl_v S rfl rfl rfl (sv_indexSN (i := 2) S rfl rfl rfl (by first | omega | (rcases hl with hl | hl <;> first | contradiction | omega))) ?_; clear S a; intro a S)
                          refine wpl_take S rfl rfl rfl ?_
                          ((first | (refine wpl_call0 S rfl rfl rfl rfl rfl rfl (hexCt (r.getD 2 0) F) rfl ?_) | (refine wpl_call0 S rfl rfl rfl rfl rfl rfl (hexCt (r.getD 3 0) F) rfl ?_)); clear S a; intro v a w hv S; subst hv)
                          refine wpl_take S rfl rfl rfl ?_
                          (refine wpl_v S rfl rfl rfl (sv_pure S rfl) ?_; clear S a; intro a S)
                          first | (refine wpl_v S rfl rfl rfl (sv_pure S rfl) ?_; clear S a; intro a S) | (refine wpl_v S rfl rfl rfl (sv_pickB S rfl rfl rfl rfl) ?_; clear S a; intro a S)
                          (refine wpl_v S rfl rfl rfl (sv_pure S rfl) ?_; clear S a; intro a S)
                          refine wpl_guard S rfl rfl rfl rfl rfl ?_ ?_
                          · (intro h S'; clear S; have S := S'; clear S'; (try simp only [decide_eq_true_eq, decide_eq_false_iff_not, beq_iff_eq, bne_iff_ne, bne_eq_false_iff_eq, beq_eq_false_iff_ne, ne_eq, Bool.not_eq_true', Bool.not_eq_false', Bool.not_eq_true, Bool.not_eq_false, Bool.not_true, Bool.not_false, Int.ofNat_lt, Int.ofNat_le, Nat.not_lt, Nat.not_le] at h))
                            (refine wpl_v S rfl rfl rfl (sv_pure S rfl) ?_; clear S a; intro a S)
                            refine wpl_take S rfl rfl rfl ?_
                            (refine wpl_v S rfl rfl rfl (sv_indexSN (i := 3) S rfl rfl rfl (by first | omega | (rcases hl with hl | hl <;> first | contradiction | omega))) ?_; clear S a; intro a S)
                            refine wpl_take S rfl rfl rfl ?_
                            ((first | (refine wpl_call0 S rfl rfl rfl rfl rfl rfl (hexCt (r.getD 2 0) F) rfl ?_) | (refine wpl_call0 S rfl rfl rfl rfl rfl rfl (hexCt (r.getD 3 0) F) rfl ?_)); clear S a; intro v a w hv S; subst hv)
                            refine wpl_take S rfl rfl rfl ?_
                            (refine wpl_v S rfl rfl rfl (sv_pure S rfl) ?_; clear S a; intro a S)
                            first | (refine wpl_v S rfl rfl rfl (sv_pure S rfl) ?_; clear S a; intro a S) | (refine wpl_v S rfl rfl rfl (sv_pickB S rfl rfl rfl rfl) ?_; clear S a; intro a S)
                            refine wpList_nil ?_
                            (refine hKq13 _ _ ?_; try (clear hKq13 Kq13))
                            refine wpc_split S rfl (fun h => ?_) (fun h => ?_)
                            · (skip; (try simp only [decide_eq_true_eq, decide_eq_false_iff_not, beq_iff_eq, bne_iff_ne, bne_eq_false_iff_eq, beq_eq_false_iff_ne, ne_eq, Bool.not_eq_true', Bool.not_eq_false', Bool.not_eq_true, Bool.not_eq_false, Bool.not_true, Bool.not_false, Int.ofNat_lt, Int.ofNat_le, Nat.not_lt, Nat.not_le] at h))
                              (refine wp_seq_k ?_; intro Kq14 hKq14)
                              (refine wpc_mixM [0, 1, 3, 4, 5, 7, 8] [] [] (.one 0 (.one 1 (.one 4 (.one 5 (.one 2 (.one 3 (.one 6 (.one 7 (.one 8 (.one 9 (.one 10 .nil))))))))))) [] S mixed (by kernel_rfl) ?_; clear S; intro w S)
                              (refine wpm_v S rfl rfl rfl (want_none _ rfl) rfl rfl (fun w' S => sv_pure S rfl) ?_; clear S a; intro a S)
                              (refine wpm_v S rfl rfl rfl (want_none _ rfl) rfl rfl (fun w' S => sv_indexSN (i := 2) S rfl rfl rfl (by first | omega | (rcases hl with hl | hl <;> first | contradiction | omega))) ?_; clear S a; intro a S)
                              (refine wpm_v S rfl rfl rfl (want_none _ rfl) rfl rfl (fun w' S => sv_pure S rfl) ?_; clear S a; intro a S)
                              (refine wpm_v S rfl rfl rfl (want_none _ rfl) rfl rfl (fun w' S => sv_indexSN (i := 3) S rfl rfl rfl (by first | omega | (rcases hl with hl | hl <;> first | contradiction | omega))) ?_; clear S a; intro a S)
                              refine wpm_eff rfl rfl (fun _ => ⟨fun b o h => S.tr.frz b o (by first | exact h | solve_by_elim), trivial⟩) ?_
                              ((first | (refine wpl_call0 S rfl rfl rfl rfl rfl rfl (hexCt (r.getD 2 0) F) rfl ?_) | (refine wpl_call0 S rfl rfl rfl rfl rfl rfl (hexCt (r.getD 3 0) F) rfl ?_)); clear S a; intro v a w hv S; subst hv)
                              refine wpList_nil ?_
                              (refine wpm_v S rfl rfl rfl (want_none _ rfl) rfl rfl (fun w' S => sv_mul S rfl rfl rfl (by first | omega | (rcases hl with hl | hl <;> first | contradiction | omega))) ?_; clear S a; intro a S)
                              refine wpm_eff rfl rfl (fun _ => ⟨fun b o h => S.tr.frz b o (by first | exact h | solve_by_elim), trivial⟩) ?_
                              ((first | (refine wpl_call0 S rfl rfl rfl rfl rfl rfl (hexCt (r.getD 2 0) F) rfl ?_) | (refine wpl_call0 S rfl rfl rfl rfl rfl rfl (hexCt (r.getD 3 0) F) rfl ?_)); clear S a; intro v a w hv S; subst hv)
                              refine wpList_nil ?_
                              (refine wpm_v S rfl rfl rfl (want_none _ rfl) rfl rfl (fun w' S => sv_add S rfl rfl rfl (by first | omega | (rcases hl with hl | hl <;> first | contradiction | omega))) ?_; clear S a; intro a S)
                              first | (refine wpm_v S rfl rfl rfl (want_none _ rfl) rfl rfl (fun w' S => sv_conv_u8 S rfl rfl (by first | omega | (rcases hl with hl | hl <;> first | contradiction | omega))) ?_; clear S a; intro a S) | (refine wpm_v S rfl rfl rfl (want_none _ rfl) rfl rfl (fun w' S => sv_conv S rfl rfl) ?_; clear S a; intro a S)
                              refine wpm_eff rfl rfl (fun _ => ⟨fun b o h => S.tr.frz b o (by first | exact h | solve_by_elim), trivial⟩) ?_
                              (refine wpl_v S rfl rfl rfl (sv_pure S rfl) ?_; clear S a; intro a S)
                              refine wpList_nil ?_
                              refine wpm_eff rfl rfl (fun _ => ⟨fun b o h => S.tr.frz b o (by first | exact h | solve_by_elim), trivial⟩) ?_
                              (refine wpl_v S rfl rfl rfl (sv_pure S rfl) ?_; clear S a; intro a S)
                              refine wpList_nil ?_
                              refine wpm_nil (fun _ => ⟨fun b o h => S.tr.frz b o (by first | exact h | solve_by_elim), trivial⟩) ?_
                              (refine hKq14 _ _ ?_; try (clear hKq14 Kq14))
                              refine wp_ret ?_
                              refine fin_ret S (results2 Tryd.results52 (RV.tmp S rfl) (RV.tmp S rfl)) ?_
                              (unfold markQ; (repeat' split) <;> first | rfl | (rw [hexByte (by omega) (by omega)]; rfl) | (exfalso; omega) | (exfalso; simp_all; done) | (exfalso; simp_all; omega))
                            · (skip; (try simp only [decide_eq_true_eq, decide_eq_false_iff_not, beq_iff_eq, bne_iff_ne, bne_eq_false_iff_eq, beq_eq_false_iff_ne, ne_eq, Bool.not_eq_true', Bool.not_eq_false', Bool.not_eq_true, Bool.not_eq_false, Bool.not_true, Bool.not_false, Int.ofNat_lt, Int.ofNat_le, Nat.not_lt, Nat.not_le] at h))
                              refine wp_skip ?_
                              (refine hKq6 _ _ ?_; try (clear hKq6 Kq6))
                              (refine wp_seq_k ?_; intro Kq14 hKq14)
                              refine wp_region_lit ?_
                              (refine wpl_v S rfl rfl rfl (sv_pure S rfl) ?_; clear S a; intro a S)
                              (refine wpl_v S rfl rfl rfl (sv_pure S rfl) ?_; clear S a; intro a S)
                              refine wpList_nil ?_
                              (refine hKq14 _ _ ?_; try (clear hKq14 Kq14))
                              refine wp_ret ?_
                              refine fin_ret S (results2 Tryd.results52 (RV.tmp S rfl) (RV.tmp S rfl)) ?_
                              (unfold markQ; (repeat' split) <;> first | rfl | (rw [hexByte (by omega) (by omega)]; rfl) | (exfalso; omega) | (exfalso; simp_all; done) | (exfalso; simp_all; omega))
                          · (intro h; clear S a; intro a S; (try simp only [decide_eq_true_eq, decide_eq_false_iff_not, beq_iff_eq, bne_iff_ne, bne_eq_false_iff_eq, beq_eq_false_iff_ne, ne_eq, Bool.not_eq_true', Bool.not_eq_false', Bool.not_eq_true, Bool.not_eq_false, Bool.not_true, Bool.not_false, Int.ofNat_lt, Int.ofNat_le, Nat.not_lt, Nat.not_le] at h))
                            (refine wpl_skip S rfl rfl rfl rfl rfl ?_; clear S a; intro a S)
                            (refine wpl_skip S rfl rfl rfl rfl rfl ?_; clear S a; intro a S)
                            (refine wpl_skip S rfl rfl rfl rfl rfl ?_; clear S a; intro a S)
                            first | (refine wpl_v S rfl rfl rfl (sv_pure S rfl) ?_; clear S a; intro a S) | (refine wpl_v S rfl rfl rfl (sv_pickB S rfl rfl rfl rfl) ?_; clear S a; intro a S)
                            refine wpList_nil ?_
                            (refine hKq13 _ _ ?_; try (clear hKq13 Kq13))
                            refine wpc_false S rfl ?_
                            refine wp_skip ?_
                            (refine hKq6 _ _ ?_; try (clear hKq6 Kq6))
                            (refine wp_seq_k ?_; intro Kq14 hKq14)
                            refine wp_region_lit ?_
                            (refine wpl_v S rfl rfl rfl (sv_pure S rfl) ?_; clear S a; intro a S)
                            (refine wpl_v S rfl rfl rfl (sv_pure S rfl) ?_; clear S a; intro a S)
                            refine wpList_nil ?_
                            (refine hKq14 _ _ ?_; try (clear hKq14 Kq14))
                            refine wp_ret ?_
                            refine fin_ret S (results2 Tryd.results52 (RV.tmp S rfl) (RV.tmp S rfl)) ?_
                            (unfold markQ; (repeat' split) <;> first | rfl | (rw [hexByte (by omega) (by omega)]; rfl) | (exfalso; omega) | (exfalso; simp_all; done) | (exfalso; simp_all; omega))
                        · (intro h; clear S a; intro a S; (try simp only [decide_eq_true_eq, decide_eq_false_iff_not, beq_iff_eq, bne_iff_ne, bne_eq_false_iff_eq, beq_eq_false_iff_ne, ne_eq, Bool.not_eq_true', Bool.not_eq_false', Bool.not_eq_true, Bool.not_eq_false, Bool.not_true, Bool.not_false, Int.ofNat_lt, Int.ofNat_le, Nat.not_lt, Nat.not_le] at h))
                          (refine wpl_skip S rfl rfl rfl rfl rfl ?_; clear S a; intro a S)
                          (refine wpl_skip S rfl rfl rfl rfl rfl ?_; clear S a; intro a S)
                          (refine wpl_skip S rfl rfl rfl rfl rfl ?_; clear S a; intro a S)
                          first | (refine wpl_v S rfl rfl rfl (sv_pure S rfl) ?_; clear S a; intro a S) | (refine wpl_v S rfl rfl rfl (sv_pickB S rfl rfl rfl rfl) ?_; clear S a; intro a S)
                          (refine wpl_v S rfl rfl rfl (sv_pure S rfl) ?_; clear S a; intro a S)
                          (refine wpl_skip S rfl rfl rfl rfl rfl ?_; clear S a; intro a S)
                          (refine wpl_skip S rfl rfl rfl rfl rfl ?_; clear S a; intro a S)
                          (refine wpl_skip S rfl rfl rfl rfl rfl ?_; clear S a; intro a S)
                          (refine wpl_skip S rfl rfl rfl rfl rfl ?_; clear S a; intro a S)
                          first | (refine wpl_v S rfl rfl rfl (sv_pure S rfl) ?_; clear S a; intro a S) | (refine wpl_v S rfl rfl rfl (sv_pickB S rfl rfl rfl rfl) ?_; clear S a; intro a S)
                          refine wpList_nil ?_
                          (refine hKq13 _ _ ?_; try (clear hKq13 Kq13))
                          refine wpc_false S rfl ?_
                          refine wp_skip ?_
                          (refine hKq6 _ _ ?_; try (clear hKq6 Kq6))
                          (refine wp_seq_k ?_; intro Kq14 hKq14)
                          refine wp_region_lit ?_
                          (refine wpl_v S rfl rfl rfl (sv_pure S rfl) ?_; clear S a; intro a S)
                          (refine wpl_v S rfl rfl rfl (sv_pure S rfl) ?_; clear S a; intro a S)
                          refine wpList_nil ?_
                          (refine hKq14 _ _ ?_; try (clear hKq14 Kq14))
                          refine wp_ret ?_
                          refine fin_ret S (results2 Tryd.results52 (RV.tmp S rfl) (RV.tmp S rfl)) ?_
                          (unfold markQ; (repeat' split) <;> first | rfl | (rw [hexByte (by omega) (by omega)]; rfl) | (exfalso; omega) | (exfalso; simp_all; done) | (exfalso; simp_all; omega))
                      · (skip; (try simp only [decide_eq_true_eq, decide_eq_false_iff_not, beq_iff_eq, bne_iff_ne, bne_eq_false_iff_eq, beq_eq_false_iff_ne, ne_eq, Bool.not_eq_true', Bool.not_eq_false', Bool.not_eq_true, Bool.not_eq_false, Bool.not_true, Bool.not_false, Int.ofNat_lt, Int.ofNat_le, Nat.not_lt, Nat.not_le] at h))
                        refine wp_skip ?_
                        (refine hKq6 _ _ ?_; try (clear hKq6 Kq6))
                        (refine wp_seq_k ?_; intro Kq13 hKq13)
                        refine wp_region_lit ?_
                        (refine wpl_v S rfl rfl rfl (sv_pure S rfl) ?_; clear S a; intro a S)
                        (refine wpl_v S rfl rfl rfl (sv_pure S rfl) ?_; clear S a; intro a S)
                        refine wpList_nil ?_
                        (refine hKq13 _ _ ?_; try (clear hKq13 Kq13))
                        refine wp_ret ?_
                        refine fin_ret S (results2 Tryd.results52 (RV.tmp S rfl) (RV.tmp S rfl)) ?_
                        (unfold markQ; (repeat' split) <;> first | rfl | (rw [hexByte (by omega) (by omega)]; rfl) | (exfalso; omega) | (exfalso; simp_all; done) | (exfalso; simp_all; omega))
      · (intro h; clear S a; intro a S; (try simp only [decide_eq_true_eq, decide_eq_false_iff_not, beq_iff_eq, bne_iff_ne, bne_eq_false_iff_eq, beq_eq_false_iff_ne, ne_eq, Bool.not_eq_true', Bool.not_eq_false', Bool.not_eq_true, Bool.not_eq_false, Bool.not_true, Bool.not_false, Int.ofNat_lt, Int.ofNat_le, Nat.not_lt, Nat.not_le] at h))
        (refine wpl_skip S rfl rfl rfl rfl rfl ?_; clear S a; intro a S)
        (refine wpl_skip S rfl rfl rfl rfl rfl ?_; clear S a; intro a S)
        first | (refine wpl_v S rfl rfl rfl (sv_pure S rfl) ?_; clear S a; intro a S) | (refine wpl_v S rfl rfl rfl (sv_pickB S rfl rfl rfl rfl) ?_; clear S a; intro a S)
        (refine wpl_v S rfl rfl rfl (sv_pure S rfl) ?_; clear S a; intro a S)
        refine wpList_nil ?_
        (refine hKq3 _ _ ?_; try (clear hKq3 Kq3))
        refine wpc_true S rfl ?_
        (refine wp_seq_k ?_; intro Kq4 hKq4)
        refine wp_region_lit ?_
        (refine wpl_v S rfl rfl rfl (sv_pure S rfl) ?_; clear S a; intro a S)
        (refine wpl_v S rfl rfl rfl (sv_pure S rfl) ?_; clear S a; intro a S)
        refine wpList_nil ?_
        (refine hKq4 _ _ ?_; try (clear hKq4 Kq4))
        refine wp_ret ?_
        refine fin_ret S (results2 Tryd.results52 (RV.tmp S rfl) (RV.tmp S rfl)) ?_
        (unfold markQ; (repeat' split) <;> first | rfl | (rw [hexByte (by omega) (by omega)]; rfl) | (exfalso; omega) | (exfalso; simp_all; done) | (exfalso; simp_all; omega))
    · (intro h; clear S a; intro a S; (try simp only [decide_eq_true_eq, decide_eq_false_iff_not, beq_iff_eq, bne_iff_ne, bne_eq_false_iff_eq, beq_eq_false_iff_ne, ne_eq, Bool.not_eq_true', Bool.not_eq_false', Bool.not_eq_true, Bool.not_eq_false, Bool.not_true, Bool.not_false, Int.ofNat_lt, Int.ofNat_le, Nat.not_lt, Nat.not_le] at h))
      (refine wpl_skip S rfl rfl rfl rfl rfl ?_; clear S a; intro a S)
      (refine wpl_skip S rfl rfl rfl rfl rfl ?_; clear S a; intro a S)
      first | (refine wpl_v S rfl rfl rfl (sv_pure S rfl) ?_; clear S a; intro a S) | (refine wpl_v S rfl rfl rfl (sv_pickB S rfl rfl rfl rfl) ?_; clear S a; intro a S)
      (refine wpl_v S rfl rfl rfl (sv_pure S rfl) ?_; clear S a; intro a S)
      (refine wpl_skip S rfl rfl rfl rfl rfl ?_; clear S a; intro a S)
      (refine wpl_skip S rfl rfl rfl rfl rfl ?_; clear S a; intro a S)
      (refine wpl_skip S rfl rfl rfl rfl rfl ?_; clear S a; intro a S)
      first | (refine wpl_v S rfl rfl rfl (sv_pure S rfl) ?_; clear S a; intro a S) | (refine wpl_v S rfl rfl rfl (sv_pickB S rfl rfl rfl rfl) ?_; clear S a; intro a S)
      (refine wpl_v S rfl rfl rfl (sv_pure S rfl) ?_; clear S a; intro a S)
      refine wpList_nil ?_
      (refine hKq3 _ _ ?_; try (clear hKq3 Kq3))
      refine wpc_true S rfl ?_
      (refine wp_seq_k ?_; intro Kq4 hKq4)
      refine wp_region_lit ?_
      (refine wpl_v S rfl rfl rfl (sv_pure S rfl) ?_; clear S a; intro a S)
      (refine wpl_v S rfl rfl rfl (sv_pure S rfl) ?_; clear S a; intro a S)
      refine wpList_nil ?_
      (refine hKq4 _ _ ?_; try (clear hKq4 Kq4))
      refine wp_ret ?_
      refine fin_ret S (results2 Tryd.results52 (RV.tmp S rfl) (RV.tmp S rfl)) ?_
      (unfold markQ; (repeat' split) <;> first | rfl | (rw [hexByte (by omega) (by omega)]; rfl) | (exfalso; omega) | (exfalso; simp_all; done) | (exfalso; simp_all; omega))
  · (intro h; clear S a; intro a S; (try simp only [decide_eq_true_eq, decide_eq_false_iff_not, beq_iff_eq, bne_iff_ne, bne_eq_false_iff_eq, beq_eq_false_iff_ne, ne_eq, Bool.not_eq_true', Bool.not_eq_false', Bool.not_eq_true, Bool.not_eq_false, Bool.not_true, Bool.not_false, Int.ofNat_lt, Int.ofNat_le, Nat.not_lt, Nat.not_le] at h))
    (refine wpl_skip S rfl rfl rfl rfl rfl ?_; clear S a; intro a S)
    (refine wpl_skip S rfl rfl rfl rfl rfl ?_; clear S a; intro a S)
    first | (refine wpl_v S rfl rfl rfl (sv_pure S rfl) ?_; clear S a; intro a S) | (refine wpl_v S rfl rfl rfl (sv_pickB S rfl rfl rfl rfl) ?_; clear S a; intro a S)
    (refine wpl_v S rfl rfl rfl (sv_pure S rfl) ?_; clear S a; intro a S)
    (refine wpl_skip S rfl rfl rfl rfl rfl ?_; clear S a; intro a S)
    (refine wpl_skip S rfl rfl rfl rfl rfl ?_; clear S a; intro a S)
    (refine wpl_skip S rfl rfl rfl rfl rfl ?_; clear S a; intro a S)
    first | (refine wpl_v S rfl rfl rfl (sv_pure S rfl) ?_; clear S a; intro a S) | (refine wpl_v S rfl rfl rfl (sv_pickB S rfl rfl rfl rfl) ?_; clear S a; intro a S)
    (refine wpl_v S rfl rfl rfl (sv_pure S rfl) ?_; clear S a; intro a S)
    (refine wpl_skip S rfl rfl rfl rfl rfl ?_; clear S a; intro a S)
    (refine wpl_skip S rfl rfl rfl rfl rfl ?_; clear S a; intro a S)
    (refine wpl_skip S rfl rfl rfl rfl rfl ?_; clear S a; intro a S)
    first | (refine wpl_v S rfl rfl rfl (sv_pure S rfl) ?_; clear S a; intro a S) | (refine wpl_v S rfl rfl rfl (sv_pickB S rfl rfl rfl rfl) ?_; clear S a; intro a S)
    (refine wpl_v S rfl rfl rfl (sv_pure S rfl) ?_; clear S a; intro a S)
    refine wpList_nil ?_
    (refine hKq3 _ _ ?_; try (clear hKq3 Kq3))
    refine wpc_true S rfl ?_
    (refine wp_seq_k ?_; intro Kq4 hKq4)
    refine wp_region_lit ?_
    (refine wpl_v S rfl rfl rfl (sv_pure S rfl) ?_; clear S a; intro a S)
    (refine wpl_v S rfl rfl rfl (sv_pure S rfl) ?_; clear S a; intro a S)
    refine wpList_nil ?_
    (refine hKq4 _ _ ?_; try (clear hKq4 Kq4))
    refine wp_ret ?_
    refine fin_ret S (results2 Tryd.results52 (RV.tmp S rfl) (RV.tmp S rfl)) ?_
    (unfold markQ; (repeat' split) <;> first | rfl | (rw [hexByte (by omega) (by omega)]; rfl) | (exfalso; omega) | (exfalso; simp_all; done) | (exfalso; simp_all; omega))
end Go.Proofs.YtpgnmnacfilnkaaDoor
