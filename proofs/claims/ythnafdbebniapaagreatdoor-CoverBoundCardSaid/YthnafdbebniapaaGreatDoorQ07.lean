/- Walks. -/
import Derived.Test.YthnafdbebniapaaGreatDoorQ06
namespace Go.Wk
open Go
set_option linter.unusedVariables false
structure Fu (n : Nat) : Prop where
structure Hd (q : Prop) : Prop where h : q
theorem Fu.e {q : Prop} (_ : Fu 0) (k : Hd q) : q := k.h
theorem Fu.d {n : Nat} (_ : Fu (n + 1)) : Fu n := ⟨⟩
def kop (o : Oper) : Nat := match o.guard with
  | some _ => 0
  | none => match o.op with
    | .load _ _ => 2 | .fieldAddr _ _ _ => 3 | .indexAddr _ _ _ => 4 | .binOp .add _ _ _ _ => 5 | .binOp .sub _ _ _ _ => 6 | .binOp .eql _ _ _ _ => 7 | .binOp .neq _ _ _ _ => 8 | .build _ _ => 9
    | .call ⟨.builtin _, _, _⟩ => 10 | .makeInterface _ _ => 11 | .nilCheck _ => 12 | .convert _ _ _ => 13 | .pick _ _ _ => 14
    | .move _ => 1 | .assign _ => 1 | .extract _ _ => 1 | .makeFunc _ _ _ => 1 | .unOp _ _ _ => 1 | .binOp _ _ _ _ _ => 1
    | _ => 15
theorem kop_none {o : Oper} {n : Nat} (h : kop o = n + 1) : o.guard = none := by
  unfold kop at h
  cases e : o.guard with
  | none => rfl
  | some _ => rw [e] at h; cases h
section
variable {P : Program} {n : Sz} {L : List (Nat × Value)} {w0 : World} {F0 : Heap} {K0 : List Nat} {F : Heap} {G : List Grp} {a : Act} {w : World} {ops : Array Oper} {Q : Exit → Act → World → Prop} {rest : List Oper} {d : Nat} {o : Oper} {v : Value}
theorem isop (k : wpList P ops Q (o :: rest) a w) : wpList P ops Q (o :: rest) a w := k
theorem zgp (hk : kop o = 1) (S : St n L w0 F0 K0 F G a w) (h : pureVal L o.op = some v) (hd : o.dst = some d) (hn : Nat.blt d n.sz = true) (k : ∀ a', St n ((d, v) :: L) w0 F0 K0 F G a' w → wpList P ops Q rest a' w) : wpList P ops Q (o :: rest) a w :=
  wpl_v S (kop_none hk) hd hn (sv_pure S h) k
theorem zgT {j dj : Nat} {x : Bool} (hk : kop o = 0) (S : St n L w0 F0 K0 F G a w) (hg : o.guard = some (j, x)) (hj : (ops[j]?).bind (·.dst) = some dj) (hb : look L dj = some (.bool x)) (k : wpList P ops Q ({ o with guard := none } :: rest) a w) : wpList P ops Q (o :: rest) a w :=
  wpl_take S hg hj hb k
theorem zgS {j dj : Nat} {x : Bool} (hk : kop o = 0) (S : St n L w0 F0 K0 F G a w) (hg : o.guard = some (j, x)) (hj : (ops[j]?).bind (·.dst) = some dj) (hb : look L dj = some (.bool (!x))) (hd : o.dst = some d) (hn : Nat.blt d n.sz = true) (k : ∀ a', St n ((d, undef) :: L) w0 F0 K0 F G a' w → wpList P ops Q rest a' w) : wpList P ops Q (o :: rest) a w :=
  wpl_skip S hg hj hb hd hn k
theorem zgl (hk : kop o = 2) (S : St n L w0 F0 K0 F G a w) (hd : o.dst = some d) (hn : Nat.blt d n.sz = true) (k : ∀ a', St n ((d, v) :: L) w0 F0 K0 F G a' w → wpList P ops Q rest a' w) (h : SV P o a w v := by first | exact sv_loadO S rfl rfl (by rfl) | exact sv_loadF S rfl rfl (by assumption) | exact sv_loadAO S rfl rfl (by rfl) | exact sv_loadAF S rfl rfl (by assumption) (by rfl)) : wpList P ops Q (o :: rest) a w :=
  wpl_v S (kop_none hk) hd hn h k
theorem zgf (hk : kop o = 3) (S : St n L w0 F0 K0 F G a w) (hd : o.dst = some d) (hn : Nat.blt d n.sz = true) (k : ∀ a', St n ((d, v) :: L) w0 F0 K0 F G a' w → wpList P ops Q rest a' w) (h : SV P o a w v := by exact sv_fieldAddr S rfl rfl rfl inferInstance rfl) : wpList P ops Q (o :: rest) a w :=
  wpl_v S (kop_none hk) hd hn h k
theorem zgi (hk : kop o = 4) (S : St n L w0 F0 K0 F G a w) (hd : o.dst = some d) (hn : Nat.blt d n.sz = true) (k : ∀ a', St n ((d, v) :: L) w0 F0 K0 F G a' w → wpList P ops Q rest a' w) (h : SV P o a w v := by exact sv_indexAddrSl S rfl rfl rfl (by first | omega | (simp only [List.length_append, List.length_cons, List.length_nil]; omega))) : wpList P ops Q (o :: rest) a w :=
  wpl_v S (kop_none hk) hd hn h k
theorem zga (hk : kop o = 5) (S : St n L w0 F0 K0 F G a w) (hd : o.dst = some d) (hn : Nat.blt d n.sz = true) (k : ∀ a', St n ((d, v) :: L) w0 F0 K0 F G a' w → wpList P ops Q rest a' w) (h : SV P o a w v := by exact sv_add S rfl rfl rfl (by first | omega | (simp only [List.length_append, List.length_cons, List.length_nil]; omega))) : wpList P ops Q (o :: rest) a w :=
  wpl_v S (kop_none hk) hd hn h k
theorem zgu (hk : kop o = 6) (S : St n L w0 F0 K0 F G a w) (hd : o.dst = some d) (hn : Nat.blt d n.sz = true) (k : ∀ a', St n ((d, v) :: L) w0 F0 K0 F G a' w → wpList P ops Q rest a' w) (h : SV P o a w v := by exact sv_sub S rfl rfl rfl (by first | omega | (simp only [List.length_append, List.length_cons, List.length_nil]; omega))) : wpList P ops Q (o :: rest) a w :=
  wpl_v S (kop_none hk) hd hn h k
theorem zge (hk : kop o = 7) (S : St n L w0 F0 K0 F G a w) (hd : o.dst = some d) (hn : Nat.blt d n.sz = true) (k : ∀ a', St n ((d, v) :: L) w0 F0 K0 F G a' w → wpList P ops Q rest a' w) (h : SV P o a w v := by first | exact sv_pure S rfl | exact sv_eqB S rfl rfl rfl | exact sv_eqSlNil S rfl rfl rfl) : wpList P ops Q (o :: rest) a w :=
  wpl_v S (kop_none hk) hd hn h k
theorem zgq (hk : kop o = 8) (S : St n L w0 F0 K0 F G a w) (hd : o.dst = some d) (hn : Nat.blt d n.sz = true) (k : ∀ a', St n ((d, v) :: L) w0 F0 K0 F G a' w → wpList P ops Q rest a' w) (h : SV P o a w v := by first | exact sv_pure S rfl | exact sv_neB S rfl rfl rfl) : wpList P ops Q (o :: rest) a w :=
  wpl_v S (kop_none hk) hd hn h k
theorem zgb (hk : kop o = 9) (S : St n L w0 F0 K0 F G a w) (hd : o.dst = some d) (hn : Nat.blt d n.sz = true) (k : ∀ a', St n ((d, v) :: L) w0 F0 K0 F G a' w → wpList P ops Q rest a' w) (h : SV P o a w v := by exact sv_build S rfl rfl rfl) : wpList P ops Q (o :: rest) a w :=
  wpl_v S (kop_none hk) hd hn h k
theorem zgn (hk : kop o = 10) (S : St n L w0 F0 K0 F G a w) (hd : o.dst = some d) (hn : Nat.blt d n.sz = true) (k : ∀ a', St n ((d, v) :: L) w0 F0 K0 F G a' w → wpList P ops Q rest a' w) (h : SV P o a w v := by first | exact sv_lenSl S rfl rfl | exact sv_lenS S rfl rfl) : wpList P ops Q (o :: rest) a w :=
  wpl_v S (kop_none hk) hd hn h k
theorem zgk (hk : kop o = 11) (S : St n L w0 F0 K0 F G a w) (hd : o.dst = some d) (hn : Nat.blt d n.sz = true) (k : ∀ a', St n ((d, v) :: L) w0 F0 K0 F G a' w → wpList P ops Q rest a' w) (h : SV P o a w v := by exact sv_mkIface S rfl rfl) : wpList P ops Q (o :: rest) a w :=
  wpl_v S (kop_none hk) hd hn h k
theorem zgc (hk : kop o = 12) (S : St n L w0 F0 K0 F G a w) (hd : o.dst = some d) (hn : Nat.blt d n.sz = true) (k : ∀ a', St n ((d, v) :: L) w0 F0 K0 F G a' w → wpList P ops Q rest a' w) (h : SV P o a w v := by exact sv_nilCheck S rfl rfl) : wpList P ops Q (o :: rest) a w :=
  wpl_v S (kop_none hk) hd hn h k
theorem zgv (hk : kop o = 13) (S : St n L w0 F0 K0 F G a w) (hd : o.dst = some d) (hn : Nat.blt d n.sz = true) (k : ∀ a', St n ((d, v) :: L) w0 F0 K0 F G a' w → wpList P ops Q rest a' w) (h : SV P o a w v := by exact sv_convSS S rfl rfl) : wpList P ops Q (o :: rest) a w :=
  wpl_v S (kop_none hk) hd hn h k
theorem zgy (hk : kop o = 14) (S : St n L w0 F0 K0 F G a w) (hd : o.dst = some d) (hn : Nat.blt d n.sz = true) (k : ∀ a', St n ((d, v) :: L) w0 F0 K0 F G a' w → wpList P ops Q rest a' w) (h : SV P o a w v := by first | exact sv_pure S rfl | exact sv_pickB S rfl rfl rfl rfl) : wpList P ops Q (o :: rest) a w :=
  wpl_v S (kop_none hk) hd hn h k
end
theorem go00 (n : Nat) {p q : Prop} (k : q) (h : Fu n → Hd q → p := by
  intro hf kk a S
  repeat ((replace hf := Fu.d hf); first | (refine isop ?_; first | (refine zgp rfl S rfl rfl rfl ?_; clear S a; intro a S) | (refine zgT rfl S rfl rfl rfl ?_) | (refine zgl rfl S rfl rfl ?_; clear S a; intro a S) | (refine zgf rfl S rfl rfl ?_; clear S a; intro a S) | (refine zgn rfl S rfl rfl ?_; clear S a; intro a S) | (refine zgS rfl S rfl rfl rfl rfl rfl ?_; clear S a; intro a S) | (refine zgi rfl S rfl rfl ?_; clear S a; intro a S) | (refine zga rfl S rfl rfl ?_; clear S a; intro a S) | (refine zge rfl S rfl rfl ?_; clear S a; intro a S) | (refine zgu rfl S rfl rfl ?_; clear S a; intro a S) | (refine zgb rfl S rfl rfl ?_; clear S a; intro a S) | (refine zgk rfl S rfl rfl ?_; clear S a; intro a S) | (refine zgc rfl S rfl rfl ?_; clear S a; intro a S) | (refine zgq rfl S rfl rfl ?_; clear S a; intro a S) | (refine zgv rfl S rfl rfl ?_; clear S a; intro a S) | (refine zgy rfl S rfl rfl ?_; clear S a; intro a S)) | (refine wpList_nil ?_) | (refine hZ _ _ ?_; clear hZ Z) | (refine wp_sr fun Z hZ => ?_) | (refine wp_seq_k ?_; intro Z hZ) | refine wp_block ?_ | refine wp_skip ?_ | (refine wp_exit ?_; conv => whnf) | refine wp_region_lit ?_)
  revert S a; exact Fu.e hf kk) : p := h ⟨⟩ ⟨k⟩
theorem go01 (n : Nat) {p q : Prop} (k : q) (h : Fu n → Hd q → p := by
  intro hf kk a S
  repeat ((replace hf := Fu.d hf); first | (refine isop ?_; first | (refine zgp rfl S rfl rfl rfl ?_; clear S a; intro a S) | (refine zgT rfl S rfl rfl rfl ?_) | (refine zgl rfl S rfl rfl ?_; clear S a; intro a S) | (refine zgf rfl S rfl rfl ?_; clear S a; intro a S) | (refine zgn rfl S rfl rfl ?_; clear S a; intro a S) | (refine zgS rfl S rfl rfl rfl rfl rfl ?_; clear S a; intro a S) | (refine zgi rfl S rfl rfl ?_; clear S a; intro a S) | (refine zga rfl S rfl rfl ?_; clear S a; intro a S) | (refine zge rfl S rfl rfl ?_; clear S a; intro a S) | (refine zgu rfl S rfl rfl ?_; clear S a; intro a S) | (refine zgb rfl S rfl rfl ?_; clear S a; intro a S) | (refine zgk rfl S rfl rfl ?_; clear S a; intro a S) | (refine zgc rfl S rfl rfl ?_; clear S a; intro a S) | (refine zgq rfl S rfl rfl ?_; clear S a; intro a S) | (refine zgv rfl S rfl rfl ?_; clear S a; intro a S) | (refine zgy rfl S rfl rfl ?_; clear S a; intro a S)) | (refine wpList_nil ?_) | (refine hZ _ _ ?_; clear hZ Z) | (refine wp_sr fun Z hZ => ?_) | (refine wp_seq_k ?_; intro Z hZ) | refine wp_block ?_ | refine wp_skip ?_ | (refine wp_exit ?_; conv => whnf) | refine wp_region_lit ?_)
  revert S a; revert hZ Z; exact Fu.e hf kk) : p := h ⟨⟩ ⟨k⟩
theorem go02 (n : Nat) {p q : Prop} (k : q) (h : Fu n → Hd q → p := by
  intro hf kk a S
  repeat ((replace hf := Fu.d hf); first | (refine isop ?_; first | (refine zgp rfl S rfl rfl rfl ?_; clear S a; intro a S) | (refine zgT rfl S rfl rfl rfl ?_) | (refine zgl rfl S rfl rfl ?_; clear S a; intro a S) | (refine zgf rfl S rfl rfl ?_; clear S a; intro a S) | (refine zgn rfl S rfl rfl ?_; clear S a; intro a S) | (refine zgS rfl S rfl rfl rfl rfl rfl ?_; clear S a; intro a S) | (refine zgi rfl S rfl rfl ?_; clear S a; intro a S) | (refine zga rfl S rfl rfl ?_; clear S a; intro a S) | (refine zge rfl S rfl rfl ?_; clear S a; intro a S) | (refine zgu rfl S rfl rfl ?_; clear S a; intro a S) | (refine zgb rfl S rfl rfl ?_; clear S a; intro a S) | (refine zgk rfl S rfl rfl ?_; clear S a; intro a S) | (refine zgc rfl S rfl rfl ?_; clear S a; intro a S) | (refine zgq rfl S rfl rfl ?_; clear S a; intro a S) | (refine zgv rfl S rfl rfl ?_; clear S a; intro a S) | (refine zgy rfl S rfl rfl ?_; clear S a; intro a S)) | (refine wpList_nil ?_) | (refine hZ _ _ ?_; clear hZ Z) | (refine wp_sr fun Z hZ => ?_) | (refine wp_seq_k ?_; intro Z hZ) | refine wp_block ?_ | refine wp_skip ?_ | (refine wp_exit ?_; conv => whnf) | refine wp_region_lit ?_)
  revert S a; revert hZ Z; revert hZ Z; exact Fu.e hf kk) : p := h ⟨⟩ ⟨k⟩
theorem go10 (n : Nat) {p q : Prop} (k : q) (h : Fu n → Hd q → p := by
  intro hf kk Z hZ a S
  repeat ((replace hf := Fu.d hf); first | (refine isop ?_; first | (refine zgp rfl S rfl rfl rfl ?_; clear S a; intro a S) | (refine zgT rfl S rfl rfl rfl ?_) | (refine zgl rfl S rfl rfl ?_; clear S a; intro a S) | (refine zgf rfl S rfl rfl ?_; clear S a; intro a S) | (refine zgn rfl S rfl rfl ?_; clear S a; intro a S) | (refine zgS rfl S rfl rfl rfl rfl rfl ?_; clear S a; intro a S) | (refine zgi rfl S rfl rfl ?_; clear S a; intro a S) | (refine zga rfl S rfl rfl ?_; clear S a; intro a S) | (refine zge rfl S rfl rfl ?_; clear S a; intro a S) | (refine zgu rfl S rfl rfl ?_; clear S a; intro a S) | (refine zgb rfl S rfl rfl ?_; clear S a; intro a S) | (refine zgk rfl S rfl rfl ?_; clear S a; intro a S) | (refine zgc rfl S rfl rfl ?_; clear S a; intro a S) | (refine zgq rfl S rfl rfl ?_; clear S a; intro a S) | (refine zgv rfl S rfl rfl ?_; clear S a; intro a S) | (refine zgy rfl S rfl rfl ?_; clear S a; intro a S)) | (refine wpList_nil ?_) | (refine hZ _ _ ?_; clear hZ Z) | (refine wp_sr fun Z hZ => ?_) | (refine wp_seq_k ?_; intro Z hZ) | refine wp_block ?_ | refine wp_skip ?_ | (refine wp_exit ?_; conv => whnf) | refine wp_region_lit ?_)
  revert S a; exact Fu.e hf kk) : p := h ⟨⟩ ⟨k⟩
theorem go11 (n : Nat) {p q : Prop} (k : q) (h : Fu n → Hd q → p := by
  intro hf kk Z hZ a S
  repeat ((replace hf := Fu.d hf); first | (refine isop ?_; first | (refine zgp rfl S rfl rfl rfl ?_; clear S a; intro a S) | (refine zgT rfl S rfl rfl rfl ?_) | (refine zgl rfl S rfl rfl ?_; clear S a; intro a S) | (refine zgf rfl S rfl rfl ?_; clear S a; intro a S) | (refine zgn rfl S rfl rfl ?_; clear S a; intro a S) | (refine zgS rfl S rfl rfl rfl rfl rfl ?_; clear S a; intro a S) | (refine zgi rfl S rfl rfl ?_; clear S a; intro a S) | (refine zga rfl S rfl rfl ?_; clear S a; intro a S) | (refine zge rfl S rfl rfl ?_; clear S a; intro a S) | (refine zgu rfl S rfl rfl ?_; clear S a; intro a S) | (refine zgb rfl S rfl rfl ?_; clear S a; intro a S) | (refine zgk rfl S rfl rfl ?_; clear S a; intro a S) | (refine zgc rfl S rfl rfl ?_; clear S a; intro a S) | (refine zgq rfl S rfl rfl ?_; clear S a; intro a S) | (refine zgv rfl S rfl rfl ?_; clear S a; intro a S) | (refine zgy rfl S rfl rfl ?_; clear S a; intro a S)) | (refine wpList_nil ?_) | (refine hZ _ _ ?_; clear hZ Z) | (refine wp_sr fun Z hZ => ?_) | (refine wp_seq_k ?_; intro Z hZ) | refine wp_block ?_ | refine wp_skip ?_ | (refine wp_exit ?_; conv => whnf) | refine wp_region_lit ?_)
  revert S a; revert hZ Z; exact Fu.e hf kk) : p := h ⟨⟩ ⟨k⟩
theorem go12 (n : Nat) {p q : Prop} (k : q) (h : Fu n → Hd q → p := by
  intro hf kk Z hZ a S
  repeat ((replace hf := Fu.d hf); first | (refine isop ?_; first | (refine zgp rfl S rfl rfl rfl ?_; clear S a; intro a S) | (refine zgT rfl S rfl rfl rfl ?_) | (refine zgl rfl S rfl rfl ?_; clear S a; intro a S) | (refine zgf rfl S rfl rfl ?_; clear S a; intro a S) | (refine zgn rfl S rfl rfl ?_; clear S a; intro a S) | (refine zgS rfl S rfl rfl rfl rfl rfl ?_; clear S a; intro a S) | (refine zgi rfl S rfl rfl ?_; clear S a; intro a S) | (refine zga rfl S rfl rfl ?_; clear S a; intro a S) | (refine zge rfl S rfl rfl ?_; clear S a; intro a S) | (refine zgu rfl S rfl rfl ?_; clear S a; intro a S) | (refine zgb rfl S rfl rfl ?_; clear S a; intro a S) | (refine zgk rfl S rfl rfl ?_; clear S a; intro a S) | (refine zgc rfl S rfl rfl ?_; clear S a; intro a S) | (refine zgq rfl S rfl rfl ?_; clear S a; intro a S) | (refine zgv rfl S rfl rfl ?_; clear S a; intro a S) | (refine zgy rfl S rfl rfl ?_; clear S a; intro a S)) | (refine wpList_nil ?_) | (refine hZ _ _ ?_; clear hZ Z) | (refine wp_sr fun Z hZ => ?_) | (refine wp_seq_k ?_; intro Z hZ) | refine wp_block ?_ | refine wp_skip ?_ | (refine wp_exit ?_; conv => whnf) | refine wp_region_lit ?_)
  revert S a; revert hZ Z; revert hZ Z; exact Fu.e hf kk) : p := h ⟨⟩ ⟨k⟩
end Go.Wk
