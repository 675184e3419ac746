/- Walks. -/
import Derived.Test.YtbhipiepfclneaaGreatDoorQ05
namespace Go.Wk
open Go
set_option linter.unusedVariables false
structure Fu (n : Nat) : Prop where
structure Hd (q : Prop) : Prop where h : q
theorem Fu.e {q : Prop} (_ : Fu 0) (k : Hd q) : q := k.h
theorem Fu.d {n : Nat} (_ : Fu (n + 1)) : Fu n := ⟨⟩
def kop (o : Oper) : Nat := match o.guard with
 | some _ => 0
 | none => match o.op with
  | .load _ _ => 2 | .fieldAddr _ _ _ => 3 | .indexAddr _ _ _ => 4 | .binOp .add _ _ _ _ => 5 | .binOp .sub _ _ _ _ => 6 | .binOp .eql _ _ _ _ => 7 | .binOp .neq _ _ _ _ => 8 | .build _ _ => 9
  | .call ⟨.builtin _, _, _⟩ => 10 | .makeInterface _ _ => 11 | .nilCheck _ => 12 | .convert _ _ _ => 13 | .pick _ _ _ => 14
  | .move _ => 1 | .assign _ => 1 | .extract _ _ => 1 | .makeFunc _ _ _ => 1 | .unOp _ _ _ => 1 | .binOp _ _ _ _ _ => 1
  | _ => 15
theorem q2b {o : Oper} {n : Nat} (h : kop o = n + 1) : o.guard = none := by
 unfold kop at h
 cases e : o.guard with
 | none => rfl
 | some _ => rw [e] at h; cases h
section
variable {P : Program} {n : Sz} {L : List (Nat × Value)} {w0 : World} {F0 : q01} {K0 : List Nat} {F : q01} {G : List Grp} {a : Act} {w : World} {ops : Array Oper} {Q : Exit → Act → World → Prop} {rest : List Oper} {d : Nat} {o : Oper} {v : Value}
theorem ubp (k : wpList P ops Q (o :: rest) a w) : wpList P ops Q (o :: rest) a w := k
theorem zgp (hk : kop o = 1) (S : St n L w0 F0 K0 F G a w) (h : qgc L o.op = some v) (hd : o.dst = some d) (hn : Nat.blt d n.sz = true) (k : ∀ a', St n ((d, v) :: L) w0 F0 K0 F G a' w → wpList P ops Q rest a' w) : wpList P ops Q (o :: rest) a w :=
 q6b S (q2b hk) hd hn (q09 S h) k
theorem zgT {j dj : Nat} {x : Bool} (hk : kop o = 0) (S : St n L w0 F0 K0 F G a w) (hg : o.guard = some (j, x)) (hj : (ops[j]?).bind (·.dst) = some dj) (hb : look L dj = some (.bool x)) (k : wpList P ops Q ({ o with guard := none } :: rest) a w) : wpList P ops Q (o :: rest) a w :=
 q1j S hg hj hb k
theorem zgS {j dj : Nat} {x : Bool} (hk : kop o = 0) (S : St n L w0 F0 K0 F G a w) (hg : o.guard = some (j, x)) (hj : (ops[j]?).bind (·.dst) = some dj) (hb : look L dj = some (.bool (!x))) (hd : o.dst = some d) (hn : Nat.blt d n.sz = true) (k : ∀ a', St n ((d, undef) :: L) w0 F0 K0 F G a' w → wpList P ops Q rest a' w) : wpList P ops Q (o :: rest) a w :=
 qj9 S hg hj hb hd hn k
theorem zgl (hk : kop o = 2) (S : St n L w0 F0 K0 F G a w) (hd : o.dst = some d) (hn : Nat.blt d n.sz = true) (k : ∀ a', St n ((d, v) :: L) w0 F0 K0 F G a' w → wpList P ops Q rest a' w) (h : SV P o a w v := by first | exact q0f S rfl rfl (by rfl) | exact q05 S rfl rfl (by assumption) | exact q1v S rfl rfl (by rfl) | exact q18 S rfl rfl (by assumption) (by rfl)) : wpList P ops Q (o :: rest) a w :=
 q6b S (q2b hk) hd hn h k
theorem zgf (hk : kop o = 3) (S : St n L w0 F0 K0 F G a w) (hd : o.dst = some d) (hn : Nat.blt d n.sz = true) (k : ∀ a', St n ((d, v) :: L) w0 F0 K0 F G a' w → wpList P ops Q rest a' w) (h : SV P o a w v := by exact q0w S rfl rfl rfl inferInstance rfl) : wpList P ops Q (o :: rest) a w :=
 q6b S (q2b hk) hd hn h k
theorem zgi (hk : kop o = 4) (S : St n L w0 F0 K0 F G a w) (hd : o.dst = some d) (hn : Nat.blt d n.sz = true) (k : ∀ a', St n ((d, v) :: L) w0 F0 K0 F G a' w → wpList P ops Q rest a' w) (h : SV P o a w v := by exact q28 S rfl rfl rfl (by first | omega | (simp only [qaA, qaC, qaD]; omega))) : wpList P ops Q (o :: rest) a w :=
 q6b S (q2b hk) hd hn h k
theorem zga (hk : kop o = 5) (S : St n L w0 F0 K0 F G a w) (hd : o.dst = some d) (hn : Nat.blt d n.sz = true) (k : ∀ a', St n ((d, v) :: L) w0 F0 K0 F G a' w → wpList P ops Q rest a' w) (h : SV P o a w v := by exact q20 S rfl rfl rfl (by first | omega | (simp only [qaA, qaC, qaD]; omega))) : wpList P ops Q (o :: rest) a w :=
 q6b S (q2b hk) hd hn h k
theorem zgu (hk : kop o = 6) (S : St n L w0 F0 K0 F G a w) (hd : o.dst = some d) (hn : Nat.blt d n.sz = true) (k : ∀ a', St n ((d, v) :: L) w0 F0 K0 F G a' w → wpList P ops Q rest a' w) (h : SV P o a w v := by exact q1a S rfl rfl rfl (by first | omega | (simp only [qaA, qaC, qaD]; omega))) : wpList P ops Q (o :: rest) a w :=
 q6b S (q2b hk) hd hn h k
theorem zge (hk : kop o = 7) (S : St n L w0 F0 K0 F G a w) (hd : o.dst = some d) (hn : Nat.blt d n.sz = true) (k : ∀ a', St n ((d, v) :: L) w0 F0 K0 F G a' w → wpList P ops Q rest a' w) (h : SV P o a w v := by first | exact q09 S rfl | exact qve S rfl rfl rfl | exact qb0 S rfl rfl rfl) : wpList P ops Q (o :: rest) a w :=
 q6b S (q2b hk) hd hn h k
theorem zgq (hk : kop o = 8) (S : St n L w0 F0 K0 F G a w) (hd : o.dst = some d) (hn : Nat.blt d n.sz = true) (k : ∀ a', St n ((d, v) :: L) w0 F0 K0 F G a' w → wpList P ops Q rest a' w) (h : SV P o a w v := by first | exact q09 S rfl | exact qup S rfl rfl rfl) : wpList P ops Q (o :: rest) a w :=
 q6b S (q2b hk) hd hn h k
theorem zgb (hk : kop o = 9) (S : St n L w0 F0 K0 F G a w) (hd : o.dst = some d) (hn : Nat.blt d n.sz = true) (k : ∀ a', St n ((d, v) :: L) w0 F0 K0 F G a' w → wpList P ops Q rest a' w) (h : SV P o a w v := by exact q74 S rfl rfl rfl) : wpList P ops Q (o :: rest) a w :=
 q6b S (q2b hk) hd hn h k
theorem zgn (hk : kop o = 10) (S : St n L w0 F0 K0 F G a w) (hd : o.dst = some d) (hn : Nat.blt d n.sz = true) (k : ∀ a', St n ((d, v) :: L) w0 F0 K0 F G a' w → wpList P ops Q rest a' w) (h : SV P o a w v := by first | exact q7n S rfl rfl | exact qqi S rfl rfl) : wpList P ops Q (o :: rest) a w :=
 q6b S (q2b hk) hd hn h k
theorem zgk (hk : kop o = 11) (S : St n L w0 F0 K0 F G a w) (hd : o.dst = some d) (hn : Nat.blt d n.sz = true) (k : ∀ a', St n ((d, v) :: L) w0 F0 K0 F G a' w → wpList P ops Q rest a' w) (h : SV P o a w v := by exact qax S rfl rfl) : wpList P ops Q (o :: rest) a w :=
 q6b S (q2b hk) hd hn h k
theorem zgc (hk : kop o = 12) (S : St n L w0 F0 K0 F G a w) (hd : o.dst = some d) (hn : Nat.blt d n.sz = true) (k : ∀ a', St n ((d, v) :: L) w0 F0 K0 F G a' w → wpList P ops Q rest a' w) (h : SV P o a w v := by exact q2i S rfl rfl) : wpList P ops Q (o :: rest) a w :=
 q6b S (q2b hk) hd hn h k
theorem zgv (hk : kop o = 13) (S : St n L w0 F0 K0 F G a w) (hd : o.dst = some d) (hn : Nat.blt d n.sz = true) (k : ∀ a', St n ((d, v) :: L) w0 F0 K0 F G a' w → wpList P ops Q rest a' w) (h : SV P o a w v := by exact qe8 S rfl rfl) : wpList P ops Q (o :: rest) a w :=
 q6b S (q2b hk) hd hn h k
theorem zgy (hk : kop o = 14) (S : St n L w0 F0 K0 F G a w) (hd : o.dst = some d) (hn : Nat.blt d n.sz = true) (k : ∀ a', St n ((d, v) :: L) w0 F0 K0 F G a' w → wpList P ops Q rest a' w) (h : SV P o a w v := by first | exact q09 S rfl | exact qhr S rfl rfl rfl rfl) : wpList P ops Q (o :: rest) a w :=
 q6b S (q2b hk) hd hn h k
theorem zgU {j dj : Nat} {x : Bool} (hk : kop o = 0) (S : St n L w0 F0 K0 F G a w) (hg : o.guard = some (j, x)) (hj : (ops[j]?).bind (·.dst) = some dj) (hb : look L dj = some undef) (hd : o.dst = some d) (hn : Nat.blt d n.sz = true) (k : ∀ a', St n ((d, undef) :: L) w0 F0 K0 F G a' w → wpList P ops Q rest a' w) : wpList P ops Q (o :: rest) a w :=
 qo5 S hg hj hb hd hn k
variable {Kl : List (Nat × Obj)} {pf late brk : List Nat} {r : Od} {live : Bool} {Fk : q01} {k : Nat}
theorem ism (h : wpM P ops Q (KwF Fk Kl) pf late brk live (.one k r) a w) : wpM P ops Q (KwF Fk Kl) pf late brk live (.one k r) a w := h
def kom (ops : Array Oper) (pf late : List Nat) (k : Nat) : Nat := match ops[k]? with
 | none => 17
 | some o => if pf.contains k then (if late.contains k then 16 else match kop { o with guard := none } with | 0 => 15 | c + 1 => c + 1) else 0
theorem u2m (p : Oper) : kop p ≤ 15 := by unfold kop; (repeat' split) <;> omega
theorem q27 {c : Nat} (h : kom ops pf late k = c + 1) (hc : c ≤ 14) : pf.contains k = true ∧ late.contains k = false := by
 unfold kom at h
 split at h
 ·omega
 ·split at h
  ·rename_i h1
   split at h
   ·omega
   ·rename_i h2
    exact ⟨h1, by simpa using h2⟩
  ·omega
theorem qi0 (h : kom ops pf late k = 16) : pf.contains k = true ∧ late.contains k = true := by
 unfold kom at h
 split at h
 ·omega
 ·split at h
  ·rename_i h1
   split at h
   ·rename_i h2; exact ⟨h1, h2⟩
   ·rename_i o _ _
    exfalso
    have h9 := u2m { o with guard := none }
    split at h <;> omega
  ·omega
theorem zmp (hk : kom ops pf late k = 1) (S : St n L w0 F0 K0 F G a w) (ho : ops[k]? = some o) (hd : o.dst = some d) (hn : Nat.blt d n.sz = true) (kk : ∀ a', St n ((d, v) :: L) w0 F0 K0 F G a' w → wpM P ops Q (KwF Fk Kl) pf late brk live r a' w) (hw : Region.wanted o (yielded ops a.tmps) = true := by first | exact q06 _ rfl | exact q1k S rfl rfl rfl) (h : ∀ w', St n L w' q1e [] q1e [] a w' → SV P o a w' v := by intro w' S; exact q09 S rfl) : wpM P ops Q (KwF Fk Kl) pf late brk live (.one k r) a w :=
 q19 S ho (q27 hk (by decide)).1 (q27 hk (by decide)).2 hw hd hn h kk
theorem zmf (hk : kom ops pf late k = 3) (S : St n L w0 F0 K0 F G a w) (ho : ops[k]? = some o) (hd : o.dst = some d) (hn : Nat.blt d n.sz = true) (kk : ∀ a', St n ((d, v) :: L) w0 F0 K0 F G a' w → wpM P ops Q (KwF Fk Kl) pf late brk live r a' w) (hw : Region.wanted o (yielded ops a.tmps) = true := by first | exact q06 _ rfl | exact q1k S rfl rfl rfl) (h : ∀ w', St n L w' q1e [] q1e [] a w' → SV P o a w' v := by intro w' S; exact q0w S rfl rfl rfl inferInstance rfl) : wpM P ops Q (KwF Fk Kl) pf late brk live (.one k r) a w :=
 q19 S ho (q27 hk (by decide)).1 (q27 hk (by decide)).2 hw hd hn h kk
theorem zmi (hk : kom ops pf late k = 4) (S : St n L w0 F0 K0 F G a w) (ho : ops[k]? = some o) (hd : o.dst = some d) (hn : Nat.blt d n.sz = true) (kk : ∀ a', St n ((d, v) :: L) w0 F0 K0 F G a' w → wpM P ops Q (KwF Fk Kl) pf late brk live r a' w) (hw : Region.wanted o (yielded ops a.tmps) = true := by first | exact q06 _ rfl | exact q1k S rfl rfl rfl) (h : ∀ w', St n L w' q1e [] q1e [] a w' → SV P o a w' v := by intro w' S; exact q28 S rfl rfl rfl (by first | omega | (simp only [qaA, qaC, qaD]; omega))) : wpM P ops Q (KwF Fk Kl) pf late brk live (.one k r) a w :=
 q19 S ho (q27 hk (by decide)).1 (q27 hk (by decide)).2 hw hd hn h kk
theorem zma (hk : kom ops pf late k = 5) (S : St n L w0 F0 K0 F G a w) (ho : ops[k]? = some o) (hd : o.dst = some d) (hn : Nat.blt d n.sz = true) (kk : ∀ a', St n ((d, v) :: L) w0 F0 K0 F G a' w → wpM P ops Q (KwF Fk Kl) pf late brk live r a' w) (hw : Region.wanted o (yielded ops a.tmps) = true := by first | exact q06 _ rfl | exact q1k S rfl rfl rfl) (h : ∀ w', St n L w' q1e [] q1e [] a w' → SV P o a w' v := by intro w' S; exact q20 S rfl rfl rfl (by first | omega | (simp only [qaA, qaC, qaD]; omega))) : wpM P ops Q (KwF Fk Kl) pf late brk live (.one k r) a w :=
 q19 S ho (q27 hk (by decide)).1 (q27 hk (by decide)).2 hw hd hn h kk
theorem zmu (hk : kom ops pf late k = 6) (S : St n L w0 F0 K0 F G a w) (ho : ops[k]? = some o) (hd : o.dst = some d) (hn : Nat.blt d n.sz = true) (kk : ∀ a', St n ((d, v) :: L) w0 F0 K0 F G a' w → wpM P ops Q (KwF Fk Kl) pf late brk live r a' w) (hw : Region.wanted o (yielded ops a.tmps) = true := by first | exact q06 _ rfl | exact q1k S rfl rfl rfl) (h : ∀ w', St n L w' q1e [] q1e [] a w' → SV P o a w' v := by intro w' S; exact q1a S rfl rfl rfl (by first | omega | (simp only [qaA, qaC, qaD]; omega))) : wpM P ops Q (KwF Fk Kl) pf late brk live (.one k r) a w :=
 q19 S ho (q27 hk (by decide)).1 (q27 hk (by decide)).2 hw hd hn h kk
theorem zme (hk : kom ops pf late k = 7) (S : St n L w0 F0 K0 F G a w) (ho : ops[k]? = some o) (hd : o.dst = some d) (hn : Nat.blt d n.sz = true) (kk : ∀ a', St n ((d, v) :: L) w0 F0 K0 F G a' w → wpM P ops Q (KwF Fk Kl) pf late brk live r a' w) (hw : Region.wanted o (yielded ops a.tmps) = true := by first | exact q06 _ rfl | exact q1k S rfl rfl rfl) (h : ∀ w', St n L w' q1e [] q1e [] a w' → SV P o a w' v := by intro w' S; first | exact q09 S rfl | exact qve S rfl rfl rfl | exact qb0 S rfl rfl rfl) : wpM P ops Q (KwF Fk Kl) pf late brk live (.one k r) a w :=
 q19 S ho (q27 hk (by decide)).1 (q27 hk (by decide)).2 hw hd hn h kk
theorem zmq (hk : kom ops pf late k = 8) (S : St n L w0 F0 K0 F G a w) (ho : ops[k]? = some o) (hd : o.dst = some d) (hn : Nat.blt d n.sz = true) (kk : ∀ a', St n ((d, v) :: L) w0 F0 K0 F G a' w → wpM P ops Q (KwF Fk Kl) pf late brk live r a' w) (hw : Region.wanted o (yielded ops a.tmps) = true := by first | exact q06 _ rfl | exact q1k S rfl rfl rfl) (h : ∀ w', St n L w' q1e [] q1e [] a w' → SV P o a w' v := by intro w' S; first | exact q09 S rfl | exact qup S rfl rfl rfl) : wpM P ops Q (KwF Fk Kl) pf late brk live (.one k r) a w :=
 q19 S ho (q27 hk (by decide)).1 (q27 hk (by decide)).2 hw hd hn h kk
theorem zmb (hk : kom ops pf late k = 9) (S : St n L w0 F0 K0 F G a w) (ho : ops[k]? = some o) (hd : o.dst = some d) (hn : Nat.blt d n.sz = true) (kk : ∀ a', St n ((d, v) :: L) w0 F0 K0 F G a' w → wpM P ops Q (KwF Fk Kl) pf late brk live r a' w) (hw : Region.wanted o (yielded ops a.tmps) = true := by first | exact q06 _ rfl | exact q1k S rfl rfl rfl) (h : ∀ w', St n L w' q1e [] q1e [] a w' → SV P o a w' v := by intro w' S; exact q74 S rfl rfl rfl) : wpM P ops Q (KwF Fk Kl) pf late brk live (.one k r) a w :=
 q19 S ho (q27 hk (by decide)).1 (q27 hk (by decide)).2 hw hd hn h kk
theorem zmn (hk : kom ops pf late k = 10) (S : St n L w0 F0 K0 F G a w) (ho : ops[k]? = some o) (hd : o.dst = some d) (hn : Nat.blt d n.sz = true) (kk : ∀ a', St n ((d, v) :: L) w0 F0 K0 F G a' w → wpM P ops Q (KwF Fk Kl) pf late brk live r a' w) (hw : Region.wanted o (yielded ops a.tmps) = true := by first | exact q06 _ rfl | exact q1k S rfl rfl rfl) (h : ∀ w', St n L w' q1e [] q1e [] a w' → SV P o a w' v := by intro w' S; first | exact q7n S rfl rfl | exact qqi S rfl rfl) : wpM P ops Q (KwF Fk Kl) pf late brk live (.one k r) a w :=
 q19 S ho (q27 hk (by decide)).1 (q27 hk (by decide)).2 hw hd hn h kk
theorem zmk (hk : kom ops pf late k = 11) (S : St n L w0 F0 K0 F G a w) (ho : ops[k]? = some o) (hd : o.dst = some d) (hn : Nat.blt d n.sz = true) (kk : ∀ a', St n ((d, v) :: L) w0 F0 K0 F G a' w → wpM P ops Q (KwF Fk Kl) pf late brk live r a' w) (hw : Region.wanted o (yielded ops a.tmps) = true := by first | exact q06 _ rfl | exact q1k S rfl rfl rfl) (h : ∀ w', St n L w' q1e [] q1e [] a w' → SV P o a w' v := by intro w' S; exact qax S rfl rfl) : wpM P ops Q (KwF Fk Kl) pf late brk live (.one k r) a w :=
 q19 S ho (q27 hk (by decide)).1 (q27 hk (by decide)).2 hw hd hn h kk
theorem zmc (hk : kom ops pf late k = 12) (S : St n L w0 F0 K0 F G a w) (ho : ops[k]? = some o) (hd : o.dst = some d) (hn : Nat.blt d n.sz = true) (kk : ∀ a', St n ((d, v) :: L) w0 F0 K0 F G a' w → wpM P ops Q (KwF Fk Kl) pf late brk live r a' w) (hw : Region.wanted o (yielded ops a.tmps) = true := by first | exact q06 _ rfl | exact q1k S rfl rfl rfl) (h : ∀ w', St n L w' q1e [] q1e [] a w' → SV P o a w' v := by intro w' S; exact q2i S rfl rfl) : wpM P ops Q (KwF Fk Kl) pf late brk live (.one k r) a w :=
 q19 S ho (q27 hk (by decide)).1 (q27 hk (by decide)).2 hw hd hn h kk
theorem zmv (hk : kom ops pf late k = 13) (S : St n L w0 F0 K0 F G a w) (ho : ops[k]? = some o) (hd : o.dst = some d) (hn : Nat.blt d n.sz = true) (kk : ∀ a', St n ((d, v) :: L) w0 F0 K0 F G a' w → wpM P ops Q (KwF Fk Kl) pf late brk live r a' w) (hw : Region.wanted o (yielded ops a.tmps) = true := by first | exact q06 _ rfl | exact q1k S rfl rfl rfl) (h : ∀ w', St n L w' q1e [] q1e [] a w' → SV P o a w' v := by intro w' S; exact qe8 S rfl rfl) : wpM P ops Q (KwF Fk Kl) pf late brk live (.one k r) a w :=
 q19 S ho (q27 hk (by decide)).1 (q27 hk (by decide)).2 hw hd hn h kk
theorem zmy (hk : kom ops pf late k = 14) (S : St n L w0 F0 K0 F G a w) (ho : ops[k]? = some o) (hd : o.dst = some d) (hn : Nat.blt d n.sz = true) (kk : ∀ a', St n ((d, v) :: L) w0 F0 K0 F G a' w → wpM P ops Q (KwF Fk Kl) pf late brk live r a' w) (hw : Region.wanted o (yielded ops a.tmps) = true := by first | exact q06 _ rfl | exact q1k S rfl rfl rfl) (h : ∀ w', St n L w' q1e [] q1e [] a w' → SV P o a w' v := by intro w' S; first | exact q09 S rfl | exact qhr S rfl rfl rfl rfl) : wpM P ops Q (KwF Fk Kl) pf late brk live (.one k r) a w :=
 q19 S ho (q27 hk (by decide)).1 (q27 hk (by decide)).2 hw hd hn h kk
theorem zmo {t : TypeId} {x : Operand} {b off : Nat} {ob : Obj} {R} (hk : kom ops pf late k = 16) (S : St n L w0 F0 K0 F G a w) (ho : ops[k]? = some o) (hop : o.op = .load t x) (hx : ev L x = some (.pointer (some ⟨b, off, none⟩))) (hd : o.dst = some d) (hn : Nat.blt d n.sz = true) [hh : Has G b ob R] [hq : u1v Kl b ob] (kk : ∀ a', St n ((d, v) :: L) w0 F0 K0 F G a' w → wpM P ops Q (KwF Fk Kl) pf late brk live r a' w) (hw : Region.wanted o (yielded ops a.tmps) = true := by first | exact q06 _ rfl | exact q1k S rfl rfl rfl) (h : ∀ w', St n L w' q1e (keys [[(b, ob)]]) q1e [[(b, ob)]] a w' → SV P o a w' v := by intro w' S; first | exact q0f S rfl rfl (by rfl) | exact q1v S rfl rfl (by rfl)) : wpM P ops Q (KwF Fk Kl) pf late brk live (.one k r) a w :=
 q1g b S ho (qi0 hk).1 (qi0 hk).2 hw hd hn h kk
theorem zml (hk : kom ops pf late k = 16) (S : St n L w0 F0 K0 F G a w) (ho : ops[k]? = some o) (hd : o.dst = some d) (hn : Nat.blt d n.sz = true) (kk : ∀ a', St n ((d, v) :: L) w0 F0 K0 F G a' w → wpM P ops Q (KwF Fk Kl) pf late brk live r a' w) (hw : Region.wanted o (yielded ops a.tmps) = true := by first | exact q06 _ rfl | exact q1k S rfl rfl rfl) (h : ∀ w', St n L w' Fk [] Fk [] a w' → SV P o a w' v := by intro w' S; first | exact q05 S rfl rfl (by assumption) | exact q18 S rfl rfl (by assumption) (by rfl)) : wpM P ops Q (KwF Fk Kl) pf late brk live (.one k r) a w :=
 qdu S ho (qi0 hk).1 (qi0 hk).2 hw hd hn h kk
end
theorem go (n : Nat) {p q : Prop} (k : q) (h : Fu n → Hd q → p := by
 intro hf kk
 first | intro Z hZ Z hZ a S | intro Z hZ a S | intro a S
 repeat ((replace hf := Fu.d hf); first | (refine ubp ?_; first | (refine zgp rfl S rfl rfl rfl ?_; clear S a; intro a S) | (refine zgT rfl S rfl rfl rfl ?_) | (refine zgl rfl S rfl rfl ?_; clear S a; intro a S) | (refine zgf rfl S rfl rfl ?_; clear S a; intro a S) | (refine zgn rfl S rfl rfl ?_; clear S a; intro a S) | (refine zgS rfl S rfl rfl rfl rfl rfl ?_; clear S a; intro a S) | (refine zgU rfl S rfl rfl rfl rfl rfl ?_; clear S a; intro a S) | (refine zgi rfl S rfl rfl ?_; clear S a; intro a S) | (refine zga rfl S rfl rfl ?_; clear S a; intro a S) | (refine zge rfl S rfl rfl ?_; clear S a; intro a S) | (refine zgu rfl S rfl rfl ?_; clear S a; intro a S) | (refine zgb rfl S rfl rfl ?_; clear S a; intro a S) | (refine zgk rfl S rfl rfl ?_; clear S a; intro a S) | (refine zgc rfl S rfl rfl ?_; clear S a; intro a S) | (refine zgq rfl S rfl rfl ?_; clear S a; intro a S) | (refine zgv rfl S rfl rfl ?_; clear S a; intro a S) | (refine zgy rfl S rfl rfl ?_; clear S a; intro a S)) | (refine wpList_nil ?_) | (refine ism ?_; first | (refine zmp rfl S rfl rfl rfl ?_; clear S a; intro a S) | (refine zmf rfl S rfl rfl rfl ?_; clear S a; intro a S) | (refine zmn rfl S rfl rfl rfl ?_; clear S a; intro a S) | (refine zmi rfl S rfl rfl rfl ?_; clear S a; intro a S) | (refine zmo rfl S rfl rfl rfl rfl rfl ?_; clear S a; intro a S) | (refine zma rfl S rfl rfl rfl ?_; clear S a; intro a S) | (refine zme rfl S rfl rfl rfl ?_; clear S a; intro a S) | (refine zmu rfl S rfl rfl rfl ?_; clear S a; intro a S) | (refine zmb rfl S rfl rfl rfl ?_; clear S a; intro a S) | (refine zmy rfl S rfl rfl rfl ?_; clear S a; intro a S) | (refine zmk rfl S rfl rfl rfl ?_; clear S a; intro a S) | (refine zmc rfl S rfl rfl rfl ?_; clear S a; intro a S) | (refine zmq rfl S rfl rfl rfl ?_; clear S a; intro a S) | (refine zmv rfl S rfl rfl rfl ?_; clear S a; intro a S) | (refine zml rfl S rfl rfl rfl ?_; clear S a; intro a S) | (refine qtl S rfl rfl (by first | exact qcz S rfl rfl rfl | exact q8d S rfl rfl rfl) rfl rfl ?_; clear S a; intro a S) | (refine q1q rfl rfl (kwa S) ?_)) | (refine q5g (kwa S) ?_) | (refine hZ _ _ ?_; clear hZ Z) | (refine q1i fun Z hZ => ?_) | (refine wp_seq_k ?_; intro Z hZ) | refine wp_block ?_ | refine wp_skip ?_ | (refine wp_exit ?_; conv => whnf) | refine wp_region_lit ?_)
 first | (revert S a; exact Fu.e hf kk) | (revert S a; revert hZ Z; exact Fu.e hf kk) | (revert S a; revert hZ Z; revert hZ Z; exact Fu.e hf kk)) : p := h ⟨⟩ ⟨k⟩
