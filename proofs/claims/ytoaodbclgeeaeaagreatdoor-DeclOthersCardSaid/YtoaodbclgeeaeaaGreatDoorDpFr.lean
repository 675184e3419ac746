/- What the frames of this seat's laws share: programs, values, types that came in, opened; the type of errors that lies in memory when a call begins. -/
import Derived.Test.YtoaodbclgeeaeaaGreatDoorOp2
import Derived.Test.YtoaodbclgeeaeaaGreatDoorDeT
import Derived.Test.YtoaodbclgeeaeaaGreatDoorDeX
import Derived.Test.YtoaodbclgeeaeaaGreatDoorRows
import Derived.Test.YtoaodbclgeeaeaaGreatDoorCards
import Derived.Test.YtoaodbclgeeaeaaGreatDoorTie
import Derived.WalkKit
import Derived.ProofKit
import Derived.LaidMore
import Derived.LaidHandle
import Derived.Lay
import Derived.OpenShut
import Derived.ShutString
import Derived.Stop.Joined
import Derived.ChangeOld
import Derived.Below
import Derived.SizedLaws
import Derived.SevenTiedAt
namespace Go.Proofs.YtoaodbclgeeaeaaGreatDoor
open Go Go.Wk Go.Un Go.De Go.ChangeShapes Go.WideShapes Go.ChangeAt Go.RowKit
set_option linter.unusedSimpArgs false
set_option linter.unusedVariables false
open Go.ChangeMaps (open_string shut_string)

theorem ownK : ownKnob Tryz.prog.godebug = none := by kernel_rfl
theorem laidOut : laidOutB Tryz.prog = true := by kernel_rfl
def laidA : List (String × DataW Unit) := [("unicode/utf8.acceptRanges", Rows.laid_unicode_utf8_acceptRanges), ("errors.errorType", Rows.laid_errors_errorType), ("unicode/utf8.first", Rows.laid_unicode_utf8_first)]
theorem gErr : Tryz.prog.globalNamed "errors.errorType" = some 0 := by kernel_rfl
theorem rtErr : (Tryz.prog.cutTypes.find? (·.1 == "internal/reflectlite.rtype")).map (·.2) = some 141 := by kernel_rfl
theorem oneErr : ((List.range Tryz.prog.types.size).filter fun t => Tryz.prog.rowNamed t [101, 114, 114, 111, 114]) = [109] := by kernel_rfl
theorem errT_of {W : World} (h : laidMetH Tryz.prog laidA W) : ErrT (heapOf W) := by
  have h' : laidMet Tryz.prog [("unicode/utf8.acceptRanges", Rows.laid_unicode_utf8_acceptRanges), ("unicode/utf8.first", Rows.laid_unicode_utf8_first)] W ∧ handlesMet Tryz.prog [("errors.errorType", Rows.laid_errors_errorType)] W := h
  obtain ⟨name, u, ty, e1, e2, e3, e4, e5⟩ := h'.2 _ (List.mem_singleton.2 rfl)
  have en : name = [101, 114, 114, 111, 114] := (Option.some.inj e1).symm
  subst en
  obtain rfl := Option.some.inj (rtErr.symm.trans e2)
  have hm : ty ∈ (List.range Tryz.prog.types.size).filter fun t => Tryz.prog.rowNamed t [101, 114, 114, 111, 114] := List.mem_filter.2 ⟨List.mem_range.2 e3, e4⟩
  rw [oneErr] at hm
  obtain rfl := List.mem_singleton.1 hm
  have hh : typeHandle Tryz.prog 109 = hd 109 := by kernel_rfl
  rw [hh] at e5
  have h6 : W.cell? ⟨0, 0, none⟩ = some (.iface 141 (.agg #[hd 109])) := by simpa using World.var?_cell gErr e5 0
  exact (cel_of h6).2
def laidD : List (String × DataW Unit) := [("unicode/utf8.acceptRanges", Rows.laid_unicode_utf8_acceptRanges), ("unicode/utf8.first", Rows.laid_unicode_utf8_first)]
/-- A world that meets the condition: the door's own, the two tables laid. -/
noncomputable def startW (os : Os) : World := (World.doorLaid Tryz.prog 33 os).layVars Tryz.prog laidD
theorem startW_os (os : Os) : (startW os).os = os := (World.layVars_os _ _ _).trans rfl
theorem laidD_met (os : Os) : laidMet Tryz.prog laidD (startW os) :=
  laidMet_layVars (w0 := World.doorLaid Tryz.prog 33 os) ["unicode/utf8.acceptRanges", "unicode/utf8.first"] [] (by kernel_rfl) (by kernel_rfl) (by kernel_rfl) LaidIn.none
theorem doorA (os : Os) (args : Array Value) : laidMetH Tryz.prog laidA ((startW os).forCall (fun _ _ => 0) ⟨#[], args, []⟩).memory :=
  laidMetH_of_parts3 (fuel := 8) ((laidD_met os).of_heap (by simp [World.memory, World.forCall, Input.heap])) (by kernel_rfl) (by kernel_rfl)

theorem u8_nat {n : Int} (h : (Lit.int .u8 n).wf = true) : ∃ k : Nat, n = (k : Int) := by
  simp only [Lit.wf, Bool.and_eq_true, decide_eq_true_eq] at h
  have : (IntKind.u8).min = 0 := by decide
  exact ⟨n.toNat, by omega⟩
section
variable {H : Type} {enc : TypeId × Value → H} {w : World} {spare : Nat → Bool} {held : Bool}
theorem opn_any {P : Program} {m : Nat} {t e : TypeId} (ht : P.underlying t = some (.slice e)) : Opn enc P w spare held m t (fun cs => ∃ a b c, cs = [.slice a b c]) := fun fuel cs d p _ h _ => by
  rcases Go.Deep.open_slice ht h with ⟨rfl, _⟩ | ⟨x, len, cap, m, n, D, Pl, rfl, _⟩
  · exact ⟨_, _, _, rfl⟩
  · exact ⟨_, _, _, rfl⟩
theorem o_str (m : Nat) : Opn enc Tryz.prog w spare held m 9 (fun cs => ∃ s : List UInt8, cs = [.string (bs s)] ∧ s.length ≤ 140737488355328) := opn_string Tryz.underlying9
theorem o_int (m : Nat) : Opn enc Tryz.prog w spare held m 3 (fun cs => ∃ n, cs = [.int .i64 n] ∧ (Lit.int .i64 n).wf = true) := opn_int Tryz.underlying3
theorem o_i64 (m : Nat) : Opn enc Tryz.prog w spare held m 2 (fun cs => ∃ n, cs = [.int .i64 n] ∧ (Lit.int .i64 n).wf = true) := opn_int Tryz.underlying2
theorem o_u8 (m : Nat) : Opn enc Tryz.prog w spare held m 5 (fun cs => ∃ n, cs = [.int .u8 n] ∧ (Lit.int .u8 n).wf = true) := opn_int Tryz.underlying5
theorem o_bool (m : Nat) : Opn enc Tryz.prog w spare held m 4 (fun cs => ∃ b, cs = [.bool b]) := opn_bool Tryz.underlying4
theorem o_strs (m : Nat) : Opn enc Tryz.prog w spare held m 25 (fun cs => ∃ v l, cs = [v] ∧ LiM (heapOf w) 1 StR v l) :=
  opn_slice Tryz.underlying25 (by kernel_rfl) (by decide) (by kernel_rfl) ((o_str m).imp fun cs ⟨s, h, _⟩ => by subst h; exact ⟨rfl, s, rfl⟩)
theorem o_ty : ∀ m, Opn enc Tryz.prog w spare held m 24 (fun cs => cs.length = 2 ∧ ∃ x, TyR (heapOf w) x cs)
  | 0 => fun _ _ _ _ h => absurd h (Nat.not_lt_zero _)
  | m + 1 => (opn_struct Tryz.underlying24 (by kernel_rfl) (.cons (o_str m) (.cons (opn_slice Tryz.underlying22 (by kernel_rfl) (by decide) (by kernel_rfl) (o_ty m)) .nil))).imp fun cs ⟨a, b, e, ⟨s, h1, _⟩, a2, b2, e2, ⟨v, l, h2, h3⟩, e3⟩ => by
    subst e; subst h1; subst e2; subst h2; subst e3
    exact ⟨rfl, (s, foOf l), v, rfl, slf_lim h3⟩
theorem o_tys (m : Nat) : Opn enc Tryz.prog w spare held m 22 (fun cs => ∃ v l, cs = [v] ∧ SlF (heapOf w) v l) :=
  (opn_slice Tryz.underlying22 (by kernel_rfl) (by decide) (by kernel_rfl) (o_ty m)).imp fun cs ⟨v, l, h, h2⟩ => ⟨v, _, h, slf_lim h2⟩
theorem o_val : ∀ m, Opn enc Tryz.prog w spare held m 40 (fun cs => cs.length = 4 ∧ ∃ x, RoR 4 VhR (heapOf w) x cs)
  | 0 => fun _ _ _ _ h => absurd h (Nat.not_lt_zero _)
  | m + 1 => (opn_struct Tryz.underlying40 (by kernel_rfl) (.cons (o_u8 m) (.cons (o_i64 m) (.cons (o_str m) (.cons (opn_slice Tryz.underlying38 (by kernel_rfl) (by decide) (by kernel_rfl) (o_val m)) .nil))))).imp fun cs ⟨a, b, e, ⟨k, h1, hk⟩, a2, b2, e2, ⟨n, h2, _⟩, a3, b3, e3, ⟨s, h3, hs⟩, a4, b4, e4, ⟨v, l, h4, h5⟩, e5⟩ => by
    obtain ⟨k, rfl⟩ := u8_nat hk
    subst e; subst h1; subst e2; subst h2; subst e3; subst h3; subst e4; subst h4; subst e5
    exact ⟨rfl, (⟨k, n, s⟩, roseOf l), _, v, rfl, rfl, ⟨rfl, hs⟩, trs_lim h5⟩
theorem o_vals (m : Nat) : Opn enc Tryz.prog w spare held m 38 (fun cs => ∃ v l, cs = [v] ∧ TrS (heapOf w) 4 VhR v l) :=
  (opn_slice Tryz.underlying38 (by kernel_rfl) (by decide) (by kernel_rfl) (o_val m)).imp fun cs ⟨v, l, h, h2⟩ => ⟨v, _, h, trs_lim h2⟩
theorem o_pos (m : Nat) : Opn enc Tryz.prog w spare held m 45 (fun cs => ∃ l c, cs = [.int .i64 l, .int .i64 c]) :=
  ((opn_struct (m := m) Tryz.underlying45 (by kernel_rfl) (.cons (o_int m) (.cons (o_int m) .nil))).lt (Nat.le_succ m)).imp fun cs ⟨a, b, e, ⟨l, h1, _⟩, a2, b2, e2, ⟨c, h2, _⟩, e3⟩ => by
    subst e; subst h1; subst e2; subst h2; subst e3
    exact ⟨l, c, rfl⟩
theorem o_fd (m : Nat) : Opn enc Tryz.prog w spare held m 53 (fun cs => cs.length = 3 ∧ ∃ x, FdR (heapOf w) x cs) :=
  ((opn_struct (m := m) Tryz.underlying53 (by kernel_rfl) (.cons (o_str m) (.cons (o_ty m) .nil))).lt (Nat.le_succ m)).imp fun cs ⟨a, b, e, ⟨s, h1, _⟩, a2, b2, e2, ⟨_, ⟨nm, ar⟩, v, h2, h3⟩, e3⟩ => by
    subst e; subst h1; subst e2; subst h2; subst e3
    exact ⟨rfl, ⟨s, nm, ar⟩, v, rfl, h3⟩
theorem o_fds (m : Nat) : Opn enc Tryz.prog w spare held m 51 (fun cs => ∃ v l, cs = [v] ∧ LiM (heapOf w) 3 FdR v l) := opn_slice Tryz.underlying51 (by kernel_rfl) (by decide) (by kernel_rfl) (o_fd m)
theorem o_cd (m : Nat) : Opn enc Tryz.prog w spare held m 65 (fun cs => cs.length = 2 ∧ ∃ x, CdR (heapOf w) x cs) :=
  ((opn_struct (m := m) Tryz.underlying65 (by kernel_rfl) (.cons (o_str m) (.cons (o_fds m) .nil))).lt (Nat.le_succ m)).imp fun cs ⟨a, b, e, ⟨s, h1, _⟩, a2, b2, e2, ⟨v, l, h2, h3⟩, e3⟩ => by
    subst e; subst h1; subst e2; subst h2; subst e3
    exact ⟨rfl, ⟨s, l⟩, v, rfl, h3⟩
theorem o_cds (m : Nat) : Opn enc Tryz.prog w spare held m 55 (fun cs => ∃ v l, cs = [v] ∧ LiM (heapOf w) 2 CdR v l) := opn_slice Tryz.underlying55 (by kernel_rfl) (by decide) (by kernel_rfl) (o_cd m)
theorem o_td (m : Nat) : Opn enc Tryz.prog w spare held m 57 (fun cs => cs.length = 6 ∧ ∃ x, TdR (heapOf w) x cs) :=
  ((opn_struct (m := m) Tryz.underlying57 (by kernel_rfl) (.cons (o_pos m) (.cons (o_bool m) (.cons (o_str m) (.cons (o_strs m) (.cons (o_cds m) .nil)))))).lt (Nat.le_succ m)).imp fun cs ⟨a, b, e, ⟨l, c, h1⟩, a2, b2, e2, ⟨pb, h2⟩, a3, b3, e3, ⟨s, h3, _⟩, a4, b4, e4, ⟨v, ps, h4, h4'⟩, a5, b5, e5, ⟨u, cl, h5, h5'⟩, e6⟩ => by
    subst e; subst h1; subst e2; subst h2; subst e3; subst h3; subst e4; subst h4; subst e5; subst h5; subst e6
    exact ⟨rfl, ⟨l, c, pb, s, ps, cl⟩, v, u, rfl, h4', h5'⟩
theorem o_tds (m : Nat) : Opn enc Tryz.prog w spare held m 32 (fun cs => ∃ v l, cs = [v] ∧ LiM (heapOf w) 6 TdR v l) := opn_slice Tryz.underlying32 (by kernel_rfl) (by decide) (by kernel_rfl) (o_td m)
theorem o_rd (m : Nat) : Opn enc Tryz.prog w spare held m 60 (fun cs => cs.length = 6 ∧ ∃ x, RdR (heapOf w) x cs) :=
  ((opn_struct (m := m) Tryz.underlying60 (by kernel_rfl) (.cons (o_pos m) (.cons (o_bool m) (.cons (o_bool m) (.cons (o_str m) (.cons (o_fds m) .nil)))))).lt (Nat.le_succ m)).imp fun cs ⟨a, b, e, ⟨l, c, h1⟩, a2, b2, e2, ⟨pb, h2⟩, a3, b3, e3, ⟨ip, h3⟩, a4, b4, e4, ⟨s, h4, _⟩, a5, b5, e5, ⟨u, fs, h5, h5'⟩, e6⟩ => by
    subst e; subst h1; subst e2; subst h2; subst e3; subst h3; subst e4; subst h4; subst e5; subst h5; subst e6
    exact ⟨rfl, ⟨l, c, pb, ip, s, fs⟩, u, rfl, h5'⟩
theorem o_rds (m : Nat) : Opn enc Tryz.prog w spare held m 33 (fun cs => ∃ v l, cs = [v] ∧ LiM (heapOf w) 6 RdR v l) := opn_slice Tryz.underlying33 (by kernel_rfl) (by decide) (by kernel_rfl) (o_rd m)
theorem o_expr : ∀ m, Opn enc Tryz.prog w spare held m 63 (fun cs => cs.length = 9 ∧ ∃ x, RoR 9 EhR (heapOf w) x cs)
  | 0 => fun _ _ _ _ h => absurd h (Nat.not_lt_zero _)
  | m + 1 => (opn_struct Tryz.underlying63 (by kernel_rfl) (.cons (o_u8 m) (.cons (o_pos m) (.cons (o_str m) (.cons (o_val m) (.cons (opn_slice Tryz.underlying61 (by kernel_rfl) (by decide) (by kernel_rfl) (o_expr m)) .nil)))))).imp fun cs ⟨a, b, e, ⟨k, h1, hk⟩, a2, b2, e2, ⟨l, c, h2⟩, a3, b3, e3, ⟨s, h3, _⟩, a4, b4, e4, ⟨_, ⟨vh, vl⟩, c0, v0, h4, h4', hvh, hvl⟩, a5, b5, e5, ⟨v, el, h5, h5'⟩, e6⟩ => by
    obtain ⟨k, rfl⟩ := u8_nat hk
    obtain ⟨h6, h7⟩ := hvh
    subst e; subst h1; subst e2; subst h2; subst e3; subst h3; subst h6; subst e4; subst h4; subst e5; subst h5; subst e6
    exact ⟨rfl, (⟨k, l, c, s, vh, vl⟩, roseOf el), _, v, rfl, rfl, ⟨v0, rfl, hvl⟩, trs_lim h5'⟩
theorem o_exprs (m : Nat) : Opn enc Tryz.prog w spare held m 61 (fun cs => ∃ v l, cs = [v] ∧ TrS (heapOf w) 9 EhR v l) :=
  (opn_slice Tryz.underlying61 (by kernel_rfl) (by decide) (by kernel_rfl) (o_expr m)).imp fun cs ⟨v, l, h, h2⟩ => ⟨v, _, h, trs_lim h2⟩
theorem o_lit (m : Nat) : Opn enc Tryz.prog w spare held m 71 (fun cs => cs.length = 5 ∧ ∃ x, LtR (heapOf w) x cs) :=
  ((opn_struct (m := m) Tryz.underlying71 (by kernel_rfl) (.cons (o_u8 m) (.cons (o_pos m) (.cons (o_str m) (.cons (o_exprs m) .nil))))).lt (Nat.le_succ m)).imp fun cs ⟨a, b, e, ⟨k, h1, hk⟩, a2, b2, e2, ⟨l, c, h2⟩, a3, b3, e3, ⟨s, h3, _⟩, a4, b4, e4, ⟨v, el, h4, h4'⟩, e5⟩ => by
    obtain ⟨k, rfl⟩ := u8_nat hk
    subst e; subst h1; subst e2; subst h2; subst e3; subst h3; subst e4; subst h4; subst e5
    exact ⟨rfl, ⟨k, l, c, s, el⟩, v, rfl, h4'⟩
theorem o_lits (m : Nat) : Opn enc Tryz.prog w spare held m 67 (fun cs => ∃ v l, cs = [v] ∧ LiM (heapOf w) 5 LtR v l) := opn_slice Tryz.underlying67 (by kernel_rfl) (by decide) (by kernel_rfl) (o_lit m)
theorem o_rule (m : Nat) : Opn enc Tryz.prog w spare held m 69 (fun cs => cs.length = 6 ∧ ∃ x, RuR (heapOf w) x cs) :=
  ((opn_struct (m := m) Tryz.underlying69 (by kernel_rfl) (.cons (o_pos m) (.cons (o_str m) (.cons (o_exprs m) (.cons (o_strs m) (.cons (o_lits m) .nil)))))).lt (Nat.le_succ m)).imp fun cs ⟨a, b, e, ⟨l, c, h1⟩, a2, b2, e2, ⟨s, h2, _⟩, a3, b3, e3, ⟨v, el, h3, h3'⟩, a4, b4, e4, ⟨u, ag, h4, h4'⟩, a5, b5, e5, ⟨y, bl, h5, h5'⟩, e6⟩ => by
    subst e; subst h1; subst e2; subst h2; subst e3; subst h3; subst e4; subst h4; subst e5; subst h5; subst e6
    exact ⟨rfl, ⟨l, c, s, el, ag, bl⟩, v, u, y, rfl, h3', h4', h5'⟩
theorem o_never (m : Nat) : Opn enc Tryz.prog w spare held m 73 (fun cs => cs.length = 4 ∧ ∃ x, NvR (heapOf w) x cs) :=
  ((opn_struct (m := m) Tryz.underlying73 (by kernel_rfl) (.cons (o_pos m) (.cons (o_str m) (.cons (o_lits m) .nil)))).lt (Nat.le_succ m)).imp fun cs ⟨a, b, e, ⟨l, c, h1⟩, a2, b2, e2, ⟨s, h2, _⟩, a3, b3, e3, ⟨y, bl, h3, h3'⟩, e4⟩ => by
    subst e; subst h1; subst e2; subst h2; subst e3; subst h3; subst e4
    exact ⟨rfl, ⟨l, c, s, bl⟩, y, rfl, h3'⟩
theorem o_mod (m : Nat) : Opn enc Tryz.prog w spare held m 37 (fun cs => ∃ M, MdR (heapOf w) M cs) :=
  ((opn_struct (m := m) Tryz.underlying37 (by kernel_rfl) (.cons (o_str m) (.cons (opn_any Tryz.underlying31) (.cons (o_tds m) (.cons (o_rds m) (.cons (opn_slice Tryz.underlying34 (by kernel_rfl) (by decide) (by kernel_rfl) (o_rule m)) (.cons (opn_slice Tryz.underlying35 (by kernel_rfl) (by decide) (by kernel_rfl) (o_never m)) .nil))))))).lt (Nat.le_succ m)).imp
    fun cs ⟨a, b, e, ⟨s, h1, _⟩, a2, b2, e2, ⟨i1, i2, i3, h2⟩, a3, b3, e3, ⟨v1, l1, h3, h3'⟩, a4, b4, e4, ⟨v2, l2, h4, h4'⟩, a5, b5, e5, ⟨v3, l3, h5, h5'⟩, a6, b6, e6, ⟨v4, l4, h6, h6'⟩, e7⟩ => by
    subst e; subst h1; subst e2; subst h2; subst e3; subst h3; subst e4; subst h4; subst e5; subst h5; subst e6; subst h6; subst e7
    exact ⟨⟨s, l1, l2, l3, l4⟩, i1, i2, i3, v1, v2, v3, v4, rfl, h3', h4', h5', h6'⟩
end
theorem vac_of {F : Heap} {x : VH × Vf} {cs : List Value} (h : RoR 4 VhR F x cs) : VaC F cs x.1 x.2 := by
  obtain ⟨c0, v, rfl, -, ⟨rfl, hs⟩, hv⟩ := h
  exact ⟨v, rfl, hv, hs⟩
end Go.Proofs.YtoaodbclgeeaeaaGreatDoor
