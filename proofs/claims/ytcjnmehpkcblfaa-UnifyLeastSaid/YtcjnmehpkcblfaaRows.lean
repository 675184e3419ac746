/-
  NARROWER THAN 'FOR EVERY INPUT', by the rows' own cells (each row's printed sentence says how): UnifySame: loops · UnifyOrder: loops · UnifyLeast: loops.
  DERIVED. THE GIVEN ROWS OF THIS SEAT. 3 by the template 'for every input the law returns true; each argument reads behind the call as it read before'; 0 by the template 'total and deterministic' (their statements: YtcjnmehpkcblfaaTotals.lean).
  GIVEN WITH THE SEED: the statements are not yours to turn. If you find one false, say at which input.
  Laid BY PROGRAM, IN A SANDBOX (cutbox-rows.mjs): the forced cells as the released guide's own fill.sh prints them over the translation 3e4a6663d44a70fe… (all of the seat's roots in one cut). By AI agents, Wed Nov 11 2026. No macro, syntax, notation, axiom, sorry.
-/
import Derived.Test.YtcjnmehpkcblfaaChecked
import GoSem.Claim
import GoSem.ClaimJoined
import GoSem.ClaimMapViews
import Derived.JoinedTies
import Derived.KernelRfl
namespace Go.Proofs.Ytcjnmehpkcblfaa
/- THE CELL 'sum', in the pinned program and in every row, IS THE sha256 OF THE DUMP (.gsa) THAT YtcjnmehpkcblfaaProg.lean LOADS. Nothing in Lean hashes anything: it is a label: what it is worth is what the hold of that sum in a sandbox is worth. -/
noncomputable def Try.pinned : Pinned := { name := "ytcjnmehpkcblfaa", sum := "3e4a6663d44a70feeba67e57a227e23d03b9f5e408ef9ff622bad6eecdead1ad", checked := Try.checked }
namespace Rows
def none {H : Type} : Left H := { results := [], args := [] }

/-- 'corollarylaw09.UnifySame': WHATEVER THE INPUT: true; the input reads as it did. -/
def unifySameSpec : ChangeSpec := { name := "unifySame", fn := fun _ => fun
  | [d] => { results := [.lit (.bool true)], args := [d] }
  | _ => none }
def unifySameRow : OpenClaim := { program := "ytcjnmehpkcblfaa", sum := "3e4a6663d44a70feeba67e57a227e23d03b9f5e408ef9ff622bad6eecdead1ad", func := "corollary/corollarylaw09.UnifySame", spec := "unifySame", inPlace := ["maps.clone"], unfollowed := true, recurses := true, loops := true, apart := false }
def UnifySameSaid : Prop := unifySameRow.holds Try.pinned (OpenSpec.ofChange unifySameSpec)

/-- ITS FALSE NEIGHBOUR: 'it returns false'. Refute it at one input. -/
def unifySameWrong : ChangeSpec := { name := "unifySame", fn := fun _ => fun
  | [d] => { results := [.lit (.bool false)], args := [d] }
  | _ => none }
def UnifySameWrongFalsely : Prop := unifySameRow.holds Try.pinned (OpenSpec.ofChange unifySameWrong)

/-- 'corollarylaw09.UnifyOrder': WHATEVER THE INPUT: true; the input reads as it did. -/
def unifyOrderSpec : ChangeSpec := { name := "unifyOrder", fn := fun _ => fun
  | [d1, d2] => { results := [.lit (.bool true)], args := [d1, d2] }
  | _ => none }
def unifyOrderRow : OpenClaim := { program := "ytcjnmehpkcblfaa", sum := "3e4a6663d44a70feeba67e57a227e23d03b9f5e408ef9ff622bad6eecdead1ad", func := "corollary/corollarylaw09.UnifyOrder", spec := "unifyOrder", inPlace := ["maps.clone"], unfollowed := true, recurses := true, loops := true, apart := false }
def UnifyOrderSaid : Prop := unifyOrderRow.holds Try.pinned (OpenSpec.ofChange unifyOrderSpec)

/-- ITS FALSE NEIGHBOUR: 'it returns false'. Refute it at one input. -/
def unifyOrderWrong : ChangeSpec := { name := "unifyOrder", fn := fun _ => fun
  | [d1, d2] => { results := [.lit (.bool false)], args := [d1, d2] }
  | _ => none }
def UnifyOrderWrongFalsely : Prop := unifyOrderRow.holds Try.pinned (OpenSpec.ofChange unifyOrderWrong)

/-- 'corollarylaw09.UnifyLeast': WHATEVER THE INPUT: true; the input reads as it did. -/
def unifyLeastSpec : ChangeSpec := { name := "unifyLeast", fn := fun _ => fun
  | [d1, d2] => { results := [.lit (.bool true)], args := [d1, d2] }
  | _ => none }
def unifyLeastRow : OpenClaim := { program := "ytcjnmehpkcblfaa", sum := "3e4a6663d44a70feeba67e57a227e23d03b9f5e408ef9ff622bad6eecdead1ad", func := "corollary/corollarylaw09.UnifyLeast", spec := "unifyLeast", inPlace := ["maps.clone"], unfollowed := true, recurses := true, loops := true, apart := false }
def UnifyLeastSaid : Prop := unifyLeastRow.holds Try.pinned (OpenSpec.ofChange unifyLeastSpec)

/-- ITS FALSE NEIGHBOUR: 'it returns false'. Refute it at one input. -/
def unifyLeastWrong : ChangeSpec := { name := "unifyLeast", fn := fun _ => fun
  | [d1, d2] => { results := [.lit (.bool false)], args := [d1, d2] }
  | _ => none }
def UnifyLeastWrongFalsely : Prop := unifyLeastRow.holds Try.pinned (OpenSpec.ofChange unifyLeastWrong)

/- THE SECOND FORM. 'bulk': how many values and letters a reading holds, each counted each time it is reached (what is shared counts as often as it is met; a slice's spare places count too). A statement '..UptoSaid' is the law's where the arguments, and the package variables that the reading takes, are together of bulk at most 1048576: NARROWER than '..Said'. Prove '..Said' where nothing that the law and all that it calls make is longer than what came in: it says more and counts as full. Else prove '..UptoSaid'. A law counts once. -/
mutual
def uptoBulk {H : Type} : DataW H → Nat
  | .lit (.string bytes) => bytes.length + 1
  | .lit _ => 1
  | .nil => 1
  | .ptr d => uptoBulk d + 1
  | .slice elems spare => uptoBulkAll elems + uptoBulkAll spare + 1
  | .agg parts => uptoBulkAll parts + 1
  | .iface _ d => uptoBulk d + 1
  | .map entries => uptoBulkEntries entries + 1
  | .held _ => 1
def uptoBulkAll {H : Type} : List (DataW H) → Nat
  | [] => 0
  | d :: r => uptoBulk d + uptoBulkAll r
def uptoBulkEntries {H : Type} : List (Lit × DataW H) → Nat
  | [] => 0
  | x :: r => uptoBulkEntry x + uptoBulkEntries r
def uptoBulkEntry {H : Type} : Lit × DataW H → Nat
  | (.string bytes, d) => bytes.length + uptoBulk d + 1
  | (_, d) => uptoBulk d + 1
 end
def uptoSmall : (H : Type) → List (DataW H) → Bool := fun _ ds => decide (uptoBulkAll ds ≤ 1048576)
def OpenSpec.upto (s : _root_.Go.ChangeSpec) : _root_.Go.OpenSpec := { _root_.Go.OpenSpec.ofChange s with cond := some uptoSmall }

/-- 'corollarylaw09.UnifySame', WHERE WHAT IT READS IS OF BULK AT MOST 1048576: true; the input reads as it did. -/
def unifySameUptoRow : OpenClaim := { program := "ytcjnmehpkcblfaa", sum := "3e4a6663d44a70feeba67e57a227e23d03b9f5e408ef9ff622bad6eecdead1ad", func := "corollary/corollarylaw09.UnifySame", spec := "unifySame", inPlace := ["maps.clone"], unfollowed := true, recurses := true, loops := true, apart := false, narrowed := true }
def UnifySameUptoSaid : Prop := unifySameUptoRow.holds Try.pinned (OpenSpec.upto unifySameSpec)

/-- 'corollarylaw09.UnifyOrder', WHERE WHAT IT READS IS OF BULK AT MOST 1048576: true; the input reads as it did. -/
def unifyOrderUptoRow : OpenClaim := { program := "ytcjnmehpkcblfaa", sum := "3e4a6663d44a70feeba67e57a227e23d03b9f5e408ef9ff622bad6eecdead1ad", func := "corollary/corollarylaw09.UnifyOrder", spec := "unifyOrder", inPlace := ["maps.clone"], unfollowed := true, recurses := true, loops := true, apart := false, narrowed := true }
def UnifyOrderUptoSaid : Prop := unifyOrderUptoRow.holds Try.pinned (OpenSpec.upto unifyOrderSpec)

/-- 'corollarylaw09.UnifyLeast', WHERE WHAT IT READS IS OF BULK AT MOST 1048576: true; the input reads as it did. -/
def unifyLeastUptoRow : OpenClaim := { program := "ytcjnmehpkcblfaa", sum := "3e4a6663d44a70feeba67e57a227e23d03b9f5e408ef9ff622bad6eecdead1ad", func := "corollary/corollarylaw09.UnifyLeast", spec := "unifyLeast", inPlace := ["maps.clone"], unfollowed := true, recurses := true, loops := true, apart := false, narrowed := true }
def UnifyLeastUptoSaid : Prop := unifyLeastUptoRow.holds Try.pinned (OpenSpec.upto unifyLeastSpec)

end Rows
end Go.Proofs.Ytcjnmehpkcblfaa
