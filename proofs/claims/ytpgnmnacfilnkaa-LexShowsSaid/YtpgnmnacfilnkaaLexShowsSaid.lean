/- The statement Rows.LexShowsSaid: the frame round the walk of LexShows: the arguments opened, the walk, the arguments shut. -/
import Derived.Test.YtpgnmnacfilnkaaLexShows
import Derived.Test.YtpgnmnacfilnkaaOpen
import Derived.Test.YtpgnmnacfilnkaaRows
import Derived.WalkKit
import Derived.ProofKit
import Derived.OpenShut
import Derived.ShutString
import Derived.ChangeOld
import Derived.Below
import Derived.SizedLaws
namespace Go.Proofs.Ytpgnmnacfilnkaa
open Go Go.Wk Go.ChangeShapes Go.WideShapes Go.ChangeAt Go.RowKit
open Go.ChangeMaps (open_string shut_string)

theorem own : ownKnob Try.prog.godebug = none := by kernel_rfl
theorem laidOut : laidOutB Try.prog = true := by kernel_rfl
theorem c26 : Try.prog.cellsOf 26 = 4 := by kernel_rfl
theorem c24 : Try.prog.cellsOf 24 = 2 := by kernel_rfl
theorem c3 : Try.prog.cellsOf 3 = 1 := by kernel_rfl
theorem c5 : Try.prog.cellsOf 5 = 1 := by kernel_rfl
theorem c9 : Try.prog.cellsOf 9 = 1 := by kernel_rfl
instance : Inhabited Tk := ⟨⟨0, 0, 0, []⟩⟩

theorem open_tok {H : Type} {enc : TypeId × Value → H} {w : World} {spare : Nat → Bool} {held : Bool} (n : Nat) (cs : List Value) (d : DataW H) (p : List MemPlace) (h : DataW.trod enc Try.prog w 0 spare held n 26 cs = some (d, p))
    (hw : (d.weights Try.prog 26).all (· ≤ reachBytes) = true) : ∃ t : Tk, cs = tokC t ∧ t.text.length ≤ 140737488355328 := by
  obtain ⟨y0, y1, y2, n1, hx, hl, h0, h1, h2⟩ := Go.Deep.trod_struct3 Try.underlying26 h
  rw [c26] at hl
  obtain ⟨z0, z1, n2, -, -, g0, g1⟩ := trod_struct2 Try.underlying24 h0
  obtain ⟨i0, e0, -, -⟩ := DataW.trod_int Try.underlying3 g0
  obtain ⟨i1, e1, -, -⟩ := DataW.trod_int Try.underlying3 g1
  obtain ⟨i2, e2, -, -⟩ := DataW.trod_int Try.underlying5 h1
  obtain ⟨s, e3, ex, -⟩ := DataW.trod_string Try.underlying9 h2
  obtain ⟨hd, -⟩ := Prod.mk.inj hx
  match cs, hl with
  | [a, b, c, d'], _ =>
    simp only [c24, c3, c5, c9, List.drop_zero, List.drop_succ_cons, List.take_succ_cons, List.take_zero, List.cons.injEq, and_true] at e0 e1 e2 e3
    subst e0; subst e1; subst e2; subst e3
    refine ⟨⟨i0, i1, i2, s.data.toList⟩, rfl, ?_⟩
    rw [List.all_eq_true] at hw
    have := hw s.data.toList.length (by rw [hd, ex]; simp [DataW.weights, Try.underlying26, DataW.weightsEach])
    simp only [decide_eq_true_eq] at this
    exact Nat.le_trans this (by decide)

set_option maxRecDepth 100000 in
theorem lifted (os : Os) (started : os.Started) (H : Type) (enc : TypeId × Value → H) :
    ReturnsInHanded {} Try.checked os 3 .any (Rows.lexShowsSpec.pre6 enc Try.prog Try.f3 Rows.lexShowsRow.domain false) (Rows.lexShowsSpec.post enc Try.prog Try.f3 false true false false) := by
  refine returnsInHanded_of_change_sized (C := Try.checked) own started (by kernel_rfl) Try.func3
    (ChangeSpec.witness6 (enc := enc) (C := Try.checked) false ⟨#[], #[.slice none 0 0, .string ⟨#[]⟩], []⟩ 8 (by kernel_rfl) (by kernel_rfl) (by kernel_rfl) (by kernel_rfl)) ?_
  intro W base args ds gs before hval0 hW hcnd hsz _
  have hval : ∀ (j : Nat) t v, Try.f3.params[j]? = some t → args[j]? = some v → Value.okWide Try.prog W .any base t v := hval0
  have hW' := hW
  obtain ⟨p, q, hA0, hV, rfl, hfz, hnd⟩ := hW
  have hA : DataW.TrodAll enc Try.prog W 0 (fun _ => true) true Try.f3.params.toList args.toList ds p := hA0
  have hsz' : (DataW.weightsEach Try.prog (Try.f3.params.toList ++ _) (ds ++ gs)).all (· ≤ reachBytes) = true := hsz
  rw [Try.params3] at hA hval hsz'
  obtain ⟨v0, vs0, d0, ds0, p0, q0, hargs, rfl, rfl, h0, r0⟩ := trodAll_cons hA
  obtain ⟨v1, vs1, d1, ds1, p1, q1, rfl, rfl, rfl, h1, r1⟩ := trodAll_cons r0
  obtain ⟨rfl, rfl, rfl⟩ := trodAll_nil r1
  obtain rfl : args = #[v0, v1] := by cases args; simp_all
  obtain ⟨rfl, rfl⟩ := trodVars_none hV
  obtain ⟨a0, len0, cap0, rfl⟩ := okWide_slice Try.underlying22 (hval 0 22 v0 rfl rfl)
  have k0 := h0
  have lt0 : ∀ x ∈ p0, x.block < W.heap.size := by obtain ⟨m, hm⟩ := k0; exact DataW.trod_lt m _ _ _ hm
  obtain ⟨s, rfl, rfl, rfl, hs⟩ := open_string Try.underlying9 (hval 1 9 v1 rfl rfl) h1
  obtain ⟨l, rfl, hm, htl, hv⟩ := open_list tokC (fun t => t.text.length ≤ 140737488355328) Try.underlying22 c26 (by decide) (fun _ => rfl) open_tok h0 (by
    rw [List.all_eq_true] at hsz' ⊢
    intro n hn
    exact hsz' n (DataW.weights_mem_each (j := 0) rfl rfl n hn))
  have hsl : s.data.toList.length ≤ 140737488355328 := by
    rw [List.all_eq_true] at hsz'
    have := hsz' s.data.toList.length (DataW.weights_mem_each (j := 1) (t := 9) rfl rfl _ (by simp [DataW.weights]))
    simp only [decide_eq_true_eq] at this
    exact Nat.le_trans this (by decide)
  refine (lawShows l s.data.toList _ _ hsl htl hm hv W (at_heapOf W)).mono fun e W' ⟨u, F', G', he, htr, hu⟩ => ?_
  subst he; subst hu
  have bel := below_of htr
  exact ⟨_, rfl, _, _, _, [], _, [], hW', trodAll_mk1 (shut_bool Try.underlying4 _), (trodAll_cons_mk (Below.trod laidOut (by kernel_rfl) (of_decide_eq_true (by kernel_rfl)) k0 bel lt0) (trodAll_cons_mk (shut_string Try.underlying9 hs) trodAll_mk0)), rfl, bel.frame _, fun h => by cases h⟩

theorem lexShows_holds : Rows.LexShowsSaid :=
  OpenClaim.holds_of_wide 3 Try.f3 rfl rfl rfl rfl rfl rfl rfl ⟨rfl, rfl, rfl, rfl, rfl⟩ rfl rfl rfl rfl rfl (by kernel_rfl) Try.func3 (by kernel_rfl)
    (of_decide_eq_true (by kernel_rfl)) (by unfold Func.isWrapper; first | (rw [if_pos (by decide +kernel)]; kernel_rfl) | (rw [if_neg (by decide +kernel)]; exact ⟨rfl, rfl⟩))
    (fun os started H enc _ => lifted os started H enc)
#print axioms lexShows_holds
end Go.Proofs.Ytpgnmnacfilnkaa
