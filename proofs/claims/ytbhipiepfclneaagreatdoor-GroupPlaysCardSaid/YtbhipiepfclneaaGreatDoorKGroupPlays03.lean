/- Walks. -/
import Derived.Test.YtbhipiepfclneaaGreatDoorKGroupPlays02
import Derived.Test.YtbhipiepfclneaaGreatDoorQ21
set_option maxHeartbeats 8000000
set_option linter.unusedVariables false
set_option linter.unusedSimpArgs false
namespace Go.De
open Go Go.Wk Go.Un Go.ChangeShapes Go.WideShapes
theorem q5c {H : Type} {P : Program} {e : TypeId} {d : DataW H} : ∀ {l : List (DataW H)}, d ∈ l → ∀ q ∈ d.weights P e, q ∈ DataW.weightsAll P e l
 | x :: l, hd, q, hq => by
  unfold DataW.weightsAll
  rcases List.mem_cons.1 hd with rfl | hd
  ·exact List.mem_append_left _ hq
  ·exact List.mem_append_right _ (q5c hd q hq)
theorem ql0 {α : Type} [Inhabited α] {H : Type} {enc : TypeId × Value → H} {P : Program} {w : World} {spare : Nat → Bool} {held : Bool} {t e : TypeId} (cell : α → List Value) {sz : Nat} (good : α → Prop)
  (ht : P.underlying t = some (.slice e)) (hc : P.cellsOf e = sz) (h0 : 0 < sz) (hlen : ∀ x, (cell x).length = sz)
  {cs0 : List Value} {d : DataW H} {p : List MemPlace} {fuel : Nat} (h : DataW.trod enc P w 0 spare held fuel t cs0 = some (d, p)) (hw : (d.weights P t).all (· ≤ reachBytes) = true)
  (hel : ∀ n cs d' p, DataW.trod enc P w 0 spare held n e cs = some (d', p) → SizeOf.sizeOf d' < SizeOf.sizeOf d → (d'.weights P e).all (· ≤ reachBytes) = true → ∃ x, cs = cell x ∧ good x) :
  ∃ (a : Option Addr) (len cap : Nat) (l : List α), cs0 = [.slice a len cap] ∧ l.length = len ∧ len ≤ maxLen ∧ (∀ x ∈ l, good x) ∧ SlC (q3g w) (.slice a len cap) len (l.flatMap cell) ∧ len * P.bytesOf e ≤ reachBytes := by
 rcases Go.Deep.open_slice ht h with ⟨rfl, _⟩ | ⟨x, len, cap, m, n, D, Pl, rfl, -, hl, hm, hmm, hx, hi⟩
 ·exact ⟨none, 0, 0, [], rfl, rfl, Nat.zero_le _, by simp, ⟨none, 0, rfl, Nat.le_refl _, fun h => absurd h (by omega)⟩, by rw [Nat.zero_mul]; exact Nat.zero_le _⟩
 ·obtain ⟨hd, -⟩ := Prod.mk.inj hx
  have hlm : len ≤ m := by rw [hmm]; split <;> omega
  have hwe : ∀ q, q ∈ (len + (m - len)) * P.bytesOf e :: (DataW.weightsAll P e ((List.range len).map D) ++ DataW.weightsAll P e ((List.range (m - len)).map fun j => D (len + j))) → q ≤ reachBytes := fun q hq => by
   have h1 := List.all_eq_true.1 hw q (by rw [hd]; simp only [DataW.weights, ht, List.length_map, List.length_range]; exact hq)
   simpa using h1
  have hch : ∀ i, i < len → ∃ y, (∀ j v, (cell y)[j]? = some v → w.cell? ((x.add (i * sz)).add j) = some v) ∧ good y := fun i hi' => by
   obtain ⟨cs, h1, h2⟩ := hi i (by omega)
   rw [hc] at h1
   obtain ⟨y, rfl, hy⟩ := hel _ _ _ _ h2 (by
    rw [hd]
    have := List.sizeOf_lt_of_mem (List.mem_map.2 ⟨i, List.mem_range.2 hi', rfl⟩ : D i ∈ (List.range len).map D)
    simp only [DataW.slice.sizeOf_spec]
    omega) (by
    rw [List.all_eq_true]
    intro q hq
    have := hwe q (List.mem_cons_of_mem _ (List.mem_append_left _ (q5c (List.mem_map.2 ⟨i, List.mem_range.2 hi', rfl⟩) q hq)))
    simpa using this)
   refine ⟨y, fun j v hj => ?_, hy⟩
   obtain ⟨_, _, h3⟩ := World.cells?_some h1
   have hj2 := (List.getElem?_eq_some_iff.1 hj).1
   rw [hlen] at hj2
   exact (h3 j hj2).trans hj
  obtain ⟨X, hX⟩ := Go.Deep.choose_lt hch
  have hget : ∀ i y, ((List.range len).map X)[i]? = some y → i < len ∧ y = X i := fun i y hy => by
   have := (List.getElem?_eq_some_iff.1 hy).1
   simp only [List.length_map, List.length_range] at this
   rw [List.getElem?_map, List.getElem?_range this] at hy
   exact ⟨this, by simpa using hy.symm⟩
  refine ⟨some x, len, cap, (List.range len).map X, rfl, by simp, Nat.le_trans hl hm, fun y hy => ?_, ⟨some x, cap, rfl, hl, fun hk => ?_⟩, ?_⟩
  ·obtain ⟨i, hi1, rfl⟩ := List.mem_map.1 hy
   exact (hX i (List.mem_range.1 hi1)).2
  ·obtain ⟨b, off, spot⟩ := x
   have hsp : spot = none := by
    have hp : 0 < (cell (X 0)).length := by rw [hlen]; exact h0
    have := (hX 0 hk).1 0 _ (List.getElem?_eq_getElem hp)
    simpa [Addr.add] using World.cell?_spot this
   subst hsp
   refine ⟨b, off, rfl, qdw hlen _ _ fun i y hy => ?_⟩
   obtain ⟨hi1, rfl⟩ := hget i y hy
   intro j v hv
   have := (u2s ((hX i hi1).1 j v hv)).2
   rw [add_none, add_none] at this
   exact this
  ·have h1 := hwe _ (qaH ..)
   exact Nat.le_trans (Nat.mul_le_mul_right _ (by omega)) h1
def qxc : List (List Value → Prop) → List Value → Prop
 | [], cs => cs = []
 | R :: Rs, cs => ∃ a b, cs = a ++ b ∧ R a ∧ qxc Rs b
def q8m (P : Program) : Nat → List Field → Nat → Bool
 | o, [], tot => o == tot
 | o, f :: r, tot => f.offset == o && q8m P (o + P.cellsOf f.type) r tot
section
variable {H : Type} {enc : TypeId × Value → H} {P : Program} {w : World} {spare : Nat → Bool} {held : Bool} {m : Nat} {t : TypeId}
theorem qnm {k : IntKind} (ht : P.underlying t = some (.int k)) : Opn enc P w spare held m t (fun cs => ∃ n, cs = [.int k n] ∧ (Lit.int k n).wf = true) := fun f cs d p _ h _ => by
 obtain ⟨n, h1, _, h2⟩ := DataW.trod_int ht h
 exact ⟨n, h1, h2⟩
theorem qkv (ht : P.underlying t = some .string) : Opn enc P w spare held m t (fun cs => ∃ s : List UInt8, cs = [.string (bs s)] ∧ s.length ≤ 140737488355328) := fun f cs d p _ h hw => by
 obtain ⟨s, h1, h2, _⟩ := DataW.trod_string ht h
 obtain ⟨rfl, -⟩ := Prod.mk.inj h2
 refine ⟨s.data.toList, h1, ?_⟩
 have hr : reachBytes ≤ 140737488355328 := by decide
 have h3 := List.all_eq_true.1 hw s.data.toList.length (by simp [DataW.weights])
 have h4 : s.data.toList.length ≤ reachBytes := by simpa using h3
 omega
theorem q8x {ts : List TypeId} {ds : List (DataW H)} : ∀ {i : Nat} {u : TypeId} {d : DataW H}, ts[i]? = some u → ds[i]? = some d → ∀ q ∈ d.weights P u, q ∈ DataW.weightsEach P ts ds := by
 induction ts generalizing ds with
 | nil => intro i u d h; simp at h
 | cons x ts ih =>
  intro i u d h1 h2 q hq
  cases ds with
  | nil => simp at h2
  | cons y ds =>
   unfold DataW.weightsEach
   cases i with
   | zero => cases h1; cases h2; exact List.mem_append_left _ hq
   | succ i => exact List.mem_append_right _ (ih h1 h2 q hq)
theorem qik {cs : List Value} : ∀ (fs : List Field) (Rs : List (List Value → Prop)) (o : Nat), qe2 enc P w spare held m fs Rs → q8m P o fs cs.length = true → o ≤ cs.length →
    (∀ (i : Nat) (f : Field), fs[i]? = some f → ∃ n d p, SizeOf.sizeOf d < m ∧ DataW.trod enc P w 0 spare held n f.type ((cs.drop f.offset).take (P.cellsOf f.type)) = some (d, p) ∧ (d.weights P f.type).all (· ≤ reachBytes) = true) → qxc Rs (cs.drop o)
  | [], [], o, _, hc, ho, _ => by
    have h1 : o = cs.length := by simpa [q8m] using hc
    subst h1
    exact List.drop_length ..
  | [], _ :: _, o, h, _, _, _ => nomatch h
  | _ :: _, [], o, h, _, _, _ => nomatch h
  | f :: fs, R :: Rs, o, .cons hh hr, hc, ho, hf => by
    unfold q8m at hc
    rw [Bool.and_eq_true] at hc
    obtain ⟨hc1, hc2⟩ := hc
    have hco : f.offset = o := by simpa using hc1
    obtain ⟨n, d, p, h1, h2, h3⟩ := hf 0 f rfl
    have hle : o + P.cellsOf f.type ≤ cs.length := by
      have : ∀ (fs : List Field) (o tot : Nat), q8m P o fs tot = true → o ≤ tot := by
        intro fs
        induction fs with
        | nil => intro o tot h; have : o = tot := by simpa [q8m] using h
                 omega
        | cons f fs ih => intro o tot h; unfold q8m at h; rw [Bool.and_eq_true] at h; have := ih _ _ h.2; omega
      exact this _ _ _ hc2
    refine ⟨(cs.drop o).take (P.cellsOf f.type), cs.drop (o + P.cellsOf f.type), ?_, ?_, qik fs Rs _ hr hc2 hle fun i f' hf' => hf (i + 1) f' hf'⟩
    · rw [← List.drop_drop, List.take_append_drop]
    · rw [← hco]; exact hh _ _ _ _ h1 h2 h3
theorem qba {fs : Array Field} {Rs : List (List Value → Prop)} (ht : P.underlying t = some (.struct fs)) (hc : q8m P 0 fs.toList (P.cellsOf t) = true) (hf : qe2 enc P w spare held m fs.toList Rs) : Opn enc P w spare held (m + 1) t (qxc Rs) := fun fuel cs d p hd h hw => by
 obtain ⟨xs, n, _, hx, hl, hlen, hg⟩ := DataW.trod_struct ht h
 obtain ⟨rfl, -⟩ := Prod.mk.inj hx
 rw [← hl] at hc
 have := qik (cs := cs) fs.toList Rs 0 hf hc (Nat.zero_le _) fun i f hi => by
  have hi' : fs[i]? = some f := by simpa using hi
  have h1 := hg i f hi'
  have hlt : i < xs.length := by rw [hlen]; exact (Array.getElem?_eq_some_iff.1 hi').1
  rw [List.getElem?_eq_getElem hlt] at h1
  have hmem : xs[i].1 ∈ xs.map (·.1) := List.mem_map.2 ⟨xs[i], List.getElem_mem hlt, rfl⟩
  refine ⟨n, xs[i].1, xs[i].2, ?_, h1, ?_⟩
  ·have := List.sizeOf_lt_of_mem hmem
   simp only [DataW.agg.sizeOf_spec] at hd
   omega
  ·rw [List.all_eq_true] at hw ⊢
   intro q hq
   refine hw q ?_
   simp only [DataW.weights, ht]
   exact q8x (i := i) (by rw [List.getElem?_map, hi]; rfl) (by rw [List.getElem?_map, List.getElem?_eq_getElem hlt]; rfl) q hq
 simpa using this
theorem qjv {α : Type} {F : q01} {sz : Nat} {R : q01 → α → List Value → Prop} : ∀ {l : List {cs : List Value // cs.length = sz}}, (∀ x ∈ l, ∃ y, R F y x.1) → ∃ ys : List α, ys.length = l.length ∧ LiC F sz R (l.flatMap Subtype.val) ys
 | [], _ => ⟨[], rfl, rfl⟩
 | x :: l, h => by
  obtain ⟨y, hy⟩ := h x (qaH ..)
  obtain ⟨ys, h1, h2⟩ := qjv fun z hz => h z (List.mem_cons_of_mem _ hz)
  exact ⟨y :: ys, by simp [h1], x.1, _, rfl, x.2, hy, h2⟩
theorem qxf {α : Type} {F : q01} {sz n : Nat} {R : q01 → α → List Value → Prop} {v : Value} {xs : List Value} {l : List α} (h : SlC F v n xs) (hl : LiC F sz R xs l) (hn : l.length = n) (hm : n ≤ 140737488355328) : LiM F sz R v l := by
 obtain ⟨ao, cap, rfl, h1, h2⟩ := h
 subst hn
 refine ⟨ao, cap, rfl, ⟨h1, hm⟩, fun hp => ?_⟩
 obtain ⟨b, o, e, h3⟩ := h2 hp
 refine ⟨b, o, e, fun k x hx => ?_⟩
 obtain ⟨cs, h5, h6, h7⟩ := LiC.get hl hx
 exact ⟨cs, fun j u hj => by rw [Nat.add_assoc]; exact h3 _ u (h5 j u hj), h6, h7⟩
instance {sz : Nat} : Inhabited {cs : List Value // cs.length = sz} := ⟨⟨List.replicate sz .nilIface, by simp⟩⟩
theorem q7t {α : Type} {e : TypeId} {sz : Nat} {R : q01 → α → List Value → Prop} (ht : P.underlying t = some (.slice e)) (hc : P.cellsOf e = sz) (h0 : 0 < sz) (hb : Nat.ble 1 (P.bytesOf e) = true) (he : Opn enc P w spare held m e (fun cs => cs.length = sz ∧ ∃ x, R (q3g w) x cs)) :
  Opn enc P w spare held m t (fun cs => ∃ v l, cs = [v] ∧ LiM (q3g w) sz R v l) := fun fuel cs d p hd h hw => by
 obtain ⟨a, len, cap, l, e1, h1, h2, h3, h4, h5⟩ := ql0 (α := {cs : List Value // cs.length = sz}) Subtype.val (fun x => ∃ y, R (q3g w) y x.1) ht hc h0 (fun x => x.2) h hw fun n cs d' p hh hs hw' => by
  obtain ⟨hl, x, hx⟩ := he n cs d' p (by omega) hh hw'
  exact ⟨⟨cs, hl⟩, rfl, x, hx⟩
 obtain ⟨ys, h6, h7⟩ := qjv h3
 have hr : reachBytes ≤ 140737488355328 := by decide
 have h8 : len ≤ len * P.bytesOf e := Nat.le_mul_of_pos_right _ (Nat.le_of_ble_eq_true hb)
 exact ⟨_, ys, e1, qxf h4 h7 (by rw [h6, h1]) (by omega)⟩
end
end Go.De
namespace Go.Proofs.YtbhipiepfclneaaGreatDoor
open Go Go.Wk Go.Un Go.De Go.ChangeShapes Go.WideShapes Go.ChangeAt Go.RowKit Go.Num
attribute [local irreducible] Go.wpList Go.Code.wp Go.wpStill Go.Wk.q26 Go.bodyPost Go.Calls Go.Wk.Ct Go.Wk.q0u Go.Wk.wpG Go.Wk.wpM
theorem q86 {α : Type} {F : q01} {sz : Nat} {R : q01 → α → List Value → Prop} {Q : α → Prop} {v : Value} {l : List α} (h : LiM F sz (fun F x cs => R F x cs ∧ Q x) v l) : LiM F sz R v l ∧ ∀ x ∈ l, Q x := by
 obtain ⟨ao, cap, rfl, hc, hpos⟩ := h
 refine ⟨⟨ao, cap, rfl, hc, fun hp => ?_⟩, fun x hx => ?_⟩
 ·obtain ⟨b, o, e, h⟩ := hpos hp
  refine ⟨b, o, e, fun k x hx => ?_⟩
  obtain ⟨cs, h1, h2, h3⟩ := h k x hx
  exact ⟨cs, h1, h2, h3.1⟩
 ·obtain ⟨k, hk, rfl⟩ := List.mem_iff_getElem.1 hx
  obtain ⟨b, o, e, h⟩ := hpos (by omega)
  obtain ⟨cs, h1, h2, h3⟩ := h k _ (List.getElem?_eq_getElem hk)
  exact h3.2
section
variable {H : Type} {enc : TypeId × Value → H} {w : World} {spare : Nat → Bool} {held : Bool}
theorem u4t (m : Nat) : Opn enc Tryz.prog w spare held m 2 (fun cs => ∃ n, cs = [.int .i64 n] ∧ (Lit.int .i64 n).wf = true) := qnm Tryz.underlying2
end
theorem q3e (g : Grp) (Gs : List Grp) : keys (g :: Gs) = g.map (·.1) ++ keys Gs := by simp [keys, qaF]
theorem qdg {P : Program} {F : q01} {f : FuncId} {args : List Value} {g : Grp} {Gs : List Grp} {Post : List Grp → Value → Prop} (C : Ct P f args (F.add g) Gs (fun _ G' v => Post G' v)) : Ct P f args F (g :: Gs) (fun _ G'' v => ∃ G', G'' = g :: G' ∧ Post G' v) := by
 unfold Ct at C ⊢
 intro w hw
 have hT : Tr w F (keys (g :: Gs)) w (F.add g) ([] ++ Gs) := Tr.freeze (G1 := []) (G2 := Gs) hw.tr
 have hA : At w (F.add g) Gs := hT.at
 have hnd := hw.nd
 rw [q3e, List.nodup_append] at hnd
 obtain ⟨hn1, hn2, hdis⟩ := hnd
 have hF : ∀ b o, F b = some o → F.add g b = some o := fun b o h => by
  rw [q01.add_none (fun hm => ?_)]
  ·exact h
  ·obtain ⟨q, hq, hq2⟩ := List.mem_map.1 hm
   have := (hw.own q (by rw [qaF]; exact List.mem_append_left _ hq)).2
   rw [hq2, h] at this; cases this
 refine (C w hA).mono fun e w' ⟨v, F', G', he, ht, hp⟩ => ⟨v, F, g :: G', he, ?_, G', rfl, hp⟩
 have hgl : ∀ b ∈ g.map (·.1), b < w.heap.size ∧ b ∉ keys Gs := fun b hb => by
  obtain ⟨p, hp1, rfl⟩ := List.mem_map.1 hb
  refine ⟨q37 (hw.own p (by rw [qaF]; exact List.mem_append_left _ hp1)).1, fun hk => hdis _ hb _ hk rfl⟩
 refine ⟨ht.os, ht.tape, ht.output, ht.size, fun b hb hk => ht.old b hb (fun h9 => hk (by rw [q3e]; exact List.mem_append_right _ h9)), fun b o hb => ht.frz b o (ht.ext b o (hF b o hb)), fun _ _ h => h, fun _ _ h => .inl h, fun p hq => ?_, ?_⟩
 ·rw [qaF] at hq
  rcases List.mem_append.1 hq with hq | hq
  ·have h1 := hw.own p (by rw [qaF]; exact List.mem_append_left _ hq)
   have h2 := hgl p.1 (List.mem_map_of_mem hq)
   refine ⟨?_, h1.2, .inr (by rw [q3e]; exact List.mem_append_left _ (List.mem_map_of_mem hq))⟩
   rw [ht.old p.1 h2.1 h2.2]; exact h1.1
  ·obtain ⟨h1, h2, h3⟩ := ht.own p hq
   refine ⟨h1, ?_, ?_⟩
   ·cases hFp : F p.1 with
    | none => rfl
    | some o => rw [ht.ext _ _ (hF _ _ hFp)] at h2; cases h2
   ·rcases h3 with h3 | h3
    ·exact .inl h3
    ·exact .inr (by rw [q3e]; exact List.mem_append_right _ h3)
 ·rw [q3e]
  refine List.nodup_append.2 ⟨hn1, ht.nd, fun x hx y hy e => ?_⟩
  subst e
  obtain ⟨p, hp1, rfl⟩ := List.mem_map.1 hy
  have h2 := hgl _ hx
  rcases (ht.own p hp1).2.2 with h3 | h3
  ·omega
  ·exact h2.2 h3
theorem u44 {P : Program} {F : q01} {f : FuncId} {args : List Value} {G : List Grp} {g : Grp} {Q : Value → Prop} (C : Ct P f args F G (fun _ G' u => Q u ∧ G' = [g])) : Ct P f args F G (fun _ G' u => Q u ∧ G' = [g, [], []]) := by
 unfold Ct at C ⊢
 intro w hw
 refine (C w hw).mono fun e w' ⟨v, F', G', he, ht, hq, hg⟩ => ⟨v, F', [g, [], []], he, ?_, hq, rfl⟩
 subst hg
 exact ht.perm (by simp)
def rw1 (x : Vv) : Vf := .cons x.1 x.2 .nil
section
variable {α : Type}
variable {lt : α → α → Bool}
theorem Srt.last (h : Lt lt) {A : List α} {z : α} (hA : Srt lt A) (hz : A.getLast? = some z) : ∀ x ∈ A, lt z x = false := fun x hx => by
 obtain ⟨B, rfl⟩ := List.getLast?_eq_some_iff.1 hz
 rcases List.mem_append.1 hx with hx | hx
 ·exact hA.cross x hx z (List.mem_singleton.2 rfl)
 ·obtain rfl := List.mem_singleton.1 hx
  exact refl_lt h _
theorem qrb (h : Lt lt) {A1 A2 B1 B2 : List α} (hA : Srt lt (A1 ++ A2)) (hB : Srt lt (B1 ++ B2))
  (h1 : ∀ x y, A1.getLast? = some x → B2.head? = some y → lt y x = false) (h2 : ∀ x y, B1.getLast? = some x → A2.head? = some y → lt x y = true) :
  ∀ x ∈ A1 ++ B1, ∀ y ∈ A2 ++ B2, lt y x = false := by
 have ends : ∀ {P Q : List α}, Srt lt P → Srt lt Q → (∀ x y, P.getLast? = some x → Q.head? = some y → lt y x = false) → ∀ x ∈ P, ∀ y ∈ Q, lt y x = false := by
  intro P Q hP hQ hc x hx y hy
  cases hl : P.getLast? with
  | none => rw [List.getLast?_eq_none_iff] at hl; subst hl; cases hx
  | some p =>
   cases hf : Q.head? with
   | none => rw [List.head?_eq_none_iff] at hf; subst hf; cases hy
   | some q => exact h.tr (h.tr (hP.last h hl x hx) (hc p q hl hf)) (hQ.first h hf y hy)
 intro x hx y hy
 rcases List.mem_append.1 hx with hx | hx <;> rcases List.mem_append.1 hy with hy | hy
 ·exact hA.cross x hx y hy
 ·exact ends hA.left hB.right h1 x hx y hy
 ·exact ends hB.left hA.right (fun x y a b => h.asy (h2 x y a b)) x hx y hy
 ·exact hB.cross x hx y hy
theorem qc5 (h : Lt lt) {A1 A2 B1 B2 C1 C2 : List α} (hA : Srt lt (A1 ++ A2)) (hB : Srt lt (B1 ++ B2))
  (h1 : ∀ x y, A1.getLast? = some x → B2.head? = some y → lt y x = false) (h2 : ∀ x y, B1.getLast? = some x → A2.head? = some y → lt x y = true)
  (p1 : C1.Perm (A1 ++ B1)) (p2 : C2.Perm (A2 ++ B2)) (s1 : Srt lt C1) (s2 : Srt lt C2) : Srt lt (C1 ++ C2) ∧ (C1 ++ C2).Perm ((A1 ++ A2) ++ (B1 ++ B2)) := by
 refine ⟨s1.app s2 fun x hx y hy => qrb h hA hB h1 h2 x (p1.mem_iff.1 hx) y (p2.mem_iff.1 hy), ?_⟩
 refine (p1.append p2).trans ?_
 rw [qaB, qaB, ← qaB B1, ← qaB A2]
 exact List.Perm.append_left _ (List.Perm.append_right _ List.perm_append_comm)
theorem qnu (h : Lt lt) {x : α} {B1 B2 : List α} (hB : Srt lt (B1 ++ B2)) (h1 : ∀ z, B1.getLast? = some z → lt x z = false) (h2 : ∀ z, B2.head? = some z → lt z x = false) : Srt lt (B1 ++ x :: B2) := by
 refine hB.left.app (List.pairwise_cons.2 ⟨fun y hy => ?_, hB.right⟩) fun z hz y hy => ?_
 ·cases hf : B2.head? with
  | none => rw [List.head?_eq_none_iff] at hf; subst hf; cases hy
  | some q => exact h.tr (h2 q hf) (hB.right.first h hf y hy)
 ·rcases List.mem_cons.1 hy with rfl | hy
  ·cases hl : B1.getLast? with
   | none => rw [List.getLast?_eq_none_iff] at hl; subst hl; cases hz
   | some p => exact h.tr (hB.left.last h hl z hz) (h1 p hl)
  ·exact hB.cross z hz y hy
theorem qv6 {P S : List α} {x y : α} {i : Nat} (hi : i = P.length) : (P ++ x :: S).set i y = P ++ y :: S := by
 subst hi; simp
theorem qgi {P Q S : List α} {x y : α} {i j : Nat} (hi : i = P.length) (hj : j = P.length + 1 + Q.length) : ((P ++ x :: (Q ++ y :: S)).set i y).set j x = P ++ y :: (Q ++ x :: S) := by
 rw [qv6 hi]
 have := qv6 (P := P ++ y :: Q) (S := S) (x := y) (y := x) (i := j) (by simp; omega)
 simpa using this
end
def swC (P X M Y S : List Value) (k : Nat) : List Value := (P ++ Y.take k) ++ (X.drop k ++ ((M ++ X.take k) ++ (Y.drop k ++ S)))
theorem qtk (P X M Y S : List Value) : swC P X M Y S 0 = P ++ (X ++ (M ++ (Y ++ S))) := by simp [swC]
theorem qwn {P X M Y S : List Value} {k : Nat} (h : k = X.length) (h2 : k = Y.length) : swC P X M Y S k = P ++ (Y ++ (M ++ (X ++ S))) := by
 unfold swC
 rw [List.take_of_length_le (by omega), List.take_of_length_le (by omega), List.drop_of_length_le (by omega), List.drop_of_length_le (by omega)]
 simp
theorem qsn {P X M Y S : List Value} {k : Nat} (h : k < X.length) (h2 : X.length = Y.length) : ∃ x y, x ∈ X ∧ y ∈ Y ∧
  swC P X M Y S k = (P ++ Y.take k) ++ x :: ((X.drop (k + 1) ++ (M ++ X.take k)) ++ y :: (Y.drop (k + 1) ++ S)) ∧
  swC P X M Y S (k + 1) = (P ++ Y.take k) ++ y :: ((X.drop (k + 1) ++ (M ++ X.take k)) ++ x :: (Y.drop (k + 1) ++ S)) := by
 refine ⟨X[k], Y[k], List.getElem_mem h, List.getElem_mem (by omega), ?_, ?_⟩
 ·unfold swC
  rw [List.drop_eq_getElem_cons h, List.drop_eq_getElem_cons (show k < Y.length by omega)]
  simp only [qaB, List.cons_append]
 ·unfold swC
  rw [List.take_succ_eq_append_getElem h, List.take_succ_eq_append_getElem (show k < Y.length by omega)]
  simp only [qaB, List.cons_append, qaG]
theorem qy1 {P X M Y S : List Value} {k : Nat} (h : k < X.length) (h2 : X.length = Y.length) : ∃ x y, x ∈ X ∧ y ∈ Y ∧ (swC P X M Y S k)[P.length + k]? = some x ∧ (swC P X M Y S k)[P.length + X.length + M.length + k]? = some y ∧
  ((swC P X M Y S k).set (P.length + k) y).set (P.length + X.length + M.length + k) x = swC P X M Y S (k + 1) := by
 obtain ⟨x, y, hx, hy, e1, e2⟩ := qsn (P := P) (M := M) (S := S) h h2
 have l1 : (P ++ Y.take k).length = P.length + k := by rw [qaA, qaI]; omega
 have l2 : (X.drop (k + 1) ++ (M ++ X.take k)).length = X.length - (k + 1) + M.length + k := by rw [qaA, qaA, qaI, qaJ]; omega
 refine ⟨x, y, hx, hy, ?_, ?_, ?_⟩
 ·rw [e1, List.getElem?_append_right (by omega), l1]; simp
 ·rw [e1, List.getElem?_append_right (by omega), l1, show P.length + X.length + M.length + k - (P.length + k) = (X.drop (k + 1) ++ (M ++ X.take k)).length + 1 by omega, List.getElem?_cons_succ, List.getElem?_append_right (by omega)]; simp
 ·rw [e1, e2]
  exact qgi l1.symm (by omega)
theorem qwq (P X M Y S : List Value) (k : Nat) (h : X.length = Y.length) : (swC P X M Y S k).length = P.length + X.length + M.length + Y.length + S.length := by
 unfold swC
 simp only [qaA, qaI, qaJ]
 omega
theorem qw6 (F : q01) (bd n cap : Nat) (T : TypeId) (P X M Y D : List Value) (cv : Value) (hn : X.length = Y.length) (hX : OneC X) (hY : OneC Y) (hl : P.length + X.length + M.length + Y.length ≤ n) (hl2 : n ≤ P.length + X.length + M.length + Y.length + D.length) (hm : n ≤ 1000000000000) :
  Ct Tryz.prog 183 [.slice (some ⟨bd, 0, none⟩) n cap, .int .i64 (P.length : Nat), .int .i64 ((P.length + X.length + M.length : Nat) : Int), .int .i64 (X.length : Nat), cv] F [[(bd, .cells ⟨P ++ (X ++ (M ++ (Y ++ D)))⟩ T (0, 0))]]
   (fun _ G' u => G' = [[(bd, .cells ⟨P ++ (Y ++ (M ++ (X ++ D)))⟩ T (0, 0))]]) := by
 rw [← qtk]
 generalize hb : P.length + X.length + M.length = b at *
 refine Ct.enter Tryz.func183 rfl Tryz.ntmps183 rfl fun w0 a S => ?_
 revert a; refine go 5 ?_; intro a S
 refine q04 (fun q a w' => ∃ (k : Nat), q = X.length - k ∧ k ≤ X.length ∧ St 38 [(0, .slice (some ⟨bd, 0, none⟩) n cap), (1, .int .i64 (P.length : Nat)), (2, .int .i64 (b : Nat)), (3, .int .i64 (X.length : Nat)), (10, .int .i64 (k : Nat))] w0 F (keys [[(bd, .cells ⟨swC P X M Y D 0⟩ T (0, 0))]]) F [[(bd, .cells ⟨swC P X M Y D k⟩ T (0, 0))]] a w') ?_ ?_
 ·(refine ⟨X.length, 0, by omega, Nat.zero_le _, ?_⟩; refine S.keep ?_; exact zk)
 (clear S; rintro q a w ⟨k, rfl, hk, S⟩)
 revert a; refine go 7 ?_; intro Z hZ a S
 refine q00 S rfl ?_ ?_ <;> intro h
 ·revert a; revert Z; refine go 4 ?_; intro Z hZ a S
  (obtain ⟨x, y, hxm, hym, hx, hy, hsw⟩ := qy1 (P := P) (M := M) (S := D) (show k < X.length by omega) hn; rw [hb] at hy hsw; have hsl := qwq P X M Y D k hn)
  (refine q0k [0, 1, 2, 3, 4, 5, 6, 7, 8, 9, 10, 11, 12, 13, 14, 15, 16, 17, 18, 19, 20, 22] [13, 19] [21, 23] (.one 0 (.one 1 (.one 2 (.one 3 (.one 4 (.one 5 (.one 6 (.one 7 (.one 8 (.one 9 (.one 10 (.one 11 (.one 12 (.one 13 (.one 14 (.one 15 (.one 16 (.one 17 (.one 18 (.one 19 (.one 20 (.one 21 (.one 22 (.one 23 .nil)))))))))))))))))))))))) [bd] S mixed (by kernel_rfl) ?_; clear S; intro w S)
  revert a; refine go 13 ?_; intro a S
  (refine q1g bd S rfl rfl rfl (q06 _ rfl) rfl rfl (fun w' S => q0f S rfl rfl (by simpa using hy)) ?_; clear S a; intro a S)
  revert a; refine go 5 ?_; intro a S
  (refine q1g bd S rfl rfl rfl (q06 _ rfl) rfl rfl (fun w' S => q0f S rfl rfl (by simpa using hx)) ?_; clear S a; intro a S)
  revert a; refine go 2 ?_; intro a S
  (refine q0e S rfl rfl rfl rfl rfl (hY _ hym) (by rw [hsl]; omega) ?_; clear S; intro w S)
  revert a; refine go 2 ?_; intro a S
  refine q1q rfl rfl (fun h => absurd h (by decide)) ?_
  (refine q0e S rfl rfl rfl rfl rfl (hX _ hxm) (by rw [List.length_set, hsl]; omega) ?_; clear S; intro w S; (simp only [Nat.zero_add, Nat.mul_one] at S); rw [hsw] at S)
  refine wpList_nil ?_
  refine q5g (fun h => absurd h (by decide)) ?_
  revert a; revert Z; refine go 6 ?_; intro a S
  change ∃ m', _ ∧ _
  (refine ⟨X.length - (k + 1), by omega, k + 1, rfl, by omega, ?_⟩; (refine S.keep ?_; exact zk))
 (refine wp_exit ?_; conv => whnf)
 refine q1m S (q0x Tryz.results183) ?_
 (have hk2 : k = X.length := (by omega); rw [hk2, qwn rfl hn])
theorem qh2 (F : q01) (bd n cap : Nat) (T : TypeId) (P X M Y D : List Value) (cv : Value) (a b q : Nat) (ha : a = P.length) (hb : b = P.length + X.length + M.length) (hq : q = X.length) (hn : X.length = Y.length) (hX : OneC X) (hY : OneC Y) (hl : P.length + X.length + M.length + Y.length ≤ n) (hl2 : n ≤ P.length + X.length + M.length + Y.length + D.length) (hm : n ≤ 1000000000000) :
  Ct Tryz.prog 183 [.slice (some ⟨bd, 0, none⟩) n cap, .int .i64 (a : Nat), .int .i64 (b : Nat), .int .i64 (q : Nat), cv] F [[(bd, .cells ⟨P ++ (X ++ (M ++ (Y ++ D)))⟩ T (0, 0))]]
   (fun _ G' u => G' = [[(bd, .cells ⟨P ++ (Y ++ (M ++ (X ++ D)))⟩ T (0, 0))]]) := by
 subst ha; subst hb; subst hq
 exact qw6 F bd n cap T P X M Y D cv hn hX hY hl hl2 hm
theorem qun.gt {m n : Nat} {G L A B R : List Value} (h : qun m n G L A B R) (hg : B.length < A.length) : ∃ X Y, A = X ++ Y ∧ X.length = B.length ∧ Y.length = A.length - B.length ∧ qun m n G (L ++ B) Y X R := by
 have e : A = A.take B.length ++ A.drop B.length := (List.take_append_drop _ _).symm
 have e1 : (A.take B.length).length = B.length := by rw [qaI]; omega
 have e2 : (A.drop B.length).length = A.length - B.length := qaJ
 have ho := h.oa
 rw [e] at ho
 have h1 := h.l1
 have h2 := h.l2
 have h3 := h.m
 refine ⟨_, _, e, e1, e2, ⟨?_, ?_, ?_, ho.right, ho.left, ?_, ?_, ?_⟩⟩
 ·rw [qaA, e2]; omega
 ·omega
 ·have := h.b; omega
 ·rw [qaA, e1, e2]; omega
 ·rw [qaA, e1, e2]; omega
 ·rw [← h.g]
  conv => rhs; rw [e]
  simp only [qaB]
theorem u21 {p : Prop} (h : p := by (first | (have e3 : A1.length - B1.length = Y.length := (by omega); have e4 : B1.length = X.length := (by omega); refine ⟨Y.length + X.length, by omega, L1 ++ B1, Y, X, R1, rfl, hIg, ?_⟩; rw [qaB L1 B1, ← e3, hx]; (refine S.keep ?_; exact zk); done) | (have e3 : B1.length - A1.length = X.length := (by omega); have e4 : A1.length = Y.length := (by omega); refine ⟨Y.length + X.length, by omega, L1, Y, X, A1 ++ R1, rfl, hIl, ?_⟩; rw [← e3, hx]; (refine S.keep ?_; exact zk); done))) : p := h
theorem u5t (F : q01) (bd n cap : Nat) (T : TypeId) (P A B D : List Value) (cv : Value) (pa m pb : Nat) (ha : pa = P.length) (hb : pb = P.length + A.length + B.length) (hm : n ≤ 1000000000000) (hI : qun m n (P ++ (B ++ (A ++ D))) P A B D) :
  Ct Tryz.prog 168 [.slice (some ⟨bd, 0, none⟩) n cap, .int .i64 (pa : Nat), .int .i64 (m : Nat), .int .i64 (pb : Nat), cv] F [[(bd, .cells ⟨P ++ (A ++ (B ++ D))⟩ T (0, 0))]]
   (fun _ G' u => G' = [[(bd, .cells ⟨P ++ (B ++ (A ++ D))⟩ T (0, 0))]]) := by
 have hmm := hI.m
 have hm1 := hI.l1
 have hm2 := hI.l2
 generalize hgg : P ++ (B ++ (A ++ D)) = Gf at *
 refine Ct.enter Tryz.func168 rfl Tryz.ntmps168 rfl fun w0 a S => ?_
 revert a; refine go 3 ?_; intro Z hZ a S
 first | (refine wv S (q12 S rfl rfl rfl (by omega)) ?_; clear S a; intro a S) | (refine wv S (q1a S rfl rfl rfl (by omega)) ?_; clear S a; intro a S)
 revert a; revert Z; refine go 6 ?_; intro Z hZ a S
 first | (refine wv S (q12 S rfl rfl rfl (by omega)) ?_; clear S a; intro a S) | (refine wv S (q1a S rfl rfl rfl (by omega)) ?_; clear S a; intro a S)
 revert a; revert Z; refine go 5 ?_; intro Z hZ a S
 refine q04 (fun q a' w' => ∃ (L A B R : List Value), q = A.length + B.length ∧ qun m n Gf L A B R ∧ St 58 [(0, .slice (some ⟨bd, 0, none⟩) n cap), (2, .int .i64 (m : Nat)), (4, cv), (10, .int .i64 (A.length : Nat)), (11, .int .i64 (B.length : Nat))] w0 F (keys [[(bd, .cells ⟨P ++ (A ++ (B ++ D))⟩ T (0, 0))]]) F [[(bd, .cells ⟨L ++ (A ++ (B ++ R))⟩ T (0, 0))]] a' w') ?_ ?_
 ·(have e1 : m - pa = A.length := (by omega); have e2 : pb - m = B.length := (by omega); rw [e1, e2] at S; refine ⟨_, P, A, B, D, rfl, hI, ?_⟩; refine S.keep ?_; exact zk)
 (clear S; rintro q a w ⟨L1, A1, B1, R1, rfl, hI1, S⟩; have q1 := hI1.m; have q2 := hI1.l1; have q3 := hI1.l2; have q4 := hI1.a; have q5 := hI1.b)
 revert a; refine go 7 ?_; intro Z hZ a S
 refine q00 S rfl ?_ ?_ <;> intro h
 ·revert a; revert Z; refine go 9 ?_; intro a S
  refine q00 S rfl ?_ ?_ <;> intro h
  ·revert a; refine go 4 ?_; intro Z hZ a S
   first | (refine wv S (q12 S rfl rfl rfl (by omega)) ?_; clear S a; intro a S) | (refine wv S (q1a S rfl rfl rfl (by omega)) ?_; clear S a; intro a S)
   revert a; refine go 3 ?_; intro a S
   (obtain ⟨X, Y, eA, hx, hy, hIg⟩ := hI1.gt (by omega); have hXY := hI1.oa; rw [eA] at hXY; have e9 : L1 ++ (A1 ++ (B1 ++ R1)) = L1 ++ (X ++ (Y ++ (B1 ++ R1))) := (by rw [eA, qaB]); rw [e9] at S; refine q02 (Gs := [[(bd, .cells ⟨L1 ++ (X ++ (Y ++ (B1 ++ R1)))⟩ T (0, 0))]]) (Gr := []) S rfl rfl rfl rfl rfl rfl (qh2 F bd n cap T L1 X Y B1 R1 cv _ _ _ (by omega) (by omega) (by omega) (by omega) hXY.left hI1.ob (by omega) (by omega) hm) rfl (by simp) ?_; clear S a; intro v31 G9 a w hv S; subst hv)
   revert a; revert Z; refine go 5 ?_; intro a S
   first | (refine wv S (q12 S rfl rfl rfl (by omega)) ?_; clear S a; intro a S) | (refine wv S (q1a S rfl rfl rfl (by omega)) ?_; clear S a; intro a S)
   revert a; refine go 2 ?_; intro a S
   change ∃ m', _ ∧ _
   exact u21
  revert a; refine go 4 ?_; intro Z hZ a S
  first | (refine wv S (q12 S rfl rfl rfl (by omega)) ?_; clear S a; intro a S) | (refine wv S (q1a S rfl rfl rfl (by omega)) ?_; clear S a; intro a S)
  revert a; refine go 4 ?_; intro a S
  first | (refine wv S (q12 S rfl rfl rfl (by omega)) ?_; clear S a; intro a S) | (refine wv S (q1a S rfl rfl rfl (by omega)) ?_; clear S a; intro a S)
  revert a; refine go 2 ?_; intro a S
  (obtain ⟨X, Y, eB, hx, hy, hIl⟩ := hI1.lt (by omega); have hXY := hI1.ob; rw [eB] at hXY; have e9 : L1 ++ (A1 ++ (B1 ++ R1)) = L1 ++ (A1 ++ (X ++ (Y ++ R1))) := (by rw [eB, qaB]); rw [e9] at S; refine q02 (Gs := [[(bd, .cells ⟨L1 ++ (A1 ++ (X ++ (Y ++ R1)))⟩ T (0, 0))]]) (Gr := []) S rfl rfl rfl rfl rfl rfl (qh2 F bd n cap T L1 A1 X Y R1 cv _ _ _ (by omega) (by omega) (by omega) (by omega) hI1.oa hXY.right (by omega) (by omega) hm) rfl (by simp) ?_; clear S a; intro v46 G9 a w hv S; subst hv)
  revert a; revert Z; refine go 5 ?_; intro a S
  first | (refine wv S (q12 S rfl rfl rfl (by omega)) ?_; clear S a; intro a S) | (refine wv S (q1a S rfl rfl rfl (by omega)) ?_; clear S a; intro a S)
  revert a; refine go 2 ?_; intro a S
  change ∃ m', _ ∧ _
  exact u21
 (refine wp_exit ?_; conv => whnf)
 clear hZ Z
 revert a; revert Z; refine go 5 ?_; intro a S
 first | (refine wv S (q12 S rfl rfl rfl (by omega)) ?_; clear S a; intro a S) | (refine wv S (q1a S rfl rfl rfl (by omega)) ?_; clear S a; intro a S)
 revert a; refine go 3 ?_; intro a S
 (refine q02 (Gs := [[(bd, .cells ⟨L1 ++ (A1 ++ ([] ++ (B1 ++ R1)))⟩ T (0, 0))]]) (Gr := []) S rfl rfl rfl rfl rfl rfl (qh2 F bd n cap T L1 A1 [] B1 R1 cv _ _ _ (by omega) (by simp only [qaD]; omega) (by omega) (by omega) hI1.oa hI1.ob (by simp only [qaD]; omega) (by simp only [qaD]; omega) hm) rfl (by simp) ?_; clear S a; intro v57 G9 a w hv S; subst hv)
 refine wpList_nil ?_
 refine q1m S (q0x Tryz.results168) ?_
 (rw [← hI1.g]; rfl)
def q0n (l : List Vr) : List Value := l.map (·.1)
theorem q10 (A B : List Vr) : q0n (A ++ B) = q0n A ++ q0n B := List.map_append
theorem q0g (A : List Vr) : (q0n A).length = A.length := List.length_map ..
theorem qje {F : q01} {fid : FuncId} {fi ca : List Value} {Q : Vr → Prop} {c : Vr → Vr → Int} (h : qqp F fid fi ca Q c) {l : List Vr} (hl : ∀ x ∈ l, Q x) : OneC (q0n l) := fun v hv => by
 obtain ⟨x, hx, rfl⟩ := List.mem_map.1 hv
 exact h.one x (hl x hx)
theorem qqx {α : Type} {P Q S : List α} {x y : α} {i j : Nat} (hi : i = P.length) (hj : j = P.length + 1 + Q.length) : ((P ++ x :: (Q ++ y :: S)).set j x).set i y = P ++ y :: (Q ++ x :: S) := by
 rw [List.set_comm _ _ (by omega)]
 exact qgi hi hj
def q62 (P : List Value) (B : List Vr) (x : Vr) (R : List Value) : List Value := P ++ (q0n B ++ (x.1 :: R))
theorem qc7 (P : List Value) (B : List Vr) (x : Vr) (R : List Value) : (q62 P B x R).length = P.length + B.length + 1 + R.length := by
 unfold q62; simp only [qaA, qaC, q0g]; omega
theorem qaz (P : List Value) (B : List Vr) (x : Vr) (R : List Value) : (q62 P B x R)[P.length + B.length]? = some x.1 := by
 unfold q62
 rw [List.getElem?_append_right (by omega), List.getElem?_append_right (by rw [q0g]; omega), q0g, show P.length + B.length - P.length - B.length = 0 by omega]; rfl
theorem qud (P : List Value) (B : List Vr) (z x : Vr) (R : List Value) : (q62 P (B ++ [z]) x R)[P.length + B.length]? = some z.1 := by
 have : q62 P (B ++ [z]) x R = q62 P B z (x.1 :: R) := by unfold q62; rw [q10]; simp [q0n]
 rw [this]; exact qaz ..
theorem qf9 (P : List Value) (B : List Vr) (z x : Vr) (R : List Value) {i j : Nat} (hi : i = P.length + B.length) (hj : j = P.length + B.length + 1) : ((q62 P (B ++ [z]) x R).set j z.1).set i x.1 = q62 P B x (z.1 :: R) := by
 have e : q62 P (B ++ [z]) x R = (P ++ q0n B) ++ z.1 :: ([] ++ x.1 :: R) := by unfold q62; rw [q10]; simp [q0n]
 have l : (P ++ q0n B).length = P.length + B.length := by rw [qaA, q0g]
 rw [e, qqx (by omega) (by rw [qaD]; omega)]
 unfold q62; simp
theorem qqm {P : List Value} {B : List Vr} {x : Vr} {R : List Value} {Q : Vr → Prop} (hB : ∀ y ∈ B, Q y) (hx : Q x) : ∃ zz, B.getLast?.getD x = zz ∧ Q zz ∧ (0 < B.length → (q62 P B x R)[P.length + B.length - 1]? = some zz.1 ∧ B.getLast? = some zz) := by
 rcases List.eq_nil_or_concat B with rfl | ⟨B2, z, rfl⟩
 ·exact ⟨x, rfl, hx, fun h => absurd h (Nat.lt_irrefl 0)⟩
 ·rw [List.concat_eq_append] at *
  refine ⟨z, by simp, hB z (by simp), fun _ => ⟨?_, by simp⟩⟩
  rw [show P.length + (B2 ++ [z]).length - 1 = P.length + B2.length by simp]
  exact qud ..
theorem u06 {p : Prop} (h : p := by (have hs2 : Srt (ltC c) (B ++ xx :: E) := qnu hC.ord (by rw [hBE]; exact hYs) (fun z hz => by first | (exfalso; have hB0 : B.length = 0 := (by omega); rw [List.length_eq_zero_iff.1 hB0] at hz; cases hz) | (have hzc : z = zz := (by rw [hz] at hzz; exact hzz); rw [hzc]; exact decide_eq_false (by omega))) hEh; have hp2 : ((B ++ xx :: E) ++ Yt).Perm (x0 :: X1) := (by refine List.Perm.trans ?_ hYZ; rw [← hBE]; simp only [qaB, List.cons_append]; exact List.Perm.append_left _ List.perm_middle.symm); have hl3 : (B ++ xx :: E).length = Y.length + 1 := (by rw [← hBE]; simp only [qaA, qaC]; omega); have hce : q62 P B xx (q0n E ++ (q0n Yt ++ D)) = P ++ (q0n (B ++ xx :: E) ++ (q0n Yt ++ D)) := (by unfold q62 q0n; simp); rw [hce] at S; refine ⟨Yt.length, by simp, B ++ xx :: E, Yt, rfl, by omega, hp2, hs2, (fun x hx => hQ x (hp2.mem_iff.1 hx)), ?_⟩; rw [hl3]; (refine S.keep ?_; exact zk))) : p := h
theorem u3k (F : q01) (bd n cap : Nat) (T : TypeId) (fid : FuncId) (fi ca : List Value) [hfn : q0b Tryz.prog fid] (Q : Vr → Prop) (c : Vr → Vr → Int) (hC : qqp F fid fi ca Q c) (P D : List Value) (X : List Vr) (hQ : ∀ x ∈ X, Q x) (pa pb : Nat) (ha : pa = P.length) (hb : pb = P.length + X.length) (hx0 : 0 < X.length) (hl : pb ≤ n) (hl2 : n ≤ P.length + X.length + D.length) (hm : n ≤ 1000000000000) :
  Ct Tryz.prog 156 [.slice (some ⟨bd, 0, none⟩) n cap, .int .i64 (pa : Nat), .int .i64 (pb : Nat), .func (.func fid) ⟨fi⟩ ⟨ca⟩] F [[(bd, .cells ⟨P ++ (q0n X ++ D)⟩ T (0, 0))]]
   (fun _ G' u => ∃ Y : List Vr, Y.Perm X ∧ Srt (ltC c) Y ∧ G' = [[(bd, .cells ⟨P ++ (q0n Y ++ D)⟩ T (0, 0))]]) := by
 subst ha
 subst hb
 obtain ⟨x0, X1, rfl⟩ : ∃ x0 X1, X = x0 :: X1 := by cases X with | nil => exact absurd hx0 (by decide) | cons x r => exact ⟨x, r, rfl⟩
 refine Ct.enter Tryz.func156 rfl Tryz.ntmps156 rfl fun w0 a S => ?_
 revert a; refine go 7 ?_; intro a S
 refine q04 (fun q a' w' => ∃ (Y Yr : List Vr), q = Yr.length ∧ 0 < Y.length ∧ (Y ++ Yr).Perm (x0 :: X1) ∧ Srt (ltC c) Y ∧ (∀ x ∈ Y ++ Yr, Q x) ∧ St 53 [(0, .slice (some ⟨bd, 0, none⟩) n cap), (1, .int .i64 (P.length : Nat)), (2, .int .i64 ((P.length + (x0 :: X1).length : Nat) : Int)), (3, .func (.func fid) ⟨fi⟩ ⟨ca⟩), (8, .int .i64 ((P.length + Y.length : Nat) : Int))] w0 F (keys [[(bd, .cells ⟨P ++ (q0n (x0 :: X1) ++ D)⟩ T (0, 0))]]) F [[(bd, .cells ⟨P ++ (q0n Y ++ (q0n Yr ++ D))⟩ T (0, 0))]] a' w') ?_ ?_
 ·(refine ⟨X1.length, [x0], X1, rfl, Nat.one_pos, List.Perm.refl _, Srt.one _, hQ, ?_⟩; refine S.keep ?_; exact zk)
 (clear S; rintro q a w ⟨Y, Yr, rfl, hY0, hYZ, hYs, hYQ, S⟩; have hYl := hYZ.length_eq; rw [qaA] at hYl)
 revert a; refine go 7 ?_; intro Z hZ a S
 refine q00 S rfl ?_ ?_ <;> intro h
 ·revert a; revert Z; refine go 4 ?_; intro Z hZ a S
  (refine wp_seq_k ?_; intro Z hZ)
  (obtain ⟨xx, Yt, rfl⟩ : ∃ xx Yt, Yr = xx :: Yt := (by cases Yr with | nil => (exfalso; simp only [qaD, qaC] at *; omega) | cons x r => exact ⟨x, r, rfl⟩); have hqx : Q xx := hYQ xx (by simp); simp only [qaC] at hYl hl hl2)
  revert a; revert Z; refine go 6 ?_; intro a S
  refine q04 (fun q a' w' => ∃ (B E : List Vr), q = B.length ∧ B ++ E = Y ∧ (∀ z, E.head? = some z → ltC c z xx = false) ∧ St 53 [(0, .slice (some ⟨bd, 0, none⟩) n cap), (1, .int .i64 (P.length : Nat)), (2, .int .i64 ((P.length + (x0 :: X1).length : Nat) : Int)), (3, .func (.func fid) ⟨fi⟩ ⟨ca⟩), (8, .int .i64 ((P.length + Y.length : Nat) : Int)), (9, .int .i64 ((P.length + B.length : Nat) : Int))] w0 F (keys [[(bd, .cells ⟨P ++ (q0n (x0 :: X1) ++ D)⟩ T (0, 0))]]) F [[(bd, .cells ⟨q62 P B xx (q0n E ++ (q0n Yt ++ D))⟩ T (0, 0))]] a' w') ?_ ?_
  ·(refine ⟨Y.length, Y, [], rfl, qaE _, (fun z h => by cases h), ?_⟩; refine S.keep ?_; exact zk)
  (clear S; rintro q a w ⟨B, E, rfl, hBE, hEh, S⟩)
  iterate 2 (refine wp_seq_k ?_; intro Z hZ)
  (obtain ⟨zz, hzz, hzq, hzl⟩ : ∃ zz, B.getLast?.getD xx = zz ∧ Q zz ∧ (0 < B.length → (q62 P B xx (q0n E ++ (q0n Yt ++ D)))[P.length + B.length - 1]? = some zz.1 ∧ B.getLast? = some zz) := qqm (fun x hx => hYQ x (by rw [← hBE]; simp [hx])) hqx; have hcl := qc7 P B xx (q0n E ++ (q0n Yt ++ D)); simp only [qaA, q0g] at hcl; have hBl : B.length + E.length = Y.length := (by rw [← hBE, qaA]))
  (refine q0k [0, 1, 2, 3, 4, 5, 6, 7, 8, 9, 10, 11, 12, 13, 15, 16] [8, 13] [] (.one 0 (.one 1 (.one 2 (.one 3 (.one 4 (.one 5 (.one 6 (.one 7 (.one 8 (.one 9 (.one 10 (.one 11 (.one 12 (.one 13 (.one 14 (.one 15 (.one 16 .nil))))))))))))))))) [bd] S mixed (by kernel_rfl) ?_; clear S; intro w S)
  revert a; refine go 4 ?_; intro a S
  refine St.pt 21 true S rfl ?_ ?_ <;> clear S <;> intro h S
  ·revert a; refine go 4 ?_; intro a S
   (refine q1g bd S rfl rfl rfl (q1k S rfl rfl rfl) rfl rfl (fun w' S => q0f S rfl rfl (by simpa using qaz P B xx _)) ?_; clear S a; intro a S)
   revert a; refine go 2 ?_; intro a S
   first | (refine q19 S rfl rfl rfl (q1k S rfl rfl rfl) rfl rfl (fun w' S => q12 (q := 1) S rfl rfl rfl (by omega)) ?_; clear S a; intro a S) | (refine q19 S rfl rfl rfl (q1k S rfl rfl rfl) rfl rfl (fun w' S => q1a S rfl rfl rfl (by omega)) ?_; clear S a; intro a S)
   revert a; refine go 1 ?_; intro a S
   (refine q1g bd S rfl rfl rfl (q1k S rfl rfl rfl) rfl rfl (fun w' S => q0f S rfl rfl (by simpa using (hzl (by omega)).1)) ?_; clear S a; intro a S)
   revert a; refine go 2 ?_; intro a S
   (refine wc0 S (hC.ct xx zz hqx hzq) ?_; clear S a; intro v32 a w hv S; subst hv)
   revert a; revert Z; refine go 5 ?_; intro a S
   refine q00 S rfl ?_ ?_ <;> intro h
   ·revert a; revert Z; refine go 4 ?_; intro Z hZ a S
    (obtain ⟨B2, rfl⟩ : ∃ B2, B = B2 ++ [zz] := List.getLast?_eq_some_iff.1 (hzl (by omega)).2; have hzl2 := hzl (by simp); have hB2 : (B2 ++ [zz]).length = B2.length + 1 := (by simp); simp only [qaA, qaC, qaD] at hzl2 hcl hBl)
    (refine q0k [0, 1, 2, 3, 4, 5, 6, 7, 8, 9, 10, 11, 12, 13, 14, 16] [9, 13] [15, 17] (.one 0 (.one 1 (.one 2 (.one 3 (.one 4 (.one 5 (.one 6 (.one 7 (.one 8 (.one 9 (.one 10 (.one 11 (.one 12 (.one 13 (.one 14 (.one 15 (.one 16 (.one 17 .nil)))))))))))))))))) [bd] S mixed (by kernel_rfl) ?_; clear S; intro w S)
    revert a; refine go 4 ?_; intro a S
    first | (refine q19 S rfl rfl rfl (q06 _ rfl) rfl rfl (fun w' S => q12 (q := 1) S rfl rfl rfl (by omega)) ?_; clear S a; intro a S) | (refine q19 S rfl rfl rfl (q06 _ rfl) rfl rfl (fun w' S => q1a S rfl rfl rfl (by omega)) ?_; clear S a; intro a S)
    revert a; refine go 2 ?_; intro a S
    first | (refine q19 S rfl rfl rfl (q06 _ rfl) rfl rfl (fun w' S => q12 (q := 1) S rfl rfl rfl (by omega)) ?_; clear S a; intro a S) | (refine q19 S rfl rfl rfl (q06 _ rfl) rfl rfl (fun w' S => q1a S rfl rfl rfl (by omega)) ?_; clear S a; intro a S)
    revert a; refine go 1 ?_; intro a S
    (refine q1g bd S rfl rfl rfl (q06 _ rfl) rfl rfl (fun w' S => q0f S rfl rfl (by simpa using hzl2.1)) ?_; clear S a; intro a S)
    revert a; refine go 3 ?_; intro a S
    (refine q1g bd S rfl rfl rfl (q06 _ rfl) rfl rfl (fun w' S => q0f S rfl rfl (by simpa using qaz P (B2 ++ [zz]) xx _)) ?_; clear S a; intro a S)
    revert a; refine go 2 ?_; intro a S
    (refine q0e S rfl rfl rfl rfl rfl (hC.one _ hzq) (by omega) ?_; clear S; intro w S)
    revert a; refine go 2 ?_; intro a S
    refine q1q rfl rfl (fun h => absurd h (by decide)) ?_
    (refine q0e S rfl rfl rfl rfl rfl (hC.one _ hqx) (by rw [List.length_set]; omega) ?_; clear S; intro w S; rw [qf9 P B2 zz xx _ (by omega) (by omega)] at S)
    refine wpList_nil ?_
    refine q5g (fun h => absurd h (by decide)) ?_
    revert a; revert Z; refine go 3 ?_; intro a S
    first | (refine wv S (q12 (q := 1) S rfl rfl rfl (by omega)) ?_; clear S a; intro a S) | (refine wv S (q1a S rfl rfl rfl (by omega)) ?_; clear S a; intro a S)
    revert a; refine go 2 ?_; intro a S
    change ∃ m', _ ∧ _
    (have e9 : P.length + (B2 ++ [zz]).length - 1 = P.length + B2.length := (by omega); rw [e9] at S; refine ⟨B2.length, by simp, B2, zz :: E, rfl, by rw [← hBE]; simp, (fun w hw => by cases hw; exact hC.ord.asy (decide_eq_true (by assumption))), ?_⟩; (refine S.keep ?_; exact zk))
   (refine wp_exit ?_; conv => whnf)
   clear hZ Z
   revert a; revert Z; refine go 6 ?_; intro a S
   change ∃ m', _ ∧ _
   exact u06
  revert a; refine go 10 ?_; intro a S
  (refine q5a S rfl rfl (qcz S rfl rfl rfl) (kwa S) rfl rfl ?_; clear S a; intro a S)
  revert a; revert Z; refine go 4 ?_; intro a S
  refine q03 S rfl ?_
  (refine wp_exit ?_; conv => whnf)
  clear hZ Z
  revert a; revert Z; refine go 6 ?_; intro a S
  change ∃ m', _ ∧ _
  exact u06
 (refine wp_exit ?_; conv => whnf)
 refine q1m S (q0x Tryz.results156) ?_
 (have hY9 : Yr.length = 0 := (by omega); obtain rfl := List.length_eq_zero_iff.1 hY9; exact ⟨Y, by simpa using hYZ, hYs, rfl⟩)
