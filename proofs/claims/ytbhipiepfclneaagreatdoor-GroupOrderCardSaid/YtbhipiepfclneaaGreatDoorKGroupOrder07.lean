/- Walks. -/
import Derived.Test.YtbhipiepfclneaaGreatDoorKGroupOrder06
import Derived.Test.YtbhipiepfclneaaGreatDoorQ20
import Derived.Test.YtbhipiepfclneaaGreatDoorQ19
import Derived.Test.YtbhipiepfclneaaGreatDoorQ18
import Derived.Test.YtbhipiepfclneaaGreatDoorQ10
import Derived.Test.YtbhipiepfclneaaGreatDoorQ09
import Derived.Test.YtbhipiepfclneaaGreatDoorQ06
import Derived.Test.YtbhipiepfclneaaGreatDoorQ05
import Derived.Test.YtbhipiepfclneaaGreatDoorKGroupOrder01
import Derived.Test.YtbhipiepfclneaaGreatDoorKGroupOrderTy
import Derived.Test.YtbhipiepfclneaaGreatDoorQ01
import Derived.Test.YtbhipiepfclneaaGreatDoorQ17
import Derived.Test.YtbhipiepfclneaaGreatDoorQ16
import Derived.Test.YtbhipiepfclneaaGreatDoorQ11
import Derived.Test.YtbhipiepfclneaaGreatDoorQ04
import Derived.Test.YtbhipiepfclneaaGreatDoorQ03
import Derived.Test.YtbhipiepfclneaaGreatDoorQ02
import Derived.Test.YtbhipiepfclneaaGreatDoorQShelf
import Derived.Test.YtbhipiepfclneaaGreatDoorQ15
import Derived.Test.YtbhipiepfclneaaGreatDoorQ14
import Derived.Test.YtbhipiepfclneaaGreatDoorQ13
import Derived.Test.YtbhipiepfclneaaGreatDoorQ12
namespace Go.Proofs.YtbhipiepfclneaaGreatDoor
open Go Go.Wk Go.Un Go.De Go.Num
set_option linter.unusedSimpArgs false
set_option linter.unusedVariables false
theorem ix_mem : ∀ {s : List UInt8} {c : UInt8}, 0 ≤ Lib.indexByte s c → ∀ x ∈ s, x ∈ s.take (Lib.indexByte s c).toNat ∨ x = c ∨ x ∈ s.drop ((Lib.indexByte s c).toNat + 1)
 | [], c, _, x, hx => by cases hx
 | b :: l, c, h, x, hx => by
  by_cases hb : b = c
  ·subst hb
   have e : Lib.indexByte (b :: l) b = 0 := by unfold Lib.indexByte; simp
   rw [e]
   rcases List.mem_cons.1 hx with h1 | h1
   ·exact .inr (.inl h1)
   ·exact .inr (.inr h1)
  ·have hb2 : (b == c) = false := by simp [hb]
   by_cases hn : Lib.indexByte l c = -1
   ·exfalso
    have e : Lib.indexByte (b :: l) c = -1 := by unfold Lib.indexByte; rw [hb2, hn]; rfl
    omega
   ·have hge := Lib.indexByte_ge l c
    have e : Lib.indexByte (b :: l) c = Lib.indexByte l c + 1 := by
     conv => lhs; unfold Lib.indexByte
     rw [hb2, if_neg (by decide), if_neg (by simpa using hn)]
    rw [e, show (Lib.indexByte l c + 1).toNat = (Lib.indexByte l c).toNat + 1 by omega, List.take_succ_cons, List.drop_succ_cons]
    rcases List.mem_cons.1 hx with h1 | h1
    ·exact .inl (List.mem_cons.2 (.inl h1))
    ·rcases ix_mem (s := l) (c := c) (by omega) x h1 with h2 | h2 | h2
     ·exact .inl (List.mem_cons_of_mem _ h2)
     ·exact .inr (.inl h2)
     ·exact .inr (.inr h2)
theorem name_del {h : VH} {n : Nat} (hk : h.k = 6) (f : formH h n = true) : ∀ c ∈ h.s, delB c = false := fun c hc => by
 unfold formH at f
 rw [if_neg (by omega), if_neg (by omega), if_neg (by omega), if_neg (by omega), if_neg (by omega), if_pos hk, Bool.and_eq_true, Bool.and_eq_true] at f
 have h1 := (nameS_all f.2.1).1
 by_cases hi : 0 ≤ cutI h.s
 ·have h2 := f.2.2
  rw [show De.cutC h.s = true from decide_eq_true hi] at h2
  have h3 : nameS (De.cutB h.s) = true := by simpa using h2
  have h4 := (nameS_all h3).1
  unfold De.cutA at h1
  unfold De.cutB at h4
  rw [if_pos hi] at h1 h4
  unfold cutI at hi h1 h4
  rcases ix_mem hi c hc with h5 | h5 | h5
  ·exact nameN_del (h1 c h5)
  ·rw [h5]; rfl
  ·exact nameN_del (h4 c h5)
 ·unfold De.cutA at h1
  rw [if_neg hi] at h1
  exact nameN_del (h1 c hc)
theorem tk_del {h : VH} {n : Nat} (o : OkH h n) (p : plainK h.k) : ∀ c ∈ tkH h, delB c = false := by
 unfold tkH
 rcases p with hk | hk | hk | hk
 ·rw [if_pos hk]; exact bool_del _
 ·rw [if_neg (by omega), if_pos hk]; exact itoa_del o.i
 ·rw [if_neg (by omega), if_neg (by omega), if_pos hk]
  intro c hc
  rcases List.mem_append.1 hc with hc | hc
  ·exact num_del (o.b hk) c hc
  ·obtain rfl := List.mem_singleton.1 hc; rfl
 ·rw [if_neg (by omega), if_neg (by omega), if_neg (by omega)]
  exact name_del hk o.f
def OkR : Vf → Prop
 | .nil => True
 | .cons h L r => (OkH h L.len ∧ OkR L) ∧ OkR r
def sepB (d : UInt8) : Prop := d = 44 ∨ d = 41 ∨ d = 59
theorem sep_del {d : UInt8} (h : sepB d) : delB d = true := by rcases h with rfl | rfl | rfl <;> rfl
theorem kinds {h : VH} {n : Nat} (f : formH h n = true) : plainK h.k ∨ h.k = 4 ∨ h.k = 5 := by
 unfold plainK
 unfold formH at f
 by_cases h1 : h.k = 1
 ·exact .inl (.inl h1)
 ·by_cases h2 : h.k = 2
  ·exact .inl (.inr (.inl h2))
  ·by_cases h3 : h.k = 3
   ·exact .inl (.inr (.inr (.inl h3)))
   ·by_cases h4 : h.k = 4
    ·exact .inr (.inl h4)
    ·by_cases h5 : h.k = 5
     ·exact .inr (.inr h5)
     ·by_cases h6 : h.k = 6
      ·exact .inl (.inr (.inr (.inr h6)))
      ·rw [if_neg h1, if_neg h2, if_neg h3, if_neg h4, if_neg h5, if_neg h6] at f; cases f
theorem tk_hd {h : VH} {n : Nat} (o : OkH h n) (p : plainK h.k) : ∃ x q, tkH h = x :: q ∧ x ≠ 34 ∧ x ≠ 40 ∧ x ≠ 41 := by
 have key : ∀ {t : List UInt8}, t ≠ [] → (∀ c ∈ t, delB c = false) → (∀ x q, t = x :: q → x ≠ 34) → ∃ x q, t = x :: q ∧ x ≠ 34 ∧ x ≠ 40 ∧ x ≠ 41 := by
  intro t h0 h1 h2
  cases t with
  | nil => exact absurd rfl h0
  | cons x q =>
   have := h1 x (List.mem_cons_self ..)
   exact ⟨x, q, rfl, h2 x q rfl, fun e => (by subst e; cases this), fun e => (by subst e; cases this)⟩
 have hd := tk_del o p
 have nm : ∀ {s : List UInt8}, checkS s = 0 → s ≠ [] ∧ ∀ x q, s = x :: q → x ≠ 34 := by
  intro s hs
  obtain ⟨c, hc, -⟩ := num_head hs
  refine ⟨fun e => (by rw [e] at hc; cases hc), fun x q e e2 => ?_⟩
  have := num_chars hs x (by rw [e]; exact List.mem_cons_self ..)
  subst e2
  revert this; decide
 unfold tkH at hd ⊢
 rcases p with hk | hk | hk | hk
 ·rw [if_pos hk] at hd ⊢
  obtain ⟨x, hx, h97⟩ := head_bool (decide (h.n = 1))
  exact key (fun e => by rw [e] at hx; cases hx) hd fun y q e e2 => by rw [e] at hx; cases hx; subst e2; revert h97; decide
 ·rw [if_neg (by omega), if_pos hk] at hd ⊢
  rw [show_itoa o.i.1 o.i.2] at hd ⊢
  obtain ⟨a, b⟩ := nm (show_ok (i64_show o.i)).1
  exact key a hd b
 ·rw [if_neg (by omega), if_neg (by omega), if_pos hk] at hd ⊢
  obtain ⟨a, b⟩ := nm (o.b hk)
  refine key (by simp) hd fun y q e => ?_
  cases hs : h.s with
  | nil => exact absurd hs a
  | cons z w => rw [hs] at e; cases e; exact b _ _ hs
 ·rw [if_neg (by omega), if_neg (by omega), if_neg (by omega)] at hd ⊢
  obtain ⟨x, hx, h97⟩ := name_head hk o.f
  exact key (fun e => by rw [e] at hx; cases hx) hd fun y q e e2 => by rw [e] at hx; cases hx; subst e2; revert h97; decide
theorem shw_plain {h : VH} {L : Vf} {d : UInt8} {r : List UInt8} (o : OkH h L.len) (p : plainK h.k) (hd : sepB d) :
  (L.len = 0 ∧ shwV h L ++ d :: r = tkH h ++ d :: r) ∨ (0 < L.len ∧ shwV h L ++ d :: r = tkH h ++ 40 :: (shwL false L ++ 41 :: d :: r)) := by
 have f := o.f
 unfold shwV shwH tkH
 unfold formH at f
 rcases p with hk | hk | hk | hk
 ·rw [if_pos hk] at f
  have := of_decide_eq_true f
  exact .inl ⟨this.2.2, by rw [if_pos hk, if_pos hk]⟩
 ·rw [if_neg (by omega), if_pos hk] at f
  have := of_decide_eq_true f
  exact .inl ⟨this.2, by rw [if_neg (by omega), if_pos hk, if_neg (by omega), if_pos hk]⟩
 ·rw [if_neg (by omega), if_neg (by omega), if_pos hk, Bool.and_eq_true] at f
  have := of_decide_eq_true f.2
  exact .inl ⟨this.2, by rw [if_neg (by omega), if_neg (by omega), if_pos hk, if_neg (by omega), if_neg (by omega), if_pos hk]⟩
 ·by_cases h0 : L.len = 0
  ·exact .inl ⟨h0, by simp [hk, h0]⟩
  ·exact .inr ⟨by omega, by simp [hk, h0]⟩
theorem shw_text {h : VH} {L : Vf} (hk : h.k = 4) : shwV h L = quoteS h.s := by
 unfold shwV shwH
 rw [if_neg (by omega), if_neg (by omega), if_neg (by omega), if_pos hk]
theorem shw_list {h : VH} {L : Vf} (hk : h.k = 5) : shwV h L = [40] ++ shwL false L ++ [41] := by
 unfold shwV shwH
 rw [if_neg (by omega), if_neg (by omega), if_neg (by omega), if_neg (by omega), if_pos hk]
theorem text_f {h : VH} {n : Nat} (hk : h.k = 4) (f : formH h n = true) : h.n = 0 ∧ n = 0 := by
 unfold formH at f
 rw [if_neg (by omega), if_neg (by omega), if_neg (by omega), if_pos hk] at f
 exact of_decide_eq_true f
theorem list_f {h : VH} {n : Nat} (hk : h.k = 5) (f : formH h n = true) : h.n = 0 ∧ h.s = [] := by
 unfold formH at f
 rw [if_neg (by omega), if_neg (by omega), if_neg (by omega), if_neg (by omega), if_pos hk] at f
 have := of_decide_eq_true f
 exact ⟨this.1, this.2.1⟩
theorem shw_hd {h : VH} {L : Vf} (o : OkH h L.len) : ∃ x q, shwV h L = x :: q ∧ x ≠ 41 ∧ (h.k = 4 → x = 34) ∧ (h.k = 5 → x = 40) ∧ (plainK h.k → x ≠ 34 ∧ x ≠ 40) := by
 rcases kinds o.f with p | hk | hk
 ·obtain ⟨x, q, e, h1, h2, h3⟩ := tk_hd o p
  have np : ¬ h.k = 4 ∧ ¬ h.k = 5 := by unfold plainK at p; omega
  have e2 : ∃ q', shwV h L = x :: q' := by
   rcases shw_plain (d := 59) (r := []) o p (.inr (.inr rfl)) with ⟨-, e9⟩ | ⟨-, e9⟩
   ·rw [List.append_cancel_right e9]; exact ⟨_, e⟩
   ·cases hs : shwV h L with
    | nil => rw [hs, e] at e9; simp at e9
    | cons y w => rw [hs, e] at e9; exact ⟨w, by rw [(List.cons.inj e9).1]⟩
  obtain ⟨q', e3⟩ := e2
  exact ⟨x, q', e3, h3, fun h => absurd h np.1, fun h => absurd h np.2, fun _ => ⟨h1, h2⟩⟩
 ·exact ⟨34, _, by rw [shw_text hk]; rfl, by decide, fun _ => rfl, fun h => by omega, fun h => by unfold plainK at h; omega⟩
 ·exact ⟨40, _, by rw [shw_list hk]; rfl, by decide, fun h => by omega, fun _ => rfl, fun h => by unfold plainK at h; omega⟩
def BackV (N : Nat) : Prop := ∀ (h : VH) (L : Vf) (g : VH) (M : Vf) (d e : UInt8) (r q : List UInt8), L.size + M.size < N → OkH h L.len → OkH g M.len → OkR L → OkR M → sepB d → sepB e → shwV h L ++ d :: r = shwV g M ++ e :: q → h = g ∧ L = M ∧ d :: r = e :: q
def BackL (N : Nat) : Prop := ∀ (c : Bool) (l m : Vf) (r q : List UInt8), l.size + m.size < N → OkR l → OkR m → shwL c l ++ 41 :: r = shwL c m ++ 41 :: q → l = m ∧ r = q
theorem len0 {L : Vf} (h : L.len = 0) : L = .nil := rose_nil h
theorem backV_step {N : Nat} (ih : BackL N) : BackV N := by
 intro h L g M d e r q hN oh og oL oM hd he hh
 obtain ⟨x, w, ex, -, x4, x5, xp⟩ := shw_hd oh
 obtain ⟨y, z, ey, -, y4, y5, yp⟩ := shw_hd og
 have hxy : x = y := by rw [ex, ey] at hh; exact (List.cons.inj hh).1
 subst hxy
 rcases kinds oh.f with ph | hk | hk <;> rcases kinds og.f with pg | gk | gk
 ·rcases shw_plain (r := r) oh ph hd with ⟨l0, e1⟩ | ⟨l0, e1⟩ <;> rcases shw_plain (r := q) og pg he with ⟨m0, e2⟩ | ⟨m0, e2⟩ <;> rw [e1, e2] at hh
  ·obtain ⟨t1, t2⟩ := tok_inj (tk_del oh ph) (tk_del og pg) (sep_del hd) (sep_del he) hh
   exact ⟨tk_inj oh og ph pg t1, by rw [len0 l0, len0 m0], t2⟩
  ·obtain ⟨t1, t2⟩ := tok_inj (tk_del oh ph) (tk_del og pg) (sep_del hd) rfl hh
   have := (List.cons.inj t2).1
   subst this; rcases hd with h9 | h9 | h9 <;> cases h9
  ·obtain ⟨t1, t2⟩ := tok_inj (tk_del oh ph) (tk_del og pg) rfl (sep_del he) hh
   have := (List.cons.inj t2).1
   subst this; rcases he with h9 | h9 | h9 <;> cases h9
  ·obtain ⟨t1, t2⟩ := tok_inj (tk_del oh ph) (tk_del og pg) rfl rfl hh
   obtain ⟨u1, u2⟩ := ih false L M _ _ hN oL oM (List.cons.inj t2).2
   exact ⟨tk_inj oh og ph pg t1, u1, u2⟩
 ·exact absurd (y4 gk) (xp ph).1
 ·exact absurd (y5 gk) (xp ph).2
 ·exact absurd (x4 hk) (yp pg).1
 ·rw [shw_text hk, shw_text gk] at hh
  obtain ⟨u1, u2⟩ := quote_inj hh
  obtain ⟨a1, a2⟩ := text_f hk oh.f
  obtain ⟨b1, b2⟩ := text_f gk og.f
  exact ⟨vh_ext (by omega) (by omega) u1, by rw [len0 a2, len0 b2], u2⟩
 ·exact absurd ((x4 hk).symm.trans (y5 gk)) (by decide)
 ·exact absurd (x5 hk) (yp pg).2
 ·exact absurd ((x5 hk).symm.trans (y4 gk)) (by decide)
 ·rw [shw_list hk, shw_list gk] at hh
  simp only [List.append_assoc, List.singleton_append, List.cons_append, List.nil_append] at hh
  obtain ⟨u1, u2⟩ := ih false L M _ _ hN oL oM (List.cons.inj hh).2
  obtain ⟨a1, a2⟩ := list_f hk oh.f
  obtain ⟨b1, b2⟩ := list_f gk og.f
  exact ⟨vh_ext (by omega) (by omega) (by rw [a2, b2]), u1, u2⟩
theorem tail_hd (l : Vf) (r : List UInt8) : ∃ d R, shwL true l ++ 41 :: r = d :: R ∧ sepB d := by
 cases l with
 | nil => exact ⟨41, r, rfl, .inr (.inl rfl)⟩
 | cons h L l => exact ⟨44, _, rfl, .inl rfl⟩
theorem shwL_hd (c : Bool) (h : VH) (L l : Vf) (o : OkH h L.len) : ∃ x R, shwL c (.cons h L l) = x :: R ∧ x ≠ 41 := by
 obtain ⟨x, w, e, hx, -⟩ := shw_hd o
 rw [shwL_cons, e]
 cases c
 ·exact ⟨x, _, rfl, hx⟩
 ·exact ⟨44, _, rfl, by decide⟩
theorem backL : ∀ N, BackL N
 | 0 => fun _ _ _ _ _ h => absurd h (Nat.not_lt_zero _)
 | N + 1 => fun c l m r q hN ol om hh => by
  match l, m, ol, om, hN, hh with
  | .nil, .nil, _, _, _, hh => exact ⟨rfl, (List.cons.inj hh).2⟩
  | .nil, .cons g M m, _, om, _, hh =>
   obtain ⟨x, R, e, hx⟩ := shwL_hd c g M m om.1.1
   rw [e] at hh
   exact absurd (List.cons.inj hh).1.symm hx
  | .cons h L l, .nil, ol, _, _, hh =>
   obtain ⟨x, R, e, hx⟩ := shwL_hd c h L l ol.1.1
   rw [e] at hh
   exact absurd (List.cons.inj hh).1 hx
  | .cons h L l, .cons g M m, ol, om, hN, hh =>
   have hN2 : (L.size + l.size + 1) + (M.size + m.size + 1) < N + 1 := hN
   rw [shwL_cons, shwL_cons, List.append_assoc, List.append_assoc, List.append_assoc, List.append_assoc] at hh
   have h1 := List.append_cancel_left hh
   obtain ⟨d, R, e1, hd⟩ := tail_hd l r
   obtain ⟨e, R2, e2, he⟩ := tail_hd m q
   rw [e1, e2] at h1
   obtain ⟨u1, u2, u3⟩ := backV_step (backL N) h L g M d e R R2 (by omega) ol.1.1 om.1.1 ol.1.2 om.1.2 hd he h1
   rw [← e1, ← e2] at u3
   obtain ⟨u4, u5⟩ := backL N true l m r q (by omega) ol.2 om.2 u3
   exact ⟨by rw [u1, u2, u4], u5⟩
theorem txt_inj : ∀ {l m : Vf} {t : List UInt8}, OkR l → OkR m → txtG l = some t → txtG m = some t → l = m
 | .nil, .nil, _, _, _, _, _ => rfl
 | .nil, .cons g M m, t, _, om, h1, h2 => by
  cases h1
  unfold txtG at h2
  split at h2
  ·obtain ⟨y, hy, e⟩ := Option.map_eq_some_iff.1 h2; simp at e
  ·cases h2
 | .cons g M m, .nil, t, _, om, h2, h1 => by
  cases h1
  unfold txtG at h2
  split at h2
  ·obtain ⟨y, hy, e⟩ := Option.map_eq_some_iff.1 h2; simp at e
  ·cases h2
 | .cons h L l, .cons g M m, t, ol, om, h1, h2 => by
  unfold txtG at h1 h2
  split at h1
  ·split at h2
   ·obtain ⟨y, hy, e⟩ := Option.map_eq_some_iff.1 h1
    obtain ⟨z, hz, e2⟩ := Option.map_eq_some_iff.1 h2
    rw [← e2] at e
    simp only [List.append_assoc, List.singleton_append] at e
    obtain ⟨u1, u2, u3⟩ := backV_step (backL (L.size + M.size + 1)) h L g M 59 59 y z (by omega) ol.1.1 om.1.1 ol.1.2 om.1.2 (.inr (.inr rfl)) (.inr (.inr rfl)) e
    have hyz := (List.cons.inj u3).2
    subst hyz
    rw [u1, u2, txt_inj ol.2 om.2 hy hz]
   ·cases h2
  ·cases h1
theorem okR_of : ∀ {l : Vf}, RgF l → formL l = true → fitsL l = true → OkR l
 | .nil, _, _, _ => trivial
 | .cons h L r, ⟨h1, h2, h3⟩, hf, hx => by
  rw [formL_cons, Bool.and_eq_true, Bool.and_eq_true] at hf
  rw [fitsL_cons, Bool.and_eq_true, Bool.and_eq_true] at hx
  refine ⟨⟨⟨hf.1.1, h1, fun hk => ?_⟩, okR_of h2 hf.1.2 hx.1.2⟩, okR_of h3 hf.2 hx.2⟩
  have f := hf.1.1
  have x := hx.1.1
  unfold formH at f
  unfold fitsH at x
  rw [if_neg (by omega), if_neg (by omega), if_pos hk, Bool.and_eq_true] at f
  rw [if_pos hk] at x
  exact num_check f.1 (of_decide_eq_true x)
theorem check_both {h : VH} {L : Vf} (e : checkV h L = 0) : (formH h L.len = true ∧ formL L = true) ∧ fitsH h L.len = true ∧ fitsL L = true := by
 refine ⟨check_form e, ?_⟩
 unfold checkV at e
 split at e
 ·cases e
 ·split at e
  ·cases e
  ·split at e
   ·cases e
   ·rename_i h3
    rw [Bool.not_eq_false, Bool.and_eq_true] at h3
    exact h3
theorem okR_txt : ∀ {l : Vf}, RgF l → (txtG l).isSome = true → OkR l
 | .nil, _, _ => trivial
 | .cons h L r, ⟨h1, h2, h3⟩, hs => by
  unfold txtG at hs
  by_cases hc : checkV h L = 0
  ·rw [if_pos hc] at hs
   have hs2 : (txtG r).isSome = true := by cases hr : txtG r with | none => rw [hr] at hs; cases hs | some _ => rfl
   obtain ⟨⟨a, b⟩, c, d⟩ := check_both hc
   have := okR_of (l := .cons h L .nil) ⟨h1, h2, trivial⟩ (by rw [formL_cons, a, b]; rfl) (by rw [fitsL_cons, c, d]; rfl)
   exact ⟨this.1, okR_txt h3 hs2⟩
  ·rw [if_neg hc] at hs; cases hs
theorem txt_one {l m : Vf} {t : List UInt8} (hl : RgF l) (hm : RgF m) (h1 : txtG l = some t) (h2 : txtG m = some t) : l = m :=
 txt_inj (okR_txt hl (by rw [h1]; rfl)) (okR_txt hm (by rw [h2]; rfl)) h1 h2
abbrev T3 := List UInt8 × List UInt8 × Vf
def tri (x : GA) : List T3 := x.flatMap fun p => p.2.ways.map fun w => (p.1, w.1, w.2)
theorem tri_app (x y : GA) : tri (x ++ y) = tri x ++ tri y := List.flatMap_append ..
theorem tri_cons (p : List UInt8 × En) (y : GA) : tri (p :: y) = (p.2.ways.map fun w => (p.1, w.1, w.2)) ++ tri y := List.flatMap_cons ..
theorem tri_mem {x : GA} {k w : List UInt8} {a : Vf} : (k, w, a) ∈ tri x ↔ ∃ e, (k, e) ∈ x ∧ (w, a) ∈ e.ways := by
 unfold tri
 rw [List.mem_flatMap]
 constructor
 ·rintro ⟨⟨k', e⟩, h1, h2⟩
  obtain ⟨⟨w', a'⟩, h3, h4⟩ := List.mem_map.1 h2
  cases h4
  exact ⟨e, h1, h3⟩
 ·rintro ⟨e, h1, h2⟩
  exact ⟨(k, e), h1, List.mem_map.2 ⟨(w, a), h2, rfl⟩⟩
theorem tri_al {aggs : List (List UInt8)} {x : GA} (hI : GInv aggs x) {k w : List UInt8} {a : Vf} (h : (k, w, a) ∈ tri x) : ∃ e, alG x k = some e ∧ (w, a) ∈ e.ways ∧ EInv aggs k e := by
 obtain ⟨e, h1, h2⟩ := tri_mem.1 h
 exact ⟨e, alG_key hI h1, h2, hI.all _ h1⟩
theorem al_tri {x : GA} {k : List UInt8} {e : En} (h : alG x k = some e) {w : List UInt8} {a : Vf} (hw : (w, a) ∈ e.ways) : (k, w, a) ∈ tri x := tri_mem.2 ⟨e, alG_mem h, hw⟩
theorem nodup_of_key {β γ : Type} {f : β → γ} {l : List β} (h : (l.map f).Nodup) : l.Nodup := by
 unfold List.Nodup at *
 rw [List.pairwise_map] at h
 exact h.imp fun h e => h (by rw [e])
theorem tri_nodup {aggs : List (List UInt8)} : ∀ {x : GA}, GInv aggs x → ((tri x).map fun t => (t.1, t.2.1)).Nodup
 | [], _ => List.nodup_nil
 | p :: r, h => by
  have hnd := h.nd
  rw [List.map_cons, List.nodup_cons] at hnd
  have hr : GInv aggs r := ⟨hnd.2, fun q hq => h.all q (List.mem_cons_of_mem _ hq)⟩
  rw [tri_cons, List.map_append, List.nodup_append]
  refine ⟨?_, tri_nodup hr, ?_⟩
  ·have h2 := (h.all p (List.mem_cons_self ..)).nd
   rw [List.map_map]
   unfold List.Nodup at *
   rw [List.pairwise_map] at h2 ⊢
   exact h2.imp fun h9 e => h9 (by have := congrArg Prod.snd e; exact this)
  ·intro a ha b hb e
   obtain ⟨t, ht, rfl⟩ := List.mem_map.1 ha
   obtain ⟨w, -, rfl⟩ := List.mem_map.1 ht
   obtain ⟨⟨k2, w2, a2⟩, ht2, rfl⟩ := List.mem_map.1 hb
   obtain ⟨e2, h3, -⟩ := tri_mem.1 ht2
   have h4 : p.1 = k2 := congrArg Prod.fst e
   exact hnd.1 (h4 ▸ List.mem_map_of_mem h3)
theorem tri_add {aggs : List (List UInt8)} {x : GA} {key way args : Vf} {k w : List UInt8} (h0 : addE aggs x key way args = 0) (hk : txtG key = some k) (hw : txtG way = some w) : (tri (gAdd aggs x key way args)).Perm ((k, w, args) :: tri x) := by
 unfold gAdd
 rw [if_pos h0, hk, hw, Option.getD_some, Option.getD_some]
 unfold addG
 cases hx : alG x k with
 | none =>
  dsimp only
  rw [tri_app, tri_cons]
  exact List.perm_append_comm
 | some e =>
  dsimp only
  obtain ⟨x1, x2, rfl, h1, h2, -⟩ := alG_split hx
  rw [h2, tri_app, tri_app, tri_cons, tri_cons]
  dsimp only
  rw [List.map_append, List.map_cons, List.map_nil]
  refine List.Perm.trans (List.Perm.append_left _ ?_) List.perm_middle
  rw [List.append_assoc]
  exact List.perm_middle
theorem alD_perm {β : Type} : ∀ {x : List (List UInt8 × β)} {k : List UInt8} {u : β}, alG x k = some u → x.Perm ((k, u) :: alD x k)
 | (a, v) :: r, k, u, h => by
  unfold alG at h
  unfold alD
  by_cases hk : k = a
  ·rw [if_pos hk] at h ⊢
   cases h; subst hk
   exact List.Perm.refl _
  ·rw [if_neg hk] at h ⊢
   exact (List.Perm.cons _ (alD_perm h)).trans (List.Perm.swap ..)
theorem tri_del {x : GA} {key way a : Vf} {k w : List UInt8} {e : En} (hk : txtG key = some k) (hw : txtG way = some w) (he : alG x k = some e) (ha : alG e.ways w = some a) : delE x key way = 0 ∧ (tri x).Perm ((k, w, a) :: tri (gDel x key way)) := by
 have hws : waysE x k = e.ways := by unfold waysE; rw [he]
 have hE : delE x key way = 0 := by unfold delE; rw [hk, hw]; dsimp only; rw [hws, ha]; rfl
 refine ⟨hE, ?_⟩
 unfold gDel
 rw [if_pos hE, hk, hw, Option.getD_some, Option.getD_some]
 unfold delG
 rw [hws]
 obtain ⟨x1, x2, rfl, h1, h2, h3⟩ := alG_split he
 have hp := (alD_perm ha).map fun q => (k, q.1, q.2)
 rw [List.map_cons] at hp
 split
 ·rename_i h4
  rw [h4, List.map_nil] at hp
  rw [h3, tri_app, tri_app, tri_cons]
  refine List.Perm.trans (List.Perm.append_left _ (List.Perm.append_right _ hp)) ?_
  exact List.perm_middle
 ·rw [h2, tri_app, tri_app, tri_cons, tri_cons]
  dsimp only
  refine List.Perm.trans (List.Perm.append_left _ (List.Perm.append_right _ hp)) ?_
  exact List.perm_middle
theorem add_any {aggs : List (List UInt8)} {A B : GA} {rest : List T3} (hA : GInv aggs A) (hB : GInv aggs B) {key way args : Vf} {k w : List UInt8} (hk : txtG key = some k) (hw : txtG way = some w) (hp : (tri B ++ (k, w, args) :: rest).Perm (tri A)) : addE aggs B key way args = 0 := by
 have hin : (k, w, args) ∈ tri A := hp.mem_iff.1 (List.mem_append_right _ (List.mem_cons_self ..))
 obtain ⟨e, he, hwe, hE⟩ := tri_al hA hin
 have hlen := hE.len _ hwe
 obtain ⟨q, hq⟩ := Option.isSome_iff_exists.1 (hE.may _ hwe)
 have hsub : ∀ t, t ∈ tri B → t ∈ tri A := fun t ht => hp.mem_iff.1 (List.mem_append_left _ ht)
 have hnd := (hp.map fun t => (t.1, t.2.1)).nodup_iff.2 (tri_nodup hA)
 rw [List.map_append, List.nodup_append] at hnd
 have hway : (alG (waysE B k) w).isSome = false := by
  cases hb : alG (waysE B k) w with
  | none => rfl
  | some a =>
   exfalso
   unfold waysE at hb
   cases hx : alG B k with
   | none => rw [hx] at hb; cases hb
   | some e2 =>
    rw [hx] at hb
    have h1 := al_tri hx (alG_mem hb)
    exact hnd.2.2 (k, w) (List.mem_map.2 ⟨_, h1, rfl⟩) (k, w) (List.mem_cons_self ..) rfl
 have hty : typeB aggs args (waysE B k) = false := by
  unfold typeB
  rw [List.any_eq_false]
  intro i hi
  rw [List.mem_range] at hi
  unfold tyBad
  by_cases hs : aggs.getD i [] = sSum
  ·rw [decide_eq_true hs, Bool.true_and]
   have hn := hE.num _ hwe i hi hs
   rw [decide_eq_false (by show ¬ (kAt args i ≠ 2 ∧ kAt args i ≠ 3); dsimp only at hn; omega), Bool.false_or]
   unfold waysE
   cases hx : alG B k with
   | none => simp
   | some e2 =>
    cases hz : e2.ways with
    | nil => simp [hz]
    | cons w0 r =>
     have h1 := hsub _ (al_tri hx (w := w0.1) (a := w0.2) (by rw [hz]; exact List.mem_cons_self ..))
     obtain ⟨e3, he3, hw3, -⟩ := tri_al hA h1
     rw [he] at he3; cases he3
     have := hE.kind _ hw3 _ hwe i hs
     dsimp only at this
     simp [hz, this]
  ·rw [decide_eq_false hs]; simp
 unfold addE
 rw [hk, hw, hq]
 dsimp only
 rw [if_neg (by dsimp only at hlen; omega), if_neg (by rw [hway]; decide), if_neg (by rw [hty]; decide)]
theorem alG_of_mem {β : Type} : ∀ {x : List (List UInt8 × β)}, (x.map (·.1)).Nodup → ∀ {k : List UInt8} {u : β}, (k, u) ∈ x → alG x k = some u
 | [], _, _, _, h => by cases h
 | (a, v) :: r, hn, k, u, h => by
  rw [List.map_cons, List.nodup_cons] at hn
  unfold alG
  rcases List.mem_cons.1 h with h | h
  ·cases h; rw [if_pos rfl]
  ·have hm : k ∈ r.map (·.1) := List.mem_map_of_mem (f := (·.1)) h
   rw [if_neg (fun e => hn.1 (by rw [← e]; exact hm))]
   exact alG_of_mem hn.2 h
theorem del_any {aggs : List (List UInt8)} {B : GA} (hB : GInv aggs B) {key way args : Vf} {k w : List UInt8} {R : List T3} (hk : txtG key = some k) (hw : txtG way = some w) (hp : (tri B).Perm ((k, w, args) :: R)) : delE B key way = 0 ∧ (tri (gDel B key way)).Perm R := by
 obtain ⟨e, he, hwe, hE⟩ := tri_al hB (hp.mem_iff.2 (List.mem_cons_self ..))
 obtain ⟨h1, h2⟩ := tri_del hk hw he (alG_of_mem hE.nd hwe)
 exact ⟨h1, ((h2.symm.trans hp).cons_inv)⟩
theorem tri_keys {aggs : List (List UInt8)} {A B : GA} (hA : GInv aggs A) (hB : GInv aggs B) (hp : (tri A).Perm (tri B)) {k : List UInt8} {e : En} (he : (k, e) ∈ A) : ∃ e2, (k, e2) ∈ B ∧ e2.key = e.key ∧ e.ways.Perm e2.ways := by
 have hE := hA.all _ he
 obtain ⟨w0, r, hw0⟩ := List.exists_cons_of_ne_nil hE.ne
 have h1 : (k, w0.1, w0.2) ∈ tri A := tri_mem.2 ⟨e, he, by rw [hw0]; exact List.mem_cons_self ..⟩
 obtain ⟨e2, h2, -⟩ := tri_mem.1 (hp.mem_iff.1 h1)
 have hE2 := hB.all _ h2
 refine ⟨e2, h2, txt_one hE2.krow.rg hE.krow.rg hE2.key hE.key, ?_⟩
 rw [List.perm_ext_iff_of_nodup (nodup_of_key hE.nd) (nodup_of_key hE2.nd)]
 rintro ⟨w, a⟩
 constructor
 ·intro h
  obtain ⟨e3, h3, h4, -⟩ := tri_al hB (hp.mem_iff.1 (tri_mem.2 ⟨e, he, h⟩))
  have := alG_key hB h2
  dsimp only at this
  rw [this] at h3; cases h3
  exact h4
 ·intro h
  obtain ⟨e3, h3, h4, -⟩ := tri_al hA (hp.mem_iff.2 (tri_mem.2 ⟨e2, h2, h⟩))
  have := alG_key hA he
  dsimp only at this
  rw [this] at h3; cases h3
  exact h4
theorem keys_perm {aggs : List (List UInt8)} {A B : GA} (hA : GInv aggs A) (hB : GInv aggs B) (hp : (tri A).Perm (tri B)) : (A.map (·.2.key)).Perm (B.map (·.2.key)) := by
 rw [List.perm_ext_iff_of_nodup (keys_nodup hA) (keys_nodup hB)]
 intro r
 constructor
 ·intro h
  obtain ⟨⟨k, e⟩, h1, rfl⟩ := List.mem_map.1 h
  obtain ⟨e2, h2, h3, -⟩ := tri_keys hA hB hp h1
  exact List.mem_map.2 ⟨_, h2, h3⟩
 ·intro h
  obtain ⟨⟨k, e⟩, h1, rfl⟩ := List.mem_map.1 h
  obtain ⟨e2, h2, h3, -⟩ := tri_keys hB hA hp.symm h1
  exact List.mem_map.2 ⟨_, h2, h3⟩
theorem rowA_perm {aggs : List (List UInt8)} {k : List UInt8} {e : En} (hE : EInv aggs k e) {ws : List (List UInt8 × Vf)} (hp : e.ways.Perm ws) {i : Nat} (hi : i < aggs.length) : rowA aggs e.ways i = rowA aggs ws i := by
 unfold rowA
 exact aggO_perm (col_ne hE i) (hp.map _) (col_may hE hi) (fun hs => col_kind hE hi hs)
theorem find_congr {p q : Nat → Bool} : ∀ {l : List Nat}, (∀ i ∈ l, p i = q i) → l.find? p = l.find? q
 | [], _ => rfl
 | i :: r, h => by rw [List.find?_cons, List.find?_cons, h i (List.mem_cons_self ..), find_congr fun j hj => h j (List.mem_cons_of_mem _ hj)]
theorem rowD_perm {aggs : List (List UInt8)} {k : List UInt8} {e : En} (hE : EInv aggs k e) {ws : List (List UInt8 × Vf)} (hp : e.ways.Perm ws) : rowD aggs e.ways = rowD aggs ws := by
 have h1 : ∀ i ∈ List.range aggs.length, rowA aggs e.ways i = rowA aggs ws i := fun i hi => rowA_perm hE hp (List.mem_range.1 hi)
 unfold rowD
 rw [find_congr (q := fun i => decide ((rowA aggs ws i).1 ≠ 0)) (fun i hi => by rw [h1 i hi])]
 split
 ·rename_i i hi
  rw [h1 i (List.mem_of_find?_eq_some hi)]
 ·rw [List.map_congr_left (fun i hi => by rw [h1 i hi])]
theorem rowK_perm {aggs : List (List UInt8)} {A B : GA} (hA : GInv aggs A) (hB : GInv aggs B) (hp : (tri A).Perm (tri B)) : rowK aggs A = rowK aggs B := by
 funext key
 unfold rowK
 cases hk : txtG key with
 | none => rfl
 | some t =>
  dsimp only
  cases ha : alG A t with
  | none =>
   cases hb : alG B t with
   | none => rfl
   | some e =>
    obtain ⟨e2, h2, -⟩ := tri_keys hB hA hp.symm (alG_mem hb)
    have := alG_key hA h2
    dsimp only at this
    rw [ha] at this; cases this
  | some e =>
   obtain ⟨e2, h2, -, h3⟩ := tri_keys hA hB hp (alG_mem ha)
   have := alG_key hB h2
   dsimp only at this
   rw [this]
   dsimp only
   exact rowD_perm (hA.all _ (alG_mem ha)) h3
theorem sort_same {aggs : List (List UInt8)} {A B : GA} (hA : GInv aggs A) (hB : GInv aggs B) (hp : (tri A).Perm (tri B)) {Y Z : List Vf} (hY : Y.Perm (A.map (·.2.key))) (hZ : Z.Perm (B.map (·.2.key))) (sY : Y.Pairwise (fun x y => 0 ≤ cmpL y x)) (sZ : Z.Pairwise (fun x y => 0 ≤ cmpL y x)) : Y = Z := by
 have hYZ : Y.Perm Z := hY.trans ((keys_perm hA hB hp).trans hZ.symm)
 have hg : ∀ r ∈ Y, formL r = true := fun r hr => by
  obtain ⟨p, hp, rfl⟩ := List.mem_map.1 (hY.mem_iff.1 hr)
  exact (txt_good (by rw [(hA.all p hp).key]; rfl)).2
 clear hY hZ
 induction Y generalizing Z with
 | nil => exact (List.Perm.nil_eq hYZ)
 | cons y Y ih =>
  cases Z with
  | nil => exact absurd hYZ.symm.nil_eq (by simp)
  | cons z Z =>
   have h1 : y = z := by
    rcases List.mem_cons.1 (hYZ.mem_iff.1 (List.mem_cons_self ..)) with h | h
    ·exact h
    ·rcases List.mem_cons.1 (hYZ.mem_iff.2 (List.mem_cons_self ..)) with h2 | h2
     ·exact h2.symm
     ·have h3 := (List.pairwise_cons.1 sY).1 z h2
      have h4 := (List.pairwise_cons.1 sZ).1 y h
      have h5 := cmpL_anti z y
      exact (cmpL_zero (hg z (List.mem_cons_of_mem _ h2)) (hg y (List.mem_cons_self ..)) (by omega)).symm
   subst h1
   rw [ih (List.pairwise_cons.1 sY).2 (List.pairwise_cons.1 sZ).2 hYZ.cons_inv fun r hr => hg r (List.mem_cons_of_mem _ hr)]
theorem tri_len {aggs : List (List UInt8)} : ∀ {x : GA}, GInv aggs x → x.length ≤ (tri x).length ∧ ∀ p ∈ x, p.2.ways.length ≤ (tri x).length
 | [], _ => ⟨Nat.le_refl _, fun p h => by cases h⟩
 | p :: r, h => by
  have hnd := h.nd
  rw [List.map_cons, List.nodup_cons] at hnd
  have hr := tri_len (x := r) ⟨hnd.2, fun q hq => h.all q (List.mem_cons_of_mem _ hq)⟩
  have h1 := List.length_pos_iff.2 (h.all p (List.mem_cons_self ..)).ne
  rw [tri_cons, List.length_append, List.length_map]
  refine ⟨by rw [List.length_cons]; omega, fun q hq => ?_⟩
  rcases List.mem_cons.1 hq with rfl | hq
  ·omega
  ·have := hr.2 q hq; omega
end Go.Proofs.YtbhipiepfclneaaGreatDoor
