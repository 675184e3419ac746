/- Walks. -/
import Derived.Test.YtbhipiepfclneaaGreatDoorQ14
import Derived.WalkSpells
set_option maxHeartbeats 8000000
set_option maxRecDepth 20000
set_option linter.unusedVariables false
set_option linter.unusedSimpArgs false
namespace Go.Proofs.YtbhipiepfclneaaGreatDoor
open Go Go.Wk Go.Un Go.De Go.Num
attribute [local irreducible] Go.wpList Go.Code.wp Go.wpStill Go.Wk.q26 Go.bodyPost Go.Calls Go.Wk.Ct Go.Wk.q0u Go.Wk.wpG Go.Wk.wpM
theorem q17 {P : Program} {ops : Array Oper} {Q : Exit → Act → World → Prop} {n : Sz} {L : List (Nat × Value)} {w0 : World} {F0 : q01} {K0 : List Nat} {F : q01} {G : List Grp} {a : Act} {w : World} {rest : List Oper} {o : Oper} {d : Nat} {x : Operand} {xs : Array Operand} {ts : Array TypeId} {f : FuncId} {fi ca vs args : List Value} {Post : List Grp → Value → Prop} [hf : q0b P f] (S : St n L w0 F0 K0 F G a w) (hg : o.guard = none) (hd : o.dst = some d) (hn : Nat.blt d n.sz = true)
  (ho : o.op = .call { callee := .value x, args := xs, argTypes := ts }) (hx : ev L x = some (.func (.func f) ⟨fi⟩ ⟨ca⟩)) (hxs : evs L xs.toList = some vs) (C : Ct P f args F [] (fun _ G' u => Post G' u)) (ha : fi ++ vs ++ ca = args)
  (k : ∀ v G' a' w', Post G' v → St n ((d, v) :: L) w0 F0 K0 F (G' ++ G) a' w' → wpList P ops Q rest a' w') : wpList P ops Q (o :: rest) a w :=
 q02 (Gs := []) (Gr := G) S hg hd hn ho hx hxs C ha (by simp) k
def SpV (H : q01) : Nat → Value → Prop
 | 0, v => ∃ ao cap, v = .slice ao 0 cap
 | d + 1, v => ∃ ao n cap, v = .slice ao n cap ∧ n ≤ 140737488355328 ∧ (0 < n → ∃ b c e, ao = some ⟨b, 0, none⟩ ∧ H b = some (.cells ⟨c⟩ e (0, 0)) ∧ n * 4 ≤ c.length ∧ ∀ i, i < n → ∃ w, c[i * 4 + 3]? = some w ∧ SpV H d w)
theorem SpV.mono {H H' : q01} (hH : ∀ b o, H b = some o → H' b = some o) : ∀ {d : Nat} {v : Value}, SpV H d v → SpV H' d v
 | 0, v, h => h
 | d + 1, v, ⟨ao, n, cap, h1, h2, h3⟩ => ⟨ao, n, cap, h1, h2, fun hn => by
   obtain ⟨b, c, e, h4, h5, h6, h7⟩ := h3 hn
   exact ⟨b, c, e, h4, hH _ _ h5, h6, fun i hi => by obtain ⟨w, h8, h9⟩ := h7 i hi; exact ⟨w, h8, SpV.mono hH h9⟩⟩⟩
theorem SpV.zero (H : q01) (ao : Option Addr) (cap : Nat) : ∀ d, SpV H d (.slice ao 0 cap)
 | 0 => ⟨ao, cap, rfl⟩
 | d + 1 => ⟨ao, 0, cap, rfl, Nat.zero_le _, fun h => absurd h (Nat.lt_irrefl _)⟩
theorem SpV.up {H : q01} : ∀ {d d' : Nat} {v : Value}, d ≤ d' → SpV H d v → SpV H d' v
 | 0, d', v, _, ⟨ao, cap, h⟩ => by rw [h]; exact SpV.zero H ao cap d'
 | d + 1, 0, v, h, _ => absurd h (Nat.not_succ_le_zero _)
 | d + 1, d' + 1, v, h, ⟨ao, n, cap, h1, h2, h3⟩ => ⟨ao, n, cap, h1, h2, fun hn => by
   obtain ⟨b, c, e, h4, h5, h6, h7⟩ := h3 hn
   exact ⟨b, c, e, h4, h5, h6, fun i hi => by obtain ⟨w, h8, h9⟩ := h7 i hi; exact ⟨w, h8, SpV.up (Nat.le_of_succ_le_succ h) h9⟩⟩⟩
abbrev qpw : List Value := [.int .u8 9, .int .i64 0, .string (bs [115, 112, 111, 105, 108, 116]), .slice none 0 0]
theorem qyn {c : List Value} {i j : Nat} (hi : i * 4 + 4 ≤ c.length) {w : Value} (h : c[j * 4 + 3]? = some w) : (c.take (i * 4) ++ qpw ++ c.drop (i * 4 + 4))[j * 4 + 3]? = some (if j = i then .slice none 0 0 else w) := by
 have hjl := (List.getElem?_eq_some_iff.1 h).1
 have ht : (c.take (i * 4)).length = i * 4 := by rw [qaI]; omega
 rcases Nat.lt_trichotomy j i with hj | hj | hj
 ·rw [if_neg (by omega), qaB, List.getElem?_append_left (by omega), List.getElem?_take_of_lt (by omega)]; exact h
 ·subst hj
  rw [if_pos rfl, qaB, List.getElem?_append_right (by omega), ht, show j * 4 + 3 - j * 4 = 3 by omega]; rfl
 ·rw [if_neg (by omega), List.getElem?_append_right (by rw [qaA, ht]; show i * 4 + 4 ≤ _; omega), qaA, ht, List.getElem?_drop]
  show c[i * 4 + 4 + (j * 4 + 3 - (i * 4 + 4))]? = _
  rw [show i * 4 + 4 + (j * 4 + 3 - (i * 4 + 4)) = j * 4 + 3 by omega]; exact h
theorem u25 {c : List Value} {i : Nat} (hi : i * 4 + 4 ≤ c.length) : (c.take (i * 4) ++ qpw ++ c.drop (i * 4 + 4)).length = c.length := by
 rw [qaA, qaA, qaI, qaJ]
 show min (i * 4) c.length + 4 + (c.length - (i * 4 + 4)) = c.length
 omega
theorem SpV.put {H H' : q01} {b i : Nat} {c : List Value} {e : TypeId} (hb : H b = some (.cells ⟨c⟩ e (0, 0))) (hi : i * 4 + 4 ≤ c.length) (hb' : H' b = some (.cells ⟨c.take (i * 4) ++ qpw ++ c.drop (i * 4 + 4)⟩ e (0, 0))) (ho : ∀ b' o, b' ≠ b → H b' = some o → H' b' = some o) : ∀ {d : Nat} {v : Value}, SpV H d v → SpV H' d v
 | 0, v, h => h
 | d + 1, v, ⟨ao, n, cap, h1, h2, h3⟩ => ⟨ao, n, cap, h1, h2, fun hn => by
   obtain ⟨b2, c2, e2, h4, h5, h6, h7⟩ := h3 hn
   by_cases hbb : b2 = b
   ·subst hbb
    rw [hb] at h5
    cases h5
    refine ⟨b2, _, e, h4, hb', by rw [u25 hi]; exact h6, fun j hj => ?_⟩
    obtain ⟨w, h8, h9⟩ := h7 j hj
    refine ⟨_, qyn hi h8, ?_⟩
    split
    ·exact SpV.zero _ _ _ _
    ·exact SpV.put hb hi hb' ho h9
   ·exact ⟨b2, c2, e2, h4, ho _ _ hbb h5, h6, fun j hj => by obtain ⟨w, h8, h9⟩ := h7 j hj; exact ⟨w, h8, SpV.put hb hi hb' ho h9⟩⟩⟩
structure OwS (g : Grp) (v : Value) (l : Vf) : Prop where
  r : OwR g v l
  s : ∃ d, SpV (gh g) d v
def RoS (H : q01) (x : Vv) (cs : List Value) : Prop := RoR 4 VhR H x cs ∧ ∃ w d, cs[3]? = some w ∧ SpV H d w
instance : Mon RoS := ⟨fun hF ⟨h1, w, d, h2, h3⟩ => ⟨Mon.h hF h1, w, d, h2, h3.mono hF⟩⟩
theorem RoS.mk4 {H : q01} {x : Vv} {w : Value} (h1 : x.1.s.length ≤ 140737488355328) (h : TrS H 4 VhR w x.2) (hs : ∃ d, SpV H d w) : RoS H x [.int .u8 (x.1.k : Int), .int .i64 x.1.n, .string (bs x.1.s), w] := by
 obtain ⟨d, hd⟩ := hs
 exact ⟨⟨[.int .u8 (x.1.k : Int), .int .i64 x.1.n, .string (bs x.1.s)], w, rfl, rfl, ⟨rfl, h1⟩, h⟩, w, d, rfl, hd⟩
theorem LiC.imp {α : Type} {F : q01} {sz : Nat} {R R' : q01 → α → List Value → Prop} (h : ∀ x cs, R F x cs → R' F x cs) : ∀ {l : List α} {xs : List Value}, LiC F sz R xs l → LiC F sz R' xs l
 | [], _, h9 => h9
 | x :: l, xs, ⟨cs, r, h1, h2, h3, h4⟩ => ⟨cs, r, h1, h2, h _ _ h3, LiC.imp h h4⟩
theorem qw0 {H : q01} : ∀ {l : List Vv} {xs : List Value}, LiC H 4 RoS xs l → ∃ d, ∀ j, j < l.length → ∃ w, xs[j * 4 + 3]? = some w ∧ SpV H d w
 | [], _, _ => ⟨0, fun j hj => absurd hj (Nat.not_lt_zero _)⟩
 | x :: l, xs, ⟨cs, r, h1, h2, ⟨_, w, d, h3, h4⟩, h5⟩ => by
  subst h1
  obtain ⟨d2, hr⟩ := qw0 h5
  refine ⟨max d d2, fun j hj => ?_⟩
  cases j with
  | zero => exact ⟨w, by rw [List.getElem?_append_left (by omega)]; exact h3, h4.up (Nat.le_max_left ..)⟩
  | succ j =>
   obtain ⟨w2, h6, h7⟩ := hr j (by simpa using hj)
   refine ⟨w2, ?_, h7.up (Nat.le_max_right ..)⟩
   rw [List.getElem?_append_right (by omega), h2, show (j + 1) * 4 + 3 - 4 = j * 4 + 3 by omega]; exact h6
theorem u3g {T : TypeId} {H : q01} {v : Value} {n d : Nat} {xs : List Value} {g : Grp} (h : q0u T 4 v n xs g) (hg : ∀ p ∈ g, H p.1 = some p.2) (hn : n ≤ 140737488355328) (hs : ∀ j, j < n → ∃ w, xs[j * 4 + 3]? = some w ∧ SpV H d w) : SpV H (d + 1) v := by
 have hU := h
 unfold q0u at hU
 rcases hU.2 with ⟨rfl, rfl, rfl⟩ | ⟨b, cap, cur, rfl, rfl, h1, h2, h3, h4⟩
 ·exact SpV.zero _ _ _ _
 ·have h5 := congrArg List.length h4
  rw [qaI, hU.1] at h5
  refine ⟨_, n, cap, rfl, hn, fun _ => ⟨b, cur.toList, T, rfl, hg _ (List.mem_singleton.2 rfl), by omega, fun j hj => ?_⟩⟩
  obtain ⟨w, h6, h7⟩ := hs j hj
  refine ⟨w, ?_, h7⟩
  rw [← h4, List.getElem?_take_of_lt (by omega)] at h6
  exact h6
theorem qpf {g : Grp} (hn : (g.map (·.1)).Nodup) {p : Nat × Obj} (hp : p ∈ g) : gh g p.1 = some p.2 := q01.add_new hp hn
theorem qo6 {T : TypeId} {v : Value} {l : Vf} {xs : List Value} {g gd : Grp} (hown : q0u T 4 v l.len xs g) (hx : LiC (gh gd) 4 RoS xs (kids l)) (hn : ((g ++ gd).map (·.1)).Nodup) (hl : l.len ≤ 140737488355328) : OwS (g ++ gd) v l := by
 obtain ⟨d, hs⟩ := qw0 (hx.mono fun b o h => q4u hn h)
 refine ⟨?_, d + 1, u3g hown (fun p hp => qpf hn (List.mem_append_left _ hp)) hl (by rw [q2w] at hs; exact hs)⟩
 unfold OwR
 rw [q7d]
 exact qcq (LiC.lim hown (LiC.imp (fun _ _ h => h.1) hx) (q2w l).symm (fun b o h => by rw [← q7d]; exact q4u hn h) (by omega))
def q13 : Vf → Option (List UInt8)
 | .nil => some []
 | .cons h L r => if q2e h L = 0 then (q13 r).map fun t => (q6h h L ++ [59]) ++ t else none
def tvV (o : Option (List UInt8)) : Value := .tuple ⟨[.string (bs (o.getD [])), .bool o.isSome]⟩
theorem qwb (o : Option (List UInt8)) (a b : List UInt8) : (o.map fun t => b ++ t).map (fun t => a ++ t) = o.map fun t => (a ++ b) ++ t := by cases o <;> simp
theorem qrh {l : Vf} {k : Nat} {x : VH × Vf} {s : List UInt8} (hx : l.get? k = some x) (he : q13 l = (q13 (l.drop k)).map fun t => s ++ t) (h : q2e x.1 x.2 = 0) : q13 l = (q13 (l.drop (k + 1))).map fun t => (s ++ (q6h x.1 x.2 ++ [59])) ++ t := by
 rw [he, q1d.drop_get hx, q13, if_pos h, qwb]
theorem qrd {l : Vf} {k : Nat} {x : VH × Vf} {s : List UInt8} (hx : l.get? k = some x) (he : q13 l = (q13 (l.drop k)).map fun t => s ++ t) (h : ¬ q2e x.1 x.2 = 0) : q13 l = none := by
 rw [he, q1d.drop_get hx, q13, if_neg h]; rfl
theorem u3s {p : Prop} (h : p := by (unfold tvV; first | (rw [qrd hx heq (by omega)]; rfl) | (rw [heq, q1d.drop_len (by omega)]; simp [q13]; done))) : p := h
theorem q2n (F : q01) (hT : q50 F) (v : Value) (L : Vf) (hV : TrS F 4 VhR v L) (hR : RgF L) (hk : wtB L ≤ 100000000) : Ct Tryz.prog 34 [v] F [] (fun _ _ u => u = tvV (q13 L)) := by
 obtain ⟨ao, cap, rfl, hcap, hpos⟩ := hV
 refine Ct.enter Tryz.func34 rfl Tryz.ntmps34 rfl fun w0 a S => ?_
 revert a; refine go 17 ?_; intro Z hZ a S
 refine q04 (fun m a w' => ∃ (k : Nat) (s : List UInt8), m = L.len - k ∧ k ≤ L.len ∧ (q13 L = (q13 (L.drop k)).map fun t => s ++ t) ∧ s.length + wtB (L.drop k) ≤ wtB L ∧ St 23 [(4, .string (bs s)), (7, .slice ao L.len cap), (8, .int .i64 L.len), (9, .int .i64 k)] w0 F [] F [] a w') ?_ ?_
 ·(refine ⟨L.len, 0, [], by omega, Nat.zero_le _, by (show q13 L = (q13 L).map fun t => t; rw [Option.map_id']), by (show 0 + wtB L ≤ _; omega), ?_⟩; refine S.keep ?_; exact zk)
 (clear S; rintro m a w ⟨k, s, rfl, hkl, heq, hlen, S⟩)
 revert a; refine go 5 ?_; intro Z hZ a S
 refine q00 S rfl ?_ ?_ <;> intro h
 ·revert a; revert Z; refine go 4 ?_; intro Z hZ a S
  (refine wp_seq_k ?_; intro Z hZ)
  (obtain ⟨b8, o8, hao, x, cs1, v1, hx, hc1, hw9, hT1⟩ := TrM.pos hpos (k := k) (by omega); rw [hao] at S; have hwd := qjs hx; have hsl := qd3 (hR.get hx).1 (hR.get hx).2; have hT1c := hT1; obtain ⟨a91, c91, rfl, -⟩ := hT1c; have hw9c := hw9.1; subst hw9c; (simp only [List.cons_append, qaG] at hc1); have hV1 : VaC F [.int .u8 (x.1.k : Int), .int .i64 x.1.n, .string (bs x.1.s), .slice a91 x.2.len c91] x.1 x.2 := ⟨_, rfl, hT1, hw9.2⟩; have hck := qcd F x.1 x.2 _ hV1; have hsh := u1e F hT x.1 x.2 _ hV1 (hR.get hx).1 (hR.get hx).2 (by omega))
  revert a; refine go 3 ?_; intro a S
  (refine q0a S rfl rfl rfl rfl ?_; clear S a; intro b6 a w S)
  (refine wso S rfl rfl ?_; clear S; intro w S)
  revert a; revert Z; refine go 5 ?_; intro Z hZ Z hZ a S
  (refine wc0 S (hck) ?_; clear S a; intro v a w hv S; subst hv)
  revert a; revert Z; refine go 3 ?_; intro a S
  refine q00 S rfl ?_ ?_ <;> intro h
  ·revert a; refine go 5 ?_; intro a S
   refine wp_ret (fr2 S Tryz.results34 ?_)
   exact u3s
  revert a; revert Z; refine go 5 ?_; intro a S
  (refine wc0 S hsh ?_; clear S a; intro v9 a w hv S; subst hv; rw [show qtn x.1 x.2 = q6h x.1 x.2 from if_pos (by omega)] at S)
  iterate 2 (refine wv S (qbm S rfl rfl rfl (by first | omega | (simp only [qaA, qaC, qaD]; omega))) ?_; clear S a; intro a S)
  revert a; revert Z; refine go 7 ?_; intro a S
  change ∃ m', _ ∧ _
  (rw [← hao] at S; replace S := S.drop1; refine ⟨L.len - (k + 1), by omega, k + 1, s ++ (q6h x.1 x.2 ++ [59]), rfl, by omega, qrh hx heq (by omega), ?_, ?_⟩; rotate_left 1; (refine S.keep ?_; exact zk); (simp only [qaA, qaC, qaD]; omega))
 (refine wp_exit ?_; conv => whnf)
 clear hZ Z
 revert a; revert Z; refine go 7 ?_; intro a S
 refine wp_ret (fr2 S Tryz.results34 ?_)
 exact u3s
theorem qzw {p : Prop} (h : p := by (first | (rw [List.take_of_length_le (by rw [hkl]; omega)] at hla; have hxb : xb = [] := (by rw [List.drop_of_length_le (by rw [hkl]; omega)] at hlb; exact hlb); subst hxb; rw [qaE] at hown; exact ⟨_, rfl, qo6 hown hla hnd2 (by omega)⟩) | (obtain rfl := q9c (L := L) (by omega); exact ⟨[], rfl, TrS.nil _ _ _, 0, SpV.zero _ _ _ _⟩))) : p := h
theorem qn0 : ∀ (n : Nat) (F : q01) (L : Vf) (v : Value), L.size ≤ n → L.len * 56 ≤ 140737488355328 → ThV L → TrS F 4 VhR v L → Ct Tryz.prog 35 [v] F [] (fun _ G' u => ∃ g, G' = [g] ∧ OwS g u L) := by
 intro n
 induction n using Nat.strongRecOn with
 | _ n ih =>
 intro F L v hn hb hth hT0
 have hK0 := qjc hT0
 obtain ⟨ao, cap, rfl, hcap, -⟩ := hT0
 have hkl : (kids L).length = L.len := q2w L
 refine Ct.enter Tryz.func35 rfl Tryz.ntmps35 rfl fun w0 a S => ?_
 revert a; refine go 11 ?_; intro Z hZ a S
 refine q00 S rfl ?_ ?_ <;> intro h
 ·revert a; refine go 4 ?_; intro a S
  refine wp_ret ?_
  (first | (have hnd2 := nd2 S; replace S := qc6 S) | (replace S := S.nilg))
  refine q08 S (q0c Tryz.results35 (RV.tmp S rfl)) ?_
  exact qzw
 revert a; revert Z; refine go 4 ?_; intro Z hZ a S
 (refine q2p (Gs := []) (Gr := []) S rfl rfl rfl rfl rfl rfl (qjj F _ _ hK0 (by rw [hkl]; exact hb)) rfl (by exact List.Perm.refl _) ?_; clear S a; intro vT F4 G9 a w hv hF4 S; obtain ⟨gT, xT, rfl, hown, hxT⟩ := hv; rw [hkl] at hown; (simp only [qaE] at S))
 revert a; revert Z; refine go 4 ?_; intro Z hZ a S
 (refine wp_seq_k ?_; intro Z hZ)
 (replace S : St _ _ _ _ _ F [gT] _ _ := ⟨S.fr, S.tr.shrink hF4 (fun _ _ h => h)⟩; have vTat := hown.at; obtain ⟨aT0, cT0, rfl, -, -, -⟩ := vTat)
 revert a; revert Z; refine go 7 ?_; intro a S
 refine q04 (fun m a w' => ∃ (i : Nat) (v : Value) (g gd : Grp) (xa xb : List Value), m = L.len - i ∧ i ≤ L.len ∧ q0u 45 4 v L.len (xa ++ xb) g ∧ xa.length = i * 4 ∧ LiC (gh gd) 4 RoS xa ((kids L).take i) ∧ LiC F 4 (RoR 4 VhR) xb ((kids L).drop i) ∧ St 26 [(0, v), (10, .int .i64 L.len), (11, .int .i64 i)] w0 F [] F [g, gd] a w') ?_ ?_
 ·(refine ⟨L.len, 0, _, gT, [], [], xT, by omega, Nat.zero_le _, hown, rfl, rfl, hxT, ?_⟩; replace S := qaq S.nilg; refine S.keep ?_; exact zk)
 (clear S hown hxT; rintro m a w ⟨i, v, g, gd, xa, xb, rfl, hil, hown, hxal, hla, hlb, S⟩)
 revert a; refine go 5 ?_; intro Z hZ a S
 refine q00 S rfl ?_ ?_ <;> intro h
 ·revert a; revert Z; refine go 9 ?_; intro Z hZ a S
  (obtain ⟨bT, capT, exT, rfl, rfl, hcq, hcm, hxl, hxe⟩ := qad hown (by omega); obtain ⟨x, hx⟩ : ∃ x, (kids L)[i]? = some x := ⟨_, List.getElem?_eq_getElem (by omega)⟩; have hdk : (kids L).drop i = x :: (kids L).drop (i + 1) := (by obtain ⟨h1, h2⟩ := List.getElem?_eq_some_iff.1 hx; rw [← h2]; exact List.drop_eq_getElem_cons h1); rw [hdk] at hlb; obtain ⟨cs1, xb, rfl, hl1, hR1, hlb⟩ := hlb; obtain ⟨c, w3, rfl, -, ⟨rfl, hsb⟩, hT3⟩ := hR1; (simp only [List.cons_append, qaG] at S hown hxl hxe hl1); have hxg := hx; rw [q6z] at hxg; have hxs := q1d.size_get hxg; obtain ⟨hx56, hxth⟩ := hth.get hxg)
  revert a; refine go 7 ?_; intro a S
  (refine wv S (q0f S rfl rfl (qic (cs := [_, _, _, _]) hxal (show 3 < 4 from by decide))) ?_; clear S a; intro a S)
  (refine q2p (Gs := []) (Gr := [[(bT, _)], gd]) S rfl rfl rfl rfl rfl rfl (ih x.2.size (by omega) F x.2 _ (Nat.le_refl _) hx56 hxth hT3) rfl (by exact List.Perm.refl _) ?_; clear S a; intro u5 F5 G9 a w hv hF5 S; obtain ⟨g5, rfl, hO5⟩ := hv; replace S := qw9 ⟨S.fr, S.tr.shrink hF5 (fun _ _ h => h)⟩; have hnd := qj2 S; have hla2 : LiC (gh (g5 ++ gd)) 4 RoS _ ((kids L).take (i + 1)) := (by rw [List.take_add_one, hx]; exact LiC.app (hla.mono fun _ _ h => q4u hnd h) (LiC.one rfl (RoS.mk4 hsb (TrS.mono (fun _ _ h => q5i h) hO5.r) (hO5.s.imp fun _ h => h.mono fun _ _ h => q5i h)))))
  revert a; refine go 2 ?_; intro a S
  (refine q0e S rfl rfl rfl rfl rfl (by obtain ⟨a5, c5, e5, -⟩ := hO5.r; rw [e5]; rfl) (by simp only [qaA, qaC, qaD]; omega) ?_; clear S; intro w S; rw [show (xa ++ (.int .u8 (x.1.k : Int) :: .int .i64 x.1.n :: .string (bs x.1.s) :: w3 :: xb) ++ exT).set (0 + i * 4 + 3) u5 = ((xa ++ [.int .u8 (x.1.k : Int), .int .i64 x.1.n, .string (bs x.1.s), u5]) ++ xb) ++ exT from set_mid (cs := [_, _, _, w3]) hxal (show 3 < 4 from by decide)] at S)
  revert a; revert Z; refine go 6 ?_; intro a S
  change ∃ m', _ ∧ _
  (refine ⟨L.len - (i + 1), by omega, i + 1, _, _, g5 ++ gd, xa ++ [.int .u8 (x.1.k : Int), .int .i64 x.1.n, .string (bs x.1.s), u5], xb, rfl, by omega, q96 (b := bT) (cap := capT) (ex := exT) (by simp only [qaA, qaC, qaD] at hxl ⊢; omega) hcq hcm (by simp only [qaA, qaC, qaD] at hxe ⊢; omega), by simp only [qaA, qaC, qaD]; omega, hla2, hlb, ?_⟩; refine S.keep ?_; exact zk)
 (refine wp_exit ?_; conv => whnf)
 clear hZ Z
 revert a; revert Z; refine go 6 ?_; intro a S
 refine wp_ret ?_
 (first | (have hnd2 := nd2 S; replace S := qc6 S) | (replace S := S.nilg))
 refine q08 S (q0c Tryz.results35 (RV.tmp S rfl)) ?_
 exact qzw
theorem qnt (n : Nat) (F : q01) (L : Vf) (v : Value) (hn : L.size ≤ n) (hb : L.len * 56 ≤ 140737488355328) (hth : ThV L) (hT : TrS F 4 VhR v L) : Ct Tryz.prog 35 [v] F [] (fun _ G' u => ∃ g, G' = [g] ∧ OwR g u L) :=
 (qn0 n F L v hn hb hth hT).mono fun _ _ _ ⟨g, h1, h2⟩ => ⟨g, h1, h2.r⟩
end Go.Proofs.YtbhipiepfclneaaGreatDoor
namespace Go.Wk
open Go
set_option linter.unusedSectionVars false
section
variable {α : Type} [DecidableEq α] {P : Program} {n : Sz} {L : List (Nat × Value)} {w0 : World} {F0 : q01} {K0 : List Nat} {F : q01} {G : List Grp} {a : Act} {w : World} {ops : Array Oper} {Q : Exit → Act → World → Prop} {rest : List Oper} {o : Oper}
theorem q8a {d : TypeDesc} {enc : α → Value} [hk : qfq d enc] {t kt e : TypeId} {x y z : Operand} {b : Nat} {es : List (α × Value)} {R} {k : α} {v : Value} [ht : Und P t (.map kt e)] [hd : Und P kt d] [hh : Has G b (qhz enc es) R]
  (S : St n L w0 F0 K0 F G a w) (hg : o.guard = none) (ho : o.op = .insert t x y z) (hdst : o.dst = none) (hx : ev L x = some (.map (some b))) (hy : ev L y = some (enc k)) (hz : ev L z = some v)
  (kk : ∀ w', St n L w0 F0 K0 F (R [(b, qhz enc (qdm es k v))]) a w' → wpList P ops Q rest a w') : wpList P ops Q (o :: rest) a w := by
 refine wpList_plain hg fun K hK => ?_
 have hb := S.has hh
 have hr : (Instr.mapUpdate t (.map (some b)) (enc k) v).run P w = .ok () (w.putObj b (qhz enc (qdm es k v))) := by
  unfold Instr.mapUpdate
  have hg := q3j (P := P) hb
  have hc := hk.chk P w kt false k hd.h
  simp only [Sem.run_bind, run_underlying ht.h, Result.andThen_ok, hg, Sem.run_pure, hc, run_findKey (d := d) hd.h w es k]
  cases hf : List.findIdx? (fun p => decide (k = p.1)) es with
  | none =>
   have hn : q4g es k = none := by rw [q92, hf]; rfl
   simp only [Option.map_none, q75 hn, qhz, q9e]
   simp only [qhz] at hb
   simp [setObj, Sem.run, hb, World.putObj, Array.set!]
  | some j =>
   obtain ⟨h1, h2, h3⟩ := q9n enc k v 0 es j hf
   simp only [Option.map_some, Sem.run_bind, qhz, List.getElem?_toArray, h2, Option.getD_some]
   unfold Instr.keyThatStays
   rw [if_pos (hk.bits k)]
   simp only [Sem.run_pure, Result.andThen_ok, List.modify_toArray, h1, h3]
   simp only [qhz] at hb
   simp [setObj, Sem.run, hb, World.putObj, Array.set!]
 unfold Oper.wp execOp
 rw [ho]
 simp [S.fr.eval hx, S.fr.eval hy, S.fr.eval hz, hr, Oper.upon_skip, hdst, Act.put]
 exact hK _ _ (kk _ (S.write hh rfl rfl rfl (by simp) (World.putObj_heap_same (q37 hb)) fun j hj => World.putObj_heap_other hj))
end
structure PM where
  p : Value → q01 → Prop
  mono : ∀ v F F', (∀ b o, F b = some o → F' b = some o) → p v F → p v F'
section
variable {α : Type} [DecidableEq α]
def q49 (enc : α → Value) : List (α × Value) → List Nat → List MapEntry
 | p :: r, n :: ns => { key := enc p.1, val := p.2, born := n } :: q49 enc r ns
 | _, _ => []
def MpO (enc : α → Value) (es : List (α × Value)) (o : Obj) : Prop := ∃ ns c, ns.length = es.length ∧ ns.Nodup ∧ (∀ n ∈ ns, n < c) ∧ o = .map ⟨q49 enc es ns⟩ c
theorem MpO.nil (enc : α → Value) : MpO enc [] (qhz enc []) := ⟨[], 0, rfl, List.nodup_nil, (fun n h => by cases h), rfl⟩
def qkw : List (α × Value) → α → List (α × Value)
 | [], _ => []
 | (a, u) :: r, k => if k = a then r else (a, u) :: qkw r k
theorem qe5 {d : TypeDesc} {enc : α → Value} [hk : qfq d enc] (k : α) : ∀ (es : List (α × Value)) (ns : List Nat) (i : Nat), ns.length = es.length →
  Instr.findNow d (enc k) (q49 enc es ns) i = some ((es.findIdx? fun p => decide (k = p.1)).map fun j => (i + j, ((es[j]?).map (·.2)).getD undef))
 | [], _, _, _ => rfl
 | (a, u) :: r, [], _, h => by cases h
 | (a, u) :: r, n :: ns, i, hl => by
  rw [q49, Instr.findNow, hk.same]
  by_cases h : k = a
  ·subst h; simp [List.findIdx?_cons]
  ·have := qe5 (d := d) (enc := enc) k r ns (i + 1) (Nat.succ.inj hl)
   simp only [h, decide_false]
   rw [this]
   simp only [List.findIdx?_cons, h, decide_false, Bool.false_eq_true, if_false, Option.map_map]
   congr 1
   cases hf : List.findIdx? (fun p => decide (k = p.1)) r with
   | none => rfl
   | some j => simp [Nat.add_assoc, Nat.add_comm 1 j]
theorem qdd (enc : α → Value) : ∀ (es : List (α × Value)) (ns : List Nat), ns.length = es.length → (q49 enc es ns).length = es.length
 | [], _, _ => rfl
 | _ :: _, [], h => by cases h
 | _ :: r, _ :: ns, h => by simp [q49, qdd enc r ns (Nat.succ.inj h)]
theorem q9u (enc : α → Value) (k : α) (v : Value) (m : Nat) : ∀ (es : List (α × Value)) (ns : List Nat), ns.length = es.length → q49 enc (es ++ [(k, v)]) (ns ++ [m]) = q49 enc es ns ++ [{ key := enc k, val := v, born := m }]
 | [], [], _ => rfl
 | _ :: _, [], h => by cases h
 | _ :: r, _ :: ns, h => by simp [q49, q9u enc k v m r ns (Nat.succ.inj h)]
theorem q9k (enc : α → Value) (k : α) (v : Value) : ∀ (es : List (α × Value)) (ns : List Nat) (j : Nat), ns.length = es.length → (es.findIdx? fun p => decide (k = p.1)) = some j →
  (q49 enc es ns).modify j (fun e => { e with key := enc k, val := v }) = q49 enc (qdm es k v) ns ∧ ((q49 enc es ns)[j]?).map (·.key) = some (enc k) ∧ (qdm es k v).length = es.length
 | [], _, j, _, h => by cases h
 | (a, u) :: r, [], j, hl, h => by cases hl
 | (a, u) :: r, n :: ns, j, hl, h => by
  rw [List.findIdx?_cons] at h
  by_cases hk : k = a
  ·subst hk
   simp at h
   subst h
   simp [q49, qdm]
  ·simp only [hk, decide_false, Bool.false_eq_true, if_false] at h
   cases hf : List.findIdx? (fun p => decide (k = p.1)) r with
   | none => rw [hf] at h; cases h
   | some i =>
    rw [hf] at h
    simp at h
    subst h
    obtain ⟨h1, h2, h3⟩ := q9k enc k v r ns i (Nat.succ.inj hl) hf
    unfold qdm
    rw [if_neg hk]
    simp [q49, h1, h2, h3]
theorem qbj (enc : α → Value) : ∀ (es : List (α × Value)) (ns : List Nat) (j : Nat), (q49 enc es ns).eraseIdx j = q49 enc (es.eraseIdx j) (ns.eraseIdx j)
 | [], ns, j => by simp [q49]
 | _ :: _, [], j => by
  cases j <;> simp [q49]
 | p :: r, n :: ns, 0 => by simp [q49]
 | p :: r, n :: ns, j + 1 => by simp [q49, qbj enc r ns j]
theorem qaa (k : α) : ∀ (es : List (α × Value)) (j : Nat), (es.findIdx? fun p => decide (k = p.1)) = some j → qkw es k = es.eraseIdx j
 | [], j, h => by cases h
 | (a, u) :: r, j, h => by
  rw [List.findIdx?_cons] at h
  by_cases hk : k = a
  ·subst hk
   simp at h
   subst h
   simp [qkw]
  ·simp only [hk, decide_false, Bool.false_eq_true, if_false] at h
   cases hf : List.findIdx? (fun p => decide (k = p.1)) r with
   | none => rw [hf] at h; cases h
   | some i =>
    rw [hf] at h
    simp at h
    subst h
    rw [qkw, if_neg hk, qaa k r i hf, List.eraseIdx_cons_succ]
theorem qa6 (k : α) : ∀ (es : List (α × Value)), (es.findIdx? fun p => decide (k = p.1)) = none → qkw es k = es
 | [], h => rfl
 | (a, u) :: r, h => by
  rw [List.findIdx?_cons] at h
  by_cases hk : k = a
  ·subst hk; simp at h
  ·simp only [hk, decide_false, Bool.false_eq_true, if_false, Option.map_eq_none_iff] at h
   rw [qkw, if_neg hk, qa6 k r h]
def lft : List (α × Value) → List Nat → Array Nat → List (α × Value)
 | p :: r, n :: ns, sn => if sn.contains n = true then lft r ns sn else p :: lft r ns sn
 | _, _, _ => []
def ItO (enc : α → Value) (es : List (α × Value)) (b : Nat) (o : Obj) (left : List (α × Value)) (cur : Option (α × Value)) (oi : Obj) : Prop :=
 ∃ ns c sn sc, ns.length = es.length ∧ ns.Nodup ∧ (∀ n ∈ ns, n < c) ∧ o = .map ⟨q49 enc es ns⟩ c ∧ oi = .mapIter (some b) c sn c ∧ left = lft es ns sn ∧ sc = sn.back? ∧ ∀ p, cur = some p → ∃ n, sc = some n ∧ ({ key := enc p.1, val := p.2, born := n } : MapEntry) ∈ q49 enc es ns
theorem qeg : ∀ (es : List (α × Value)) (ns : List Nat), ns.length = es.length → lft es ns #[] = es
 | [], _, _ => rfl
 | _ :: _, [], h => by cases h
 | p :: r, n :: ns, h => by
  rw [lft, if_neg (by simp), qeg r ns (Nat.succ.inj h)]
theorem q7q (enc : α → Value) : ∀ (es : List (α × Value)) (ns : List Nat), ns.length = es.length → (q49 enc es ns).map (·.born) = ns
 | [], [], _ => rfl
 | _ :: _, [], h => by cases h
 | p :: r, n :: ns, h => by simp [q49, q7q enc r ns (Nat.succ.inj h)]
theorem qiu (m : Nat) (sn : Array Nat) : ∀ (es : List (α × Value)) (ns : List Nat), m ∉ ns → lft es ns (sn.push m) = lft es ns sn
 | [], _, _ => rfl
 | _ :: _, [], h => rfl
 | p :: r, n :: ns, h => by
  simp only [List.mem_cons, not_or] at h
  unfold lft
  rw [qiu m sn r ns h.2]
  have : (sn.push m).contains n = sn.contains n := by
   rw [Bool.eq_iff_iff, Array.contains_iff_mem, Array.contains_iff_mem, Array.mem_push]
   exact ⟨fun h9 => h9.resolve_right (Ne.symm h.1), .inl⟩
  rw [this]
theorem qia (enc : α → Value) (sn : Array Nat) : ∀ (es : List (α × Value)) (ns : List Nat) (e : MapEntry), ns.length = es.length → ns.Nodup → e ∈ q49 enc es ns → sn.contains e.born = false →
  ∃ p l1 l2, e = { key := enc p.1, val := p.2, born := e.born } ∧ lft es ns sn = l1 ++ p :: l2 ∧ lft es ns (sn.push e.born) = l1 ++ l2
 | [], _, e, _, _, he, _ => by cases he
 | _ :: _, [], e, h, _, _, _ => by cases h
 | p :: r, n :: ns, e, hl, hn, he, hs => by
  obtain ⟨h1, h2⟩ := List.nodup_cons.1 hn
  unfold lft
  rcases List.mem_cons.1 he with rfl | he
  ·refine ⟨p, [], lft r ns sn, rfl, ?_, ?_⟩
   ·rw [if_neg (by rw [show sn.contains n = false from hs]; simp)]; rfl
   ·rw [if_pos (by simp [Array.contains_iff_mem])]
    exact qiu n sn r ns h1
  ·obtain ⟨q, l1, l2, h3, h4, h5⟩ := qia enc sn r ns e (Nat.succ.inj hl) h2 he hs
   have hb : e.born ∈ ns := by rw [← q7q enc r ns (Nat.succ.inj hl)]; exact List.mem_map.2 ⟨e, he, rfl⟩
   have hne : n ≠ e.born := fun h => h1 (h ▸ hb)
   have : (sn.push e.born).contains n = sn.contains n := by
    rw [Bool.eq_iff_iff, Array.contains_iff_mem, Array.contains_iff_mem, Array.mem_push]
    exact ⟨fun h9 => h9.resolve_right hne, .inl⟩
   rw [this]
   by_cases hc : sn.contains n = true
   ·rw [if_pos hc, if_pos hc]; exact ⟨q, l1, l2, h3, h4, h5⟩
   ·rw [if_neg hc, if_neg hc]; exact ⟨q, p :: l1, l2, h3, by rw [h4]; rfl, by rw [h5]; rfl⟩
theorem qok (enc : α → Value) (sn : Array Nat) : ∀ (es : List (α × Value)) (ns : List Nat), ns.length = es.length → (∀ e ∈ q49 enc es ns, sn.contains e.born = true) → lft es ns sn = []
 | [], _, _, _ => rfl
 | _ :: _, [], h, _ => by cases h
 | p :: r, n :: ns, h, ha => by
  unfold lft
  rw [if_pos (ha _ (qaH ..)), qok enc sn r ns (Nat.succ.inj h) fun e he => ha e (List.mem_cons_of_mem _ he)]
end
section
variable {P : Program} {α : Type} [DecidableEq α]
theorem q9l {d : TypeDesc} {enc : α → Value} [hk : qfq d enc] {kt : TypeId} (h : P.underlying kt = some d) (w : World) (es : List (α × Value)) (ns : List Nat) (hl : ns.length = es.length) (k : α) :
  (Instr.findKey kt (enc k) (q49 enc es ns)).run P w = .ok ((es.findIdx? fun p => decide (k = p.1)).map fun j => (j, ((es[j]?).map (·.2)).getD undef)) w := by
 unfold Instr.findKey
 simp only [Sem.run_bind, run_underlying h, Result.andThen_ok, qe5 (d := d) k es ns 0 hl, Nat.zero_add]
 rfl
theorem qgs {d : TypeDesc} {enc : α → Value} [hk : qfq d enc] {t kt e : TypeId} {z : Value} {sz by_ : Nat} {b : Nat} (ht : Und P t (.map kt e)) (hd : P.underlying kt = some d) (hi : Inf P e z sz by_) {w : World} {es : List (α × Value)} {ob : Obj} (hb : w.heap[b]? = some ob) (hm : MpO enc es ob) (k : α) (ok : Bool) :
  (Instr.lookup t (.map (some b)) (enc k) ok).run P w = .ok (if ok then .tuple #[(q4g es k).getD z, .bool (q4g es k).isSome] else (q4g es k).getD z) w := by
 obtain ⟨ns, c, hl, hn, hc, rfl⟩ := hm
 unfold Instr.lookup
 have hg := q3j (P := P) hb
 have hc := hk.chk P w kt (q49 enc es ns).toArray.isEmpty k hd
 simp only [Sem.run_bind, run_underlying ht.h, Result.andThen_ok, hg, Sem.run_pure, hc, q9l (d := d) hd w es ns hl k]
 rw [q92]
 cases hf : List.findIdx? (fun p => decide (k = p.1)) es with
 | none => simp [q4q hi]
 | some j =>
  have hj : j < es.length := (List.findIdx?_eq_some_iff_findIdx_eq.1 hf).1
  simp [List.getElem?_eq_getElem hj]
theorem qdk {d : TypeDesc} {enc : α → Value} [hk : qfq d enc] {t kt e : TypeId} {z : Value} {sz by_ : Nat} (ht : Und P t (.map kt e)) (hd : P.underlying kt = some d) (hi : Inf P e z sz by_) {w : World} (k : α) (ok : Bool) :
  (Instr.lookup t (.map none) (enc k) ok).run P w = .ok (if ok then .tuple #[z, .bool false] else z) w := by
 unfold Instr.lookup
 have hc := hk.chk P w kt (#[] : Array MapEntry).isEmpty k hd
 have hf : (Instr.findKey kt (enc k) (#[] : Array MapEntry).toList).run P w = .ok none w := by
  unfold Instr.findKey
  simp only [Sem.run_bind, run_underlying hd, Result.andThen_ok]
  rfl
 simp only [Sem.run_bind, run_underlying ht.h, Result.andThen_ok, Sem.run_pure, hc, hf]
 simp [q4q hi]
theorem qtr {d : TypeDesc} {enc : α → Value} [hk : qfq d enc] {t kt e : TypeId} {b : Nat} (ht : Und P t (.map kt e)) (hd : P.underlying kt = some d) {w : World} {es : List (α × Value)} {ob : Obj} (hb : w.heap[b]? = some ob) (hm : MpO enc es ob) (k : α) (v : Value) :
  ∃ o', MpO enc (qdm es k v) o' ∧ (Instr.mapUpdate t (.map (some b)) (enc k) v).run P w = .ok () (w.putObj b o') := by
 obtain ⟨ns, c, hl, hn, hc, rfl⟩ := hm
 unfold Instr.mapUpdate
 have hg := q3j (P := P) hb
 have hck := hk.chk P w kt false k hd
 simp only [Sem.run_bind, run_underlying ht.h, Result.andThen_ok, hg, Sem.run_pure, hck, q9l (d := d) hd w es ns hl k]
 cases hf : List.findIdx? (fun p => decide (k = p.1)) es with
 | none =>
  have hno : q4g es k = none := by rw [q92, hf]; rfl
  refine ⟨.map ⟨q49 enc (es ++ [(k, v)]) (ns ++ [c])⟩ (c + 1), ⟨ns ++ [c], c + 1, by rw [q75 hno]; simp [hl], ?_, fun n h => ?_, by rw [q75 hno]⟩, ?_⟩
  ·rw [List.nodup_append]
   exact ⟨hn, by simp, fun a ha b hb => by rw [List.mem_singleton] at hb; subst hb; have := hc a ha; omega⟩
  ·rw [List.mem_append, List.mem_singleton] at h
   rcases h with h | h
   ·have := hc n h; omega
   ·omega
  ·simp only [Option.map_none, q9u enc k v c es ns hl]
   simp [setObj, Sem.run, hb, World.putObj, Array.set!]
 | some j =>
  obtain ⟨h1, h2, h3⟩ := q9k enc k v es ns j hl hf
  refine ⟨.map ⟨q49 enc (qdm es k v) ns⟩ c, ⟨ns, c, by rw [h3, hl], hn, hc, rfl⟩, ?_⟩
  simp only [Option.map_some, Sem.run_bind, List.getElem?_toArray, h2, Option.getD_some]
  unfold Instr.keyThatStays
  rw [if_pos (hk.bits k)]
  simp only [Sem.run_pure, Result.andThen_ok, List.modify_toArray, h1, h3]
  simp [setObj, Sem.run, hb, World.putObj, Array.set!]
theorem qtj {d : TypeDesc} {enc : α → Value} [hk : qfq d enc] {t kt e ty : TypeId} {ts : Array TypeId} {b : Nat} (ht : Und P t (.map kt e)) (hts : ts[0]? = some t) (hd : P.underlying kt = some d) {w : World} {es : List (α × Value)} {ob : Obj} (hb : w.heap[b]? = some ob) (hm : MpO enc es ob) (k : α) :
  ∃ o', MpO enc (qkw es k) o' ∧ (Builtin.delete_ ts ty #[.map (some b), enc k]).run P w = .ok (.tuple #[]) (w.putObj b o') := by
 obtain ⟨ns, c, hl, hn, hc, rfl⟩ := hm
 unfold Builtin.delete_
 have hg := q3j (P := P) hb
 have hck := hk.chk P w kt (q49 enc es ns).toArray.isEmpty k hd
 simp only [hts, List.getElem?_toArray, List.getElem?_cons_zero, List.getElem?_cons_succ, Sem.run_bind, run_underlying ht.h, Result.andThen_ok, hg, Sem.run_pure, hck, q9l (d := d) hd w es ns hl k]
 cases hf : List.findIdx? (fun p => decide (k = p.1)) es with
 | none =>
  refine ⟨.map ⟨q49 enc es ns⟩ c, ⟨ns, c, by rw [qa6 k es hf]; exact hl, hn, hc, by rw [qa6 k es hf]⟩, ?_⟩
  simp [setObj, Sem.run, hb, World.putObj, Array.set!]
 | some j =>
  refine ⟨.map ⟨q49 enc (es.eraseIdx j) (ns.eraseIdx j)⟩ c, ⟨ns.eraseIdx j, c, by rw [qaa k es j hf]; simp [List.length_eraseIdx, hl], hn.sublist (List.eraseIdx_sublist ..), fun n h => hc n (List.mem_of_mem_eraseIdx h), by rw [qaa k es j hf]⟩, ?_⟩
  have hj : j < (q49 enc es ns).length := by
   rw [qdd enc es ns hl]
   exact (List.findIdx?_eq_some_iff_findIdx_eq.1 hf).1
  simp [setObj, Sem.run, hb, World.putObj, Array.set!, ← qbj, Array.eraseIdxIfInBounds, hj]
theorem qns {enc : α → Value} {w : World} {bi b : Nat} {es : List (α × Value)} {o oi : Obj} {left : List (α × Value)} {cur : Option (α × Value)} (hi : w.heap[bi]? = some oi) (hb : w.heap[b]? = some o) (h : ItO enc es b o left cur oi) (ty : TypeId) :
  (left = [] ∧ (Instr.next (.pointer (some ⟨bi, 0, none⟩)) false ty).run P w = .ok (.tuple #[.bool false]) w) ∨
  ∃ p l1 l2 oi' w1, left = l1 ++ p :: l2 ∧ ItO enc es b o (l1 ++ l2) (some p) oi' ∧ (w1 = w ∨ w1 = w.drew) ∧ (Instr.next (.pointer (some ⟨bi, 0, none⟩)) false ty).run P w = .ok (.tuple #[.bool true, enc p.1, p.2]) (w1.putObj bi oi') := by
 obtain ⟨ns, c, sn, sc, hl, hn, hc, rfl, rfl, rfl, rfl, -⟩ := h
 have hold : ∀ x ∈ (⟨q49 enc es ns⟩ : Array MapEntry).toList, x.born < c := fun x hx => hc _ (by rw [← q7q enc es ns hl]; exact List.mem_map.2 ⟨x, hx, rfl⟩)
 simp only [Instr.next, getObj, Sem.run_bind, Sem.run, hi, hb, Result.andThen, next_test_false sn _ c c hold (Nat.le_refl _), Bool.false_eq_true, if_false]
 have hlm : ∀ x, x ∈ (Array.filter (fun e => !sn.contains e.born) (⟨q49 enc es ns⟩ : Array MapEntry)).toList ↔ x ∈ q49 enc es ns ∧ sn.contains x.born = false := fun x => by simp
 have hmem : ∀ x ∈ (Array.filter (fun e => !sn.contains e.born) (⟨q49 enc es ns⟩ : Array MapEntry)).toList, x.born < c := fun x hx => hold x ((hlm x).1 hx).1
 generalize Array.filter (fun e => !sn.contains e.born) (⟨q49 enc es ns⟩ : Array MapEntry) = M at hmem hlm ⊢
 have e1 : M.filter (fun x => decide (x.born < c)) = M := Array.filter_eq_self.2 (fun x hx => by simpa using hmem x (by simpa using hx))
 have e2 : M.filter (fun x => decide (x.born ≥ c)) = #[] := by
  rw [Array.filter_eq_empty_iff]
  intro x hx
  have := hmem x (by simpa using hx)
  simp
  omega
 simp only [e1, e2, Array.append_empty]
 by_cases h0 : M.size = 0
 ·left
  have hM : M = #[] := Array.eq_empty_of_size_eq_zero h0
  subst hM
  refine ⟨qok enc sn es ns hl fun e he => ?_, ?_⟩
  ·cases hx : sn.contains e.born with
   | true => rfl
   | false => have := (hlm e).2 ⟨he, hx⟩; cases this
  ·simp [choose, Sem.run, Question.forced]
 ·right
  have hne : M.isEmpty = false := by simp [Array.isEmpty, h0]
  simp only [hne, Bool.false_eq_true, if_false, Array.empty_append, Array.size_map]
  have hch : ∃ (j : Nat) (w1 : World), j < M.size ∧ (w1 = w ∨ w1 = w.drew) ∧ (choose (Question.mapNext M.size)).run P w = .ok j w1 := by
   by_cases hf : M.size ≤ 1
   ·exact ⟨0, w, by omega, .inl rfl, by simp [choose, Sem.run, Question.forced, hf]⟩
   ·exact ⟨_, w.drew, Nat.mod_lt _ (by omega), .inr rfl, by
     simp only [choose, Sem.run, Question.forced, decide_eq_true_eq, hf, if_false, Question.cut]
     rfl⟩
  obtain ⟨j, w1, hj, hal, hrun⟩ := hch
  have hmj : M[j] ∈ M.toList := by simp
  obtain ⟨p, l1, l2, h1, h2, h3⟩ := qia enc sn es ns M[j] hl hn ((hlm _).1 hmj).1 ((hlm _).1 hmj).2
  have hi1 : w1.heap[bi]? = some (.mapIter (some b) c sn c) := by rcases hal with rfl | rfl <;> exact hi
  have hk : M[j].key = enc p.1 ∧ M[j].val = p.2 := by rw [h1]; exact ⟨rfl, rfl⟩
  refine ⟨p, l1, l2, .mapIter (some b) c (sn.push M[j].born) c, w1, h2, ⟨ns, c, sn.push M[j].born, _, hl, hn, hc, rfl, rfl, h3.symm, rfl, fun q hq => ⟨M[j].born, by simp, ?_⟩⟩, hal, ?_⟩
  ·cases hq; rw [← h1]; exact ((hlm _).1 hmj).1
  ·simp only [hrun, Array.getElem?_map, Array.getElem?_eq_getElem hj, Option.map_some, Sem.run_bind, Result.andThen, hk.1, hk.2]
   simp [setObj, Sem.run, hi1, World.putObj, Array.set!]
theorem ql1 {enc : α → Value} {w : World} {bi b : Nat} {es : List (α × Value)} {o oi : Obj} {left : List (α × Value)} {p : α × Value} (hi : w.heap[bi]? = some oi) (hb : w.heap[b]? = some o) (h : ItO enc es b o left (some p) oi) :
  (Instr.entry (.pointer (some ⟨bi, 0, none⟩))).run P w = .ok (.tuple #[enc p.1, p.2]) w := by
 obtain ⟨ns, c, sn, sc, hl, hn, hc, rfl, rfl, rfl, rfl, hcur⟩ := h
 obtain ⟨n, h1, h2⟩ := hcur p rfl
 have hf : (⟨q49 enc es ns⟩ : Array MapEntry).find? (·.born == n) = some { key := enc p.1, val := p.2, born := n } := by
  rw [← Array.find?_toList]
  exact find_born { key := enc p.1, val := p.2, born := n } _ (by rw [q7q enc es ns hl]; exact hn) h2
 simp only [Instr.entry, getObj, Sem.run_bind, Sem.run, hi, hb, Result.andThen, h1, bne_self_eq_false, Bool.false_eq_true, if_false, hf]
 rfl
end
section
variable {P : Program} {α : Type} [DecidableEq α] {n : Sz} {L : List (Nat × Value)} {w0 : World} {F0 : q01} {K0 : List Nat} {F : q01} {G : List Grp} {a : Act} {w : World} {ops : Array Oper} {Q : Exit → Act → World → Prop} {rest : List Oper} {o : Oper}
theorem q3h {d : TypeDesc} {enc : α → Value} [hk : qfq d enc] {x y : Operand} {t kt e : TypeId} {z : Value} {sz by_ : Nat} {b : Nat} {es : List (α × Value)} {ob : Obj} {R} {k : α} {ok : Bool} [ht : Und P t (.map kt e)] [hd : Und P kt d] [hi : Inf P e z sz by_] [hh : Has G b ob R]
  (S : St n L w0 F0 K0 F G a w) (ho : o.op = .lookup t x y ok) (hx : ev L x = some (.map (some b))) (hy : ev L y = some (enc k)) (hm : MpO enc es ob) : SV P o a w (if ok then .tuple #[(q4g es k).getD z, .bool (q4g es k).isSome] else (q4g es k).getD z) := by
 unfold SV execOp
 rw [ho]
 simp [S.fr.eval hx, S.fr.eval hy, qgs (d := d) ht hd.h hi (S.has hh) hm k ok]
theorem qb4 {d : TypeDesc} {enc : α → Value} [hk : qfq d enc] {x y : Operand} {t kt e : TypeId} {z : Value} {sz by_ : Nat} {k : α} {ok : Bool} [ht : Und P t (.map kt e)] [hd : Und P kt d] [hi : Inf P e z sz by_]
  (S : St n L w0 F0 K0 F G a w) (ho : o.op = .lookup t x y ok) (hx : ev L x = some (.map none)) (hy : ev L y = some (enc k)) : SV P o a w (if ok then .tuple #[z, .bool false] else z) := by
 unfold SV execOp
 rw [ho]
 simp [S.fr.eval hx, S.fr.eval hy, qdk (d := d) ht hd.h hi k ok]
theorem qe4 {enc : α → Value} {x : Operand} {t kt e : TypeId} {ts : Array TypeId} {b : Nat} {es : List (α × Value)} {ob : Obj} {R} [ht : Und P t (.map kt e)] [hh : Has G b ob R]
  (S : St n L w0 F0 K0 F G a w) (ho : o.op = .call { callee := .builtin .len, args := #[x], argTypes := ts }) (hts : ts.toList[0]? = some t) (hx : ev L x = some (.map (some b))) (hm : MpO enc es ob) : SV P o a w (.int .i64 es.length) := by
 obtain ⟨ns, c, hl, hn, hc, rfl⟩ := hm
 have hg := q3j (P := P) (S.has hh)
 have hsz := qdd enc es ns hl
 rw [Array.getElem?_toList] at hts
 unfold SV execOp
 rw [ho]
 simp [resolve, invoke, builtin, S.fr.eval hx, Builtin.len_, hts, run_underlying ht.h, hg, hsz, goInt]
theorem qda {d : TypeDesc} {enc : α → Value} [hk : qfq d enc] {t kt e : TypeId} {x y z : Operand} {b : Nat} {es : List (α × Value)} {ob : Obj} {R} {k : α} {v : Value} [ht : Und P t (.map kt e)] [hd : Und P kt d] [hh : Has G b ob R]
  (S : St n L w0 F0 K0 F G a w) (hg : o.guard = none) (ho : o.op = .mapUpdate t x y z) (hdst : o.dst = none) (hx : ev L x = some (.map (some b))) (hy : ev L y = some (enc k)) (hz : ev L z = some v) (hm : MpO enc es ob)
  (kk : ∀ o' w', MpO enc (qdm es k v) o' → St n L w0 F0 K0 F (R [(b, o')]) a w' → wpList P ops Q rest a w') : wpList P ops Q (o :: rest) a w := by
 refine wpList_plain hg fun K hK => ?_
 have hb := S.has hh
 obtain ⟨o', h1, hr⟩ := qtr (P := P) (d := d) ht hd.h hb hm k v
 unfold Oper.wp execOp
 rw [ho]
 simp [S.fr.eval hx, S.fr.eval hy, S.fr.eval hz, hr, Oper.upon_skip, hdst, Act.put]
 exact hK _ _ (kk _ _ h1 (S.write hh rfl rfl rfl (by simp) (World.putObj_heap_same (q37 hb)) fun j hj => World.putObj_heap_other hj))
theorem qhq {d : TypeDesc} {enc : α → Value} [hk : qfq d enc] {t kt e : TypeId} {x y : Operand} {ts : Array TypeId} {b : Nat} {es : List (α × Value)} {ob : Obj} {R} {k : α} [ht : Und P t (.map kt e)] [hd : Und P kt d] [hh : Has G b ob R]
  (S : St n L w0 F0 K0 F G a w) (hg : o.guard = none) (hdst : o.dst = none) (ho : o.op = .call { callee := .builtin .delete, args := #[x, y], argTypes := ts }) (hts : ts.toList[0]? = some t) (hx : ev L x = some (.map (some b))) (hy : ev L y = some (enc k)) (hm : MpO enc es ob)
  (kk : ∀ o' w', MpO enc (qkw es k) o' → St n L w0 F0 K0 F (R [(b, o')]) a w' → wpList P ops Q rest a w') : wpList P ops Q (o :: rest) a w := by
 refine wpList_plain hg fun K hK => ?_
 have hb := S.has hh
 rw [Array.getElem?_toList] at hts
 obtain ⟨o', h1, hr⟩ := qtj (P := P) (d := d) (ty := o.type) ht hts hd.h hb hm k
 unfold Oper.wp execOp
 rw [ho]
 simp [resolve, invoke, builtin, S.fr.eval hx, S.fr.eval hy, hr, Oper.upon_value, hdst, Act.put]
 have S2 := S.write hh (w' := w.putObj b o') rfl rfl rfl (by simp) (World.putObj_heap_same (q37 hb)) fun j hj => World.putObj_heap_other hj
 exact hK _ _ (kk _ _ h1 S2)
theorem q4d {d : Nat} {enc : α → Value} {t kt e : TypeId} {x : Operand} {b : Nat} {es : List (α × Value)} {ob : Obj} [ht : Und P t (.map kt e)]
  (S : St n L w0 F0 K0 F G a w) (hg : o.guard = none) (hd : o.dst = some d) (hn : Nat.blt d n.sz = true) (ho : o.op = .range t x) (hx : ev L x = some (.map (some b))) (hb : w.heap[b]? = some ob) (hm : MpO enc es ob)
  (kk : ∀ bi oi a' w', ItO enc es b ob es Option.none oi → St n ((d, .pointer (some ⟨bi, 0, Option.none⟩)) :: L) w0 F0 K0 F ([(bi, oi)] :: G) a' w' → wpList P ops Q rest a' w') : wpList P ops Q (o :: rest) a w := by
 refine wpList_plain hg fun K hK => ?_
 obtain ⟨ns, c, hl, hnn, hc, rfl⟩ := hm
 have hr := run_range_map (P := P) w t kt e b ⟨q49 enc es ns⟩ c ht.h hb
 unfold Oper.wp execOp
 rw [ho]
 simp only [Sem.run_bind, S.fr.eval hx, hr, Result.andThen_ok, Sem.run_pure, Oper.upon_value, hd]
 exact hK _ _ (kk w.heap.size _ _ _ ⟨ns, c, #[], _, hl, hnn, hc, rfl, rfl, (qeg es ns hl).symm, rfl, fun p hp => by cases hp⟩ (S.alloc _ hn _))
theorem q8q {d : Nat} {t kt e : TypeId} {x : Operand} [ht : Und P t (.map kt e)]
  (S : St n L w0 F0 K0 F G a w) (hg : o.guard = none) (hd : o.dst = some d) (hn : Nat.blt d n.sz = true) (ho : o.op = .range t x) (hx : ev L x = some (.map Option.none))
  (kk : ∀ bi a' w', St n ((d, .pointer (some ⟨bi, 0, Option.none⟩)) :: L) w0 F0 K0 F ([(bi, .mapIter Option.none 0 #[] 0)] :: G) a' w' → wpList P ops Q rest a' w') : wpList P ops Q (o :: rest) a w := by
 refine wpList_plain hg fun K hK => ?_
 have hr := run_range_nilMap (P := P) w t kt e ht.h
 unfold Oper.wp execOp
 rw [ho]
 simp only [Sem.run_bind, S.fr.eval hx, hr, Result.andThen_ok, Sem.run_pure, Oper.upon_value, hd]
 exact hK _ _ (kk w.heap.size _ _ (S.alloc _ hn _))
theorem St.drewS (S : St n L w0 F0 K0 F G a w) : St n L w0 F0 K0 F G a w.drew := ⟨S.fr, S.tr.drew⟩
theorem qle {d : Nat} {enc : α → Value} {x : Operand} {b bi : Nat} {es : List (α × Value)} {ob oi : Obj} {left : List (α × Value)} {cur : Option (α × Value)} {R} [hh : Has G bi oi R]
  (S : St n L w0 F0 K0 F G a w) (hg : o.guard = none) (hd : o.dst = some d) (hn : Nat.blt d n.sz = true) (ho : o.op = .next x false) (hx : ev L x = some (.pointer (some ⟨bi, 0, Option.none⟩))) (hb : w.heap[b]? = some ob) (hi : ItO enc es b ob left cur oi)
  (k0 : left = [] → ∀ a', St n ((d, .tuple ⟨[.bool false]⟩) :: L) w0 F0 K0 F G a' w → wpList P ops Q rest a' w)
  (k1 : ∀ p l1 l2 oi' a' w', left = l1 ++ p :: l2 → ItO enc es b ob (l1 ++ l2) (some p) oi' → St n ((d, .tuple ⟨[.bool true, enc p.1, p.2]⟩) :: L) w0 F0 K0 F (R [(bi, oi')]) a' w' → wpList P ops Q rest a' w') : wpList P ops Q (o :: rest) a w := by
 refine wpList_plain hg fun K hK => ?_
 have hbi := S.has hh
 unfold Oper.wp execOp
 rw [ho]
 rcases qns (P := P) hbi hb hi o.type with ⟨h0, hr⟩ | ⟨p, l1, l2, oi', w1, h1, h2, h3, hr⟩
 ·simp [S.fr.eval hx, hr, Oper.upon_value, hd]
  exact hK _ _ (k0 h0 _ (S.put hn _))
 ·simp [S.fr.eval hx, hr, Oper.upon_value, hd]
  have S1 : St n L w0 F0 K0 F G a w1 := by rcases h3 with rfl | rfl; exact S; exact S.drewS
  have hb1 := S1.has hh
  have S2 := S1.write hh (w' := w1.putObj bi oi') rfl rfl rfl (by simp) (World.putObj_heap_same (q37 hb1)) fun j hj => World.putObj_heap_other hj
  exact hK _ _ (k1 p l1 l2 oi' _ _ h1 h2 (S2.put hn _))
theorem q9i {d : Nat} {x : Operand} {bi : Nat} {R} [hh : Has G bi (.mapIter Option.none 0 #[] 0) R]
  (S : St n L w0 F0 K0 F G a w) (hg : o.guard = none) (hd : o.dst = some d) (hn : Nat.blt d n.sz = true) (ho : o.op = .next x false) (hx : ev L x = some (.pointer (some ⟨bi, 0, Option.none⟩)))
  (k0 : ∀ a', St n ((d, .tuple ⟨[.bool false]⟩) :: L) w0 F0 K0 F G a' w → wpList P ops Q rest a' w) : wpList P ops Q (o :: rest) a w := by
 refine wpList_plain hg fun K hK => ?_
 have hbi := S.has hh
 have hr : (Instr.next (.pointer (some ⟨bi, 0, Option.none⟩)) false o.type).run P w = .ok (.tuple #[.bool false]) w := by
  simp only [Instr.next, getObj, Sem.run_bind, Sem.run, hbi, Result.andThen]
  rfl
 unfold Oper.wp execOp
 rw [ho]
 simp [S.fr.eval hx, hr, Oper.upon_value, hd]
 exact hK _ _ (k0 _ (S.put hn _))
theorem q72 {enc : α → Value} {x : Operand} {b bi : Nat} {es : List (α × Value)} {ob oi : Obj} {left : List (α × Value)} {p : α × Value} {R} [hh : Has G bi oi R]
  (S : St n L w0 F0 K0 F G a w) (ho : o.op = .entry x) (hx : ev L x = some (.pointer (some ⟨bi, 0, Option.none⟩))) (hb : w.heap[b]? = some ob) (hi : ItO enc es b ob left (some p) oi) : SV P o a w (.tuple ⟨[enc p.1, p.2]⟩) := by
 unfold SV execOp
 rw [ho]
 simp [S.fr.eval hx, ql1 (P := P) (S.has hh) hb hi]
def NxO (enc : α → Value) (es : List (α × Value)) (b : Nat) (ob : Obj) (left : List (α × Value)) (x : Option (α × Value)) (oi' : Obj) : Prop :=
 (x = Option.none ∧ left = []) ∨ ∃ p l1 l2, x = some p ∧ left = l1 ++ p :: l2 ∧ ItO enc es b ob (l1 ++ l2) (some p) oi'
def nxR (enc : α → Value) : Option (α × Value) → List Value
 | Option.none => []
 | some p => [enc p.1, p.2]
theorem qtm {G : List Grp} {b : Nat} {o : Obj} {R : Grp → List Grp} [h : Has G b o R] : R [(b, o)] = G := by
 obtain ⟨G1, G2, e, hR⟩ := h.h
 rw [hR, e]
theorem q7j {d : Nat} {enc : α → Value} {x : Operand} {b bi : Nat} {es : List (α × Value)} {ob oi : Obj} {left : List (α × Value)} {cur : Option (α × Value)} {R} [hh : Has G bi oi R]
  (S : St n L w0 F0 K0 F G a w) (hg : o.guard = none) (hd : o.dst = some d) (hn : Nat.blt d n.sz = true) (ho : o.op = .next x false) (hx : ev L x = some (.pointer (some ⟨bi, 0, Option.none⟩))) (hb : w.heap[b]? = some ob) (hi : ItO enc es b ob left cur oi)
  (k : ∀ (y : Option (α × Value)) oi' a' w', NxO enc es b ob left y oi' → St n ((d, .tuple ⟨.bool y.isSome :: nxR enc y⟩) :: L) w0 F0 K0 F (R [(bi, oi')]) a' w' → wpList P ops Q rest a' w') : wpList P ops Q (o :: rest) a w :=
 qle S hg hd hn ho hx hb hi (fun h a' S' => k Option.none oi a' w (.inl ⟨rfl, h⟩) (by rw [qtm (h := hh)]; exact S')) fun p l1 l2 oi' a' w' h1 h2 S' => k (some p) oi' a' w' (.inr ⟨p, l1, l2, rfl, h1, h2⟩) S'
theorem q9h {x y : Operand} {r : Option Nat} {t yt kt e : TypeId} [ht : Und P t (.map kt e)] (S : St n L w0 F0 K0 F G a w) (ho : o.op = .binOp .eql t x y yt) (hx : ev L x = some (.map r)) (hy : ev L y = some (.map Option.none)) : SV P o a w (.bool r.isNone) := by
 unfold SV execOp
 rw [ho]
 have h1 : (eqGuard .eql t x y (.map r) (.map Option.none)).run P w = .ok () w := rfl
 simp [S.fr.eval hx, S.fr.eval hy, h1, run_eql_map_nil w t kt e r ht.h]
def qzq : Value → Bool
 | .func _ _ _ => true
 | .nilFunc => true
 | _ => false
def qbp : Value → Bool
 | .nilFunc => true
 | _ => false
theorem q61 (w : World) (n : Nat) (t : TypeId) {zs ys : Array TypeId} {c : Bool} {v : Value} (h : P.underlying t = some (.func zs ys c)) (hv : qzq v = true) : (Op.equalIn (n + 1) t v .nilFunc).run P w = .ok (qbp v) w := by
 cases v <;> simp only [qzq] at hv <;> first | (cases hv; done) | (unfold Op.equalIn; simp [run_underlying h, qbp])
theorem q8v (w : World) (t : TypeId) {zs ys : Array TypeId} {c : Bool} {v : Value} (h : P.underlying t = some (.func zs ys c)) (hv : qzq v = true) : (binOp .eql t v .nilFunc).run P w = .ok (.bool (qbp v)) w := by
 simp only [binOp]
 simp [Op.equal, Op.maxDepth, q61 w 9999 t h hv]
theorem qkz {x y : Operand} {v : Value} {t yt : TypeId} {zs ys : Array TypeId} {c : Bool} [ht : Und P t (.func zs ys c)] (S : St n L w0 F0 K0 F G a w) (ho : o.op = .binOp .eql t x y yt) (hx : ev L x = some v) (hy : ev L y = some .nilFunc) (hv : qzq v = true) : SV P o a w (.bool (qbp v)) := by
 unfold SV execOp
 rw [ho]
 have h1 : (eqGuard .eql t x y v .nilFunc).run P w = .ok () w := by cases v <;> first | rfl | (cases hv; done)
 simp [S.fr.eval hx, S.fr.eval hy, h1, q8v w t ht.h hv]
end
