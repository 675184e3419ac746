/- Walks. -/
import Derived.Test.YtbhipiepfclneaaGreatDoorKGroupPlays08
set_option maxHeartbeats 64000000
set_option maxRecDepth 20000
namespace Go.Proofs.YtbhipiepfclneaaGreatDoor
open Go Go.Wk Go.Un Go.De Go.Num
set_option linter.unusedSimpArgs false
set_option linter.unusedVariables false
attribute [local irreducible] Go.wpList Go.Code.wp Go.wpStill Go.Wk.q26 Go.bodyPost Go.Calls Go.Wk.Ct Go.Wk.q0u Go.Wk.wpG Go.Wk.wpM
def addX (aggs : List (List UInt8)) (X : List WyD) (key way args : Vf) : List WyD := if qjl aggs X key way args = 0 then X ++ [⟨key, way, args⟩] else X
theorem u1l {aggs : List (List UInt8)} {X : List WyD} {key way args : Vf} (h : (q2m key && (q2m way && q2m args)) = false) : qjl aggs X key way args = 4 := by unfold qjl; rw [if_pos h]
theorem u0v {aggs : List (List UInt8)} {X : List WyD} {key way args : Vf} (h1 : q2m key = true) (h2 : q2m way = true) (h3 : q2m args = true) (h : args.len ≠ aggs.length) : qjl aggs X key way args = 1 := by
 unfold qjl
 rw [if_neg (by rw [h1, h2, h3]; decide), if_pos h]
theorem u0k {aggs : List (List UInt8)} {X W : List WyD} {key way args : Vf} (h1 : q2m key = true) (h2 : q2m way = true) (h3 : q2m args = true) (h : args.len = aggs.length) (hW : ofW X key = W) {x : WyD} (hx : x ∈ W) (hs : q15 x.way way = true) : qjl aggs X key way args = 6 := by
 unfold qjl
 rw [if_neg (by rw [h1, h2, h3]; decide), if_neg (by simpa using h), hW, if_pos (List.any_eq_true.2 ⟨x, hx, hs⟩)]
theorem u0h {aggs : List (List UInt8)} {X W : List WyD} {key way args : Vf} (h1 : q2m key = true) (h2 : q2m way = true) (h3 : q2m args = true) (h : args.len = aggs.length) (hW : ofW X key = W) (hn : ∀ x ∈ W, ¬ q15 x.way way = true) {i : Nat} (hi : i < aggs.length) (ht : tyR aggs args W i = true) : qjl aggs X key way args = 70 := by
 unfold qjl
 rw [if_neg (by rw [h1, h2, h3]; decide), if_neg (by simpa using h), hW, if_neg (by rw [List.any_eq_true]; rintro ⟨x, hx, hs⟩; exact hn x hx hs), if_pos (List.any_eq_true.2 ⟨i, List.mem_range.2 hi, ht⟩)]
theorem u12 {aggs : List (List UInt8)} {X W : List WyD} {key way args : Vf} (h1 : q2m key = true) (h2 : q2m way = true) (h3 : q2m args = true) (h : args.len = aggs.length) (hW : ofW X key = W) (hn : ∀ x ∈ W, ¬ q15 x.way way = true) (ht : ∀ i, i < aggs.length → ¬ tyR aggs args W i = true) : qjl aggs X key way args = 0 := by
 unfold qjl
 rw [if_neg (by rw [h1, h2, h3]; decide), if_neg (by simpa using h), hW, if_neg (by rw [List.any_eq_true]; rintro ⟨x, hx, hs⟩; exact hn x hx hs), if_neg (by rw [List.any_eq_true]; rintro ⟨i, hi, hs⟩; exact ht i (List.mem_range.1 hi) hs)]
theorem qzd {aggs : List (List UInt8)} {args : Vf} {W : List WyD} {i : Nat} {s : List UInt8} (hs : aggs[i]? = some s) (h : ¬ s = q5u) : ¬ tyR aggs args W i = true := by
 unfold tyR
 rw [List.getD_eq_getElem?_getD, hs, Option.getD_some, decide_eq_false h]; simp
theorem qwh {aggs : List (List UInt8)} {args : Vf} {W : List WyD} {i : Nat} {s : List UInt8} (hs : aggs[i]? = some s) (h : s = q5u) (hk : kAt args i ≠ 2 ∧ kAt args i ≠ 3) : tyR aggs args W i = true := by
 unfold tyR
 rw [List.getD_eq_getElem?_getD, hs, Option.getD_some, decide_eq_true h, decide_eq_true hk]; rfl
theorem qx8 {aggs : List (List UInt8)} {args : Vf} {W : List WyD} {i : Nat} {s : List UInt8} {w0 : WyD} (hs : aggs[i]? = some s) (h : s = q5u) (hw : W[0]? = some w0) (hk : kAt w0.args i ≠ kAt args i) : tyR aggs args W i = true := by
 cases W with
 | nil => cases hw
 | cons y r =>
  cases hw
  unfold tyR
  rw [List.getD_eq_getElem?_getD, hs, Option.getD_some, decide_eq_true h]
  simp [hk]
theorem u34 {aggs : List (List UInt8)} {args : Vf} {W : List WyD} {i : Nat} (hk : ¬ (kAt args i ≠ 2 ∧ kAt args i ≠ 3)) (hw : W.length = 0) : ¬ tyR aggs args W i = true := by
 rw [List.eq_nil_of_length_eq_zero hw]
 unfold tyR
 rw [decide_eq_false hk]; simp
theorem u3o {aggs : List (List UInt8)} {args : Vf} {W : List WyD} {i : Nat} {w0 : WyD} (hk : ¬ (kAt args i ≠ 2 ∧ kAt args i ≠ 3)) (hw : W[0]? = some w0) (he : kAt w0.args i = kAt args i) : ¬ tyR aggs args W i = true := by
 cases W with
 | nil => cases hw
 | cons y r =>
  cases hw
  unfold tyR
  rw [decide_eq_false hk]
  simp [he]
theorem u2f {F F3 : q01} (hl3 : ∀ b o, F b = some o → F3 b = some o) {aW : Option Addr} {W : List WyD} (hpW : 0 < W.length → ∃ b o, aW = some ⟨b, o, none⟩ ∧ ∀ (k : Nat) (x : WyD), W[k]? = some x → ∃ cs, q2v F3 b (o + k * 3) cs ∧ cs.length = 3 ∧ WyQ F F3 x cs) {n i : Nat} (hi : i < n) (hlen : ∀ x ∈ W, x.args.len = n) :
  ∃ (bw ow : Nat) (y1 y2 : Value) (cq bq oq kz : Nat), 0 < W.length → aW = some ⟨bw, ow, none⟩ ∧ q2v F3 bw (ow + 0 * 3) [y1, y2, .slice (some ⟨bq, oq, none⟩) n cq] ∧ Cel F3 bq (oq + i * 4 + 0) (.int .u8 (kz : Int)) ∧ ∃ w0, W[0]? = some w0 ∧ kAt w0.args i = kz := by
 by_cases h0 : 0 < W.length
 ·obtain ⟨b8, o8, e8, x, cs1, hx, hcc, hR⟩ := LiM.pos hpW (k := 0) h0
  obtain ⟨a1, c1, a2, c2, a3, c3, rfl, h1, h2, h3⟩ := q5t hR
  have hxl := hlen x (List.mem_of_getElem? hx)
  obtain ⟨_, _, e9, hcQ, hpQ⟩ := h3
  cases e9
  obtain ⟨bz, oz, haz, z, csz, vz, hz, hcz, hwz, hTz⟩ := TrM.pos hpQ (k := i) (by omega)
  subst haz
  have hwd := hwz.1
  subst hwd
  refine ⟨b8, o8, _, _, c3, bz, oz, z.1.k, fun _ => ⟨e8, by rw [hxl] at hcc; exact hcc, (q2v.mono hl3 hcz) 0 _ rfl, x, hx, ?_⟩⟩
  unfold kAt
  rw [hz]
 ·exact ⟨0, 0, .nilIface, .nilIface, 0, 0, 0, 0, fun h => absurd h h0⟩
theorem u1m {F F2 : q01} (hle : ∀ b o, F b = some o → F2 b = some o) {ao : Option Addr} {args : Vf} (hp : 0 < args.len → ∃ b o, ao = some ⟨b, o, none⟩ ∧ TrM F 4 VhR args b o) {i : Nat} (hi : i < args.len) : ∃ bz oz, ao = some ⟨bz, oz, none⟩ ∧ Cel F2 bz (oz + i * 4 + 0) (.int .u8 (kAt args i : Int)) := by
 obtain ⟨bz, oz, haz, z, csz, vz, hz, hcz, hwz, hTz⟩ := TrM.pos hp hi
 have hwd := hwz.1
 subst hwd
 refine ⟨bz, oz, haz, ?_⟩
 unfold kAt
 rw [hz]
 exact (q2v.mono hle hcz) 0 _ rfl
section
variable {n : Sz} {L : List (Nat × Value)} {w0 : World} {F0 : q01} {K0 : List Nat} {F : q01} {A B C : Grp} {R : List Grp} {a : Act} {w : World}
theorem qsg {v1 v2 v3 : Value} {l1 l2 l3 : Vf} (h1 : OwS A v1 l1) (h2 : OwS B v2 l2) (h3 : OwS C v3 l3) (S : St n L w0 F0 K0 F (C :: B :: A :: R) a w) : ∃ F3, (∀ b o, F b = some o → F3 b = some o) ∧ (TrS F3 4 VhR v1 l1 ∧ TrS F3 4 VhR v2 l2 ∧ TrS F3 4 VhR v3 l3) ∧ St n L w0 F0 K0 F3 R a w := by
 have hnd := S.tr.nd
 unfold keys at hnd
 simp only [qaF, List.map_append, List.nodup_append] at hnd
 have k1 := q2h (G1 := []) S
 have S1 := St.freeze (G1 := []) S
 simp only [qaG] at S1
 have k2 := q2h (G1 := []) S1
 have S2 := St.freeze (G1 := []) S1
 simp only [qaG] at S2
 have k3 := q2h (G1 := []) S2
 have S3 := St.freeze (G1 := []) S2
 simp only [qaG] at S3
 refine ⟨_, fun b o h => k3 b o (k2 b o (k1 b o h)), ⟨TrS.mono (fun b o h => ?_) h1.r, TrS.mono (fun b o h => ?_) h2.r, TrS.mono (fun b o h => ?_) h3.r⟩, S3⟩
 ·exact q01.add_new (p := (b, o)) (q5e h) hnd.2.1.2.1.1
 ·exact k3 b o (q01.add_new (p := (b, o)) (q5e h) hnd.2.1.1)
 ·exact k3 b o (k2 b o (q01.add_new (p := (b, o)) (q5e h) hnd.1))
end
theorem qc4 {p : Prop} (h : p := by (first | (have h9 := u1l (aggs := aggs) (X := X) (key := key) (way := way) (args := args) (by first | (rw [(by assumption : q2m key = false)]; rfl) | (rw [(by assumption : q2m key = true), (by assumption : q2m way = false)]; rfl) | (rw [(by assumption : q2m key = true), (by assumption : q2m way = true), (by assumption : q2m args = false)]; rfl)); unfold addX; rw [h9]; exact ⟨rfl, _, rfl, hXO⟩) | (have h9 := u0v (aggs := aggs) (X := X) (by assumption : q2m key = true) (by assumption : q2m way = true) (by assumption : q2m args = true) (by omega); unfold addX; rw [h9]; exact ⟨rfl, _, rfl, hXO⟩) | (have h9 := u0k (aggs := aggs) (by assumption : q2m key = true) (by assumption : q2m way = true) (by assumption : q2m args = true) (by omega) hWe (List.mem_of_getElem? hx) (by assumption); unfold addX; rw [h9]; exact ⟨rfl, _, rfl, hXO.mono hle3⟩) | (rw [← haA]; have h9 := u0h (by assumption : q2m key = true) (by assumption : q2m way = true) (by assumption : q2m args = true) hae hWe hnn hi9 (by first | exact qwh hsx (by assumption) (by omega) | (obtain ⟨w0, hw9, hw8⟩ := (hw0 (by omega)).2.2.2; exact qx8 hsx (by assumption) hw9 (by omega))); unfold addX; rw [h9]; exact ⟨rfl, _, rfl, hXO.mono hle3⟩) | (have h9 := u12 (by assumption : q2m key = true) (by assumption : q2m way = true) (by assumption : q2m args = true) (by omega) hWe hnn hall; unfold addX; rw [h9, if_pos rfl]; exact ⟨rfl, _, rfl, v, _, g, rfl, (by rw [qaA]; exact hown), LiC.app (hxs.mono (fun b o h => hF9 _ _ (hle3 _ _ h))) (LiC.one rfl ⟨_, _, _, rfl, hT9.1, hT9.2.1, hT9.2.2⟩)⟩))) : p := h
theorem qq6 {p : Prop} (h : p := by (first | rw [← (hw0 (by omega)).1] at S | skip); (first | rw [← haz] at S | skip); (rw [← haA] at S); first | (exact absurd rfl (by assumption)) | (have hn2 : ¬ tyR aggs args W i = true := (by first | exact qzd hsx (by assumption) | (have hkk : ¬ (kAt args i ≠ 2 ∧ kAt args i ≠ 3) := (by omega); first | exact u34 hkk (by omega) | (obtain ⟨w0, hw9, hw8⟩ := (hw0 (by omega)).2.2.2; exact u3o hkk hw9 (by omega)))); refine ⟨aggs.length - (i + 1), by omega, i + 1, rfl, by omega, (fun j hj => by rcases Nat.lt_or_eq_of_le (Nat.le_of_lt_succ hj) with h9 | h9; exact hall j h9; rw [h9]; exact hn2), ?_⟩; (refine S.keep ?_; exact zk); done)) : p := h
theorem u3p (F : q01) (bx : Nat) (av : Value) (X : List WyD) (gx : Grp) (hX : XO F bx av X gx) (hl : X.length ≤ 10000) (aggs : List (List UInt8)) (hA : LiM F 1 StR av aggs) (h8 : aggs.length ≤ 8) (key way args : Vf) (v1 v2 v3 : Value) (h1 : TrS F 4 VhR v1 key) (h2 : TrS F 4 VhR v2 way) (h3 : TrS F 4 VhR v3 args) (g1 : Rw1 key ∨ (dpN key ≤ 900000000 ∧ key.size ≤ 900000000)) (g2 : dpN way ≤ 900000000 ∧ way.size ≤ 900000000) (g3 : dpN args ≤ 900000000 ∧ args.size ≤ 900000000) (hlen : ∀ x ∈ X, x.args.len = aggs.length) :
  Ct Tryz.prog 21 [.pointer (some ⟨bx, 0, none⟩), v1, v2, v3] F [gx] (fun F' G' u => u = .int .i64 (qjl aggs X key way args) ∧ ∃ gx', G' = [gx'] ∧ XO F' bx av (addX aggs X key way args) gx') := by
 have d1 : dpN key ≤ 900000000 ∧ key.size ≤ 900000000 := g1.elim (fun h => ⟨h.2.2.1, h.2.2.2⟩) id
 have r1 := q8g F key v1 d1.1 h1
 have r2 := q8g F way v2 g2.1 h2
 have r3 := q8g F args v3 g3.1 h3
 have hXO := hX
 obtain ⟨v, xs, g, rfl, hO, hxs⟩ := hX
 obtain ⟨aV, cV, rfl, -, -⟩ := hO.at
 obtain ⟨aa, ca, rfl, hca, hpa⟩ := id hA
 obtain ⟨a1, c1, rfl, -⟩ := id h1
 obtain ⟨a2, c2, rfl, -⟩ := id h2
 obtain ⟨a3, c3, rfl, hc3, hp3⟩ := id h3
 refine Ct.enter Tryz.func21 rfl Tryz.ntmps21 rfl fun w0 a S => ?_
 revert a; refine go 7 ?_; intro Z hZ Z hZ a S
 (refine wc0 S r1 ?_; clear S a; intro v9 a w hv9 S; subst hv9)
 revert a; refine go 2 ?_; intro a S
 refine wgd S ?_ ?_
 ·(clear S; intro h S)
  revert a; refine go 2 ?_; intro a S
  (refine wc0 S r2 ?_; clear S a; intro v9 a w hv9 S; subst hv9)
  revert a; refine go 4 ?_; intro a S
  refine wgd S ?_ ?_
  ·(clear S; intro h S)
   revert a; refine go 2 ?_; intro a S
   (refine wc0 S r3 ?_; clear S a; intro v9 a w hv9 S; subst hv9)
   revert a; revert Z; refine go 5 ?_; intro a S
   refine q00 S rfl ?_ ?_ <;> intro h
   ·revert a; refine go 4 ?_; intro a S
    refine wp_ret ?_
    (first | (obtain ⟨F9, hF9, hT9, S9⟩ := qsg hOk hOw hOg S; replace S := qbd S9) | (replace S := qbd S) | (replace S := S))
    refine q08 S (q0c Tryz.results21 (RV.tmp S rfl)) ?_
    exact qc4
   revert a; revert Z; refine go 3 ?_; intro Z hZ a S
   (refine wp_seq_k ?_; intro Z hZ)
   (replace S := u5z S)
   revert a; revert Z; refine go 11 ?_; intro a S
   refine q00 S rfl ?_ ?_ <;> intro h
   ·revert a; refine go 4 ?_; intro a S
    refine wp_ret ?_
    (first | (obtain ⟨F9, hF9, hT9, S9⟩ := qsg hOk hOw hOg S; replace S := qbd S9) | (replace S := qbd S) | (replace S := S))
    refine q08 S (q0c Tryz.results21 (RV.tmp S rfl)) ?_
    exact qc4
   revert a; revert Z; refine go 2 ?_; intro a S
   (refine wp_seq_k ?_; intro Z hZ)
   (replace S := qbd S; have hnd0 := qev S; have hle0 := q2h (G1 := []) S; obtain ⟨v8, hXF⟩ := hXO.frz hnd0 hle0 (by omega))
   revert a; refine go 3 ?_; intro a S
   (refine q02 (Gs := [(bx, .cells ⟨[.slice aa aggs.length ca, .slice aV X.length cV]⟩ 61 (0, 0)) :: g]) (Gr := []) S rfl rfl rfl rfl rfl rfl (qdg (Gs := []) (u3a F _ bx _ v8 X hXF (by omega) key _ (h1.mono hle0))) rfl (by simp) ?_; clear S a; intro u9 G9 a w hv9 S; obtain ⟨G8, rfl, g6, xs6, rfl, hO6, hL6⟩ := hv9; replace S := u5z S; replace S : St _ _ _ _ _ F [g6, [(bx, _)], g] _ _ := St.permI S 3 rfl [2, 0, 1] (by decide); have hle3 := q2h (G1 := []) S; replace S := St.freeze (G1 := []) S; (simp only [qaG] at S hle3); have hlW : (ofW X key).length ≤ X.length := List.length_filter_le _ _; have hW3 := LiC.lim (F := F) hO6 (qo1 (F2 := F) hL6) rfl hle3 (by omega); have hWlen : ∀ x ∈ ofW X key, x.args.len = aggs.length := (fun x hx => hlen x (q63 hx)); generalize hWe : ofW X key = W at hW3 hlW hWlen; generalize F.add g6 = F3 at S hle3 hW3; obtain ⟨aW, cW, rfl, hcW, hpW⟩ := hW3)
   revert a; revert Z; refine go 9 ?_; intro Z hZ a S
   refine q04 (fun m a w' => ∃ (i : Nat), m = W.length - i ∧ i ≤ W.length ∧ (∀ x ∈ W.take i, ¬ q15 x.way way = true) ∧ St 117 [(0, ptr bx), (1, .slice a1 key.len c1), (2, .slice a2 way.len c2), (3, .slice a3 args.len c3), (9, .slice aW W.length cW), (10, .int .i64 (i : Int))] w0 F (keys [(bx, .cells ⟨[.slice aa aggs.length ca, .slice aV X.length cV]⟩ 61 (0, 0)) :: g]) F3 [[(bx, .cells ⟨[.slice aa aggs.length ca, .slice aV X.length cV]⟩ 61 (0, 0))], g] a w') ?_ ?_
   ·(refine ⟨W.length, 0, by omega, Nat.zero_le _, (fun x h => by simp at h), ?_⟩; refine S.keep ?_; exact zk)
   (clear S; rintro m a w ⟨i, rfl, hi, hnn, S⟩)
   revert a; refine go 8 ?_; intro Z hZ a S
   refine q00 S rfl ?_ ?_ <;> intro h
   ·revert a; revert Z; refine go 4 ?_; intro Z hZ a S
    (refine wp_seq_k ?_; intro Z hZ)
    (obtain ⟨b8, o8, hao, x, cs1, hx, hcc, hR⟩ := LiM.pos hpW (k := i) (by omega); obtain ⟨aK, cK, aY, cY, aZ, cZ, rfl, hT1, hT2, hT3⟩ := q5t hR; rw [hao] at S)
    revert a; refine go 5 ?_; intro a S
    (refine wv S (q05 S rfl rfl (hcc 1 _ rfl)) ?_; clear S a; intro a S)
    revert a; refine go 1 ?_; intro a S
    (refine wc0 S (q25 (q4z x.way.size) F3 x.way way _ _ (Nat.le_refl _) (hT2.mono hle3) (h2.mono hle3)) ?_; clear S a; intro v9 a w hv9 S; subst hv9)
    revert a; revert Z; refine go 2 ?_; intro a S
    refine q00 S rfl ?_ ?_ <;> intro h
    ·revert a; refine go 4 ?_; intro a S
     refine wp_ret ?_
     (first | (obtain ⟨F9, hF9, hT9, S9⟩ := qsg hOk hOw hOg S; replace S := qbd S9) | (replace S := qbd S) | (replace S := S))
     refine q08 S (q0c Tryz.results21 (RV.tmp S rfl)) ?_
     exact qc4
    revert a; revert Z; refine go 7 ?_; intro a S
    change ∃ m', _ ∧ _
    (rw [← hao] at S; have hn2 := qpz (p := fun y => q15 y.way way) hx hnn (by rw [(by assumption : q15 x.way way = false)]; decide); refine ⟨W.length - (i + 1), by omega, i + 1, rfl, by omega, hn2, ?_⟩; (refine S.keep ?_; exact zk))
   (refine wp_exit ?_; conv => whnf)
   clear hZ Z
   revert a; revert Z; refine go 2 ?_; intro Z hZ a S
   (refine wp_seq_k ?_; intro Z hZ)
   (rw [List.take_of_length_le (by omega)] at hnn)
   revert a; revert Z; refine go 5 ?_; intro a S
   refine q04 (fun m a w' => ∃ (i : Nat), m = aggs.length - i ∧ i ≤ aggs.length ∧ (∀ j, j < i → ¬ tyR aggs args W j = true) ∧ St 117 [(0, ptr bx), (1, .slice a1 key.len c1), (2, .slice a2 way.len c2), (3, .slice a3 args.len c3), (9, .slice aW W.length cW), (11, .int .i64 (i : Int))] w0 F (keys [(bx, .cells ⟨[.slice aa aggs.length ca, .slice aV X.length cV]⟩ 61 (0, 0)) :: g]) F3 [[(bx, .cells ⟨[.slice aa aggs.length ca, .slice aV X.length cV]⟩ 61 (0, 0))], g] a w') ?_ ?_
   ·(refine ⟨aggs.length, 0, by omega, Nat.zero_le _, (fun j h => absurd h (Nat.not_lt_zero _)), ?_⟩; refine S.keep ?_; exact zk)
   (clear S; rintro m a w ⟨i, rfl, hi, hall, S⟩)
   revert a; refine go 11 ?_; intro Z hZ a S
   refine q00 S rfl ?_ ?_ <;> intro h
   ·revert a; revert Z; refine go 5 ?_; intro Z hZ Z hZ a S
    (refine wp_seq_k ?_; intro Z hZ)
    (obtain ⟨bA, oA, haA, s, csA, hsx, hccA, hRs⟩ := LiM.pos hpa (k := i) (by omega); obtain rfl : csA = _ := hRs; have hcA : Cel F3 bA (oA + i * 1) (.string (bs s)) := Cel.mono hle3 (hccA 0 _ rfl); rw [haA] at S; have hi9 : i < aggs.length := (by omega))
    revert a; refine go 7 ?_; intro a S
    (refine wv S (q05 S rfl rfl hcA) ?_; clear S a; intro a S)
    revert a; revert Z; refine go 3 ?_; intro a S
    refine q00 S rfl ?_ ?_ <;> intro h
    ·(refine wp_exit ?_; conv => whnf)
     clear hZ Z
     revert a; revert Z; refine go 6 ?_; intro a S
     change ∃ m', _ ∧ _
     exact qq6
    revert a; revert Z; refine go 2 ?_; intro a S
    (refine wp_seq_k ?_; intro Z hZ)
    (have hae : args.len = aggs.length := (by omega); obtain ⟨bz, oz, haz, hcz⟩ := u1m hle3 hp3 (i := i) (by omega); rw [haz] at S; obtain ⟨bw, ow, y1, y2, cq, bq, oq, kz, hw0⟩ := u2f hle3 hpW hi9 hWlen)
    (refine q0k [0, 1, 2, 3, 4, 5, 6, 7, 8, 9, 10, 11, 12, 13, 14, 15, 16, 17, 18, 19, 20, 21, 22, 23, 24, 25, 26, 27, 28, 29, 30, 31, 32, 33, 34] [4, 11, 22, 26, 31] [] (.one 0 (.one 1 (.one 2 (.one 3 (.one 4 (.one 5 (.one 6 (.one 7 (.one 8 (.one 9 (.one 10 (.one 11 (.one 12 (.one 13 (.one 14 (.one 15 (.one 16 (.one 17 (.one 18 (.one 19 (.one 20 (.one 21 (.one 22 (.one 23 (.one 24 (.one 25 (.one 26 (.one 27 (.one 28 (.one 29 (.one 30 (.one 31 (.one 32 (.one 33 (.one 34 .nil))))))))))))))))))))))))))))))))))) [] S mixed (by kernel_rfl) ?_; clear S; intro w S)
    revert a; refine go 4 ?_; intro a S
    (refine wlF S rfl (fun w' S => q05 S rfl rfl hcz) ?_; clear S a; intro a S)
    revert a; refine go 2 ?_; intro a S
    refine St.pt 72 true S rfl ?_ ?_ <;> clear S <;> intro h S
    ·revert a; refine go 4 ?_; intro a S
     (refine wlF S rfl (fun w' S => q05 S rfl rfl hcz) ?_; clear S a; intro a S)
     revert a; refine go 3 ?_; intro a S
     refine St.pt 80 false S rfl ?_ ?_ <;> clear S <;> intro h S
     ·revert a; refine go 4 ?_; intro a S
      refine St.pt 84 true S rfl ?_ ?_ <;> clear S <;> intro h S
      ·revert a; refine go 1 ?_; intro a S
       (rw [(hw0 (by omega)).1] at S)
       revert a; refine go 2 ?_; intro a S
       (refine wlF S rfl (fun w' S => q05 S rfl rfl ((hw0 (by omega)).2.1 2 _ rfl)) ?_; clear S a; intro a S)
       revert a; refine go 3 ?_; intro a S
       (refine wlF S rfl (fun w' S => q05 S rfl rfl (hw0 (by omega)).2.2.1) ?_; clear S a; intro a S)
       revert a; refine go 4 ?_; intro a S
       (refine wlF S rfl (fun w' S => q05 S rfl rfl hcz) ?_; clear S a; intro a S)
       revert a; revert Z; refine go 5 ?_; intro a S
       refine q00 S rfl ?_ ?_ <;> intro h
       ·revert a; refine go 4 ?_; intro a S
        refine wp_ret ?_
        (first | (obtain ⟨F9, hF9, hT9, S9⟩ := qsg hOk hOw hOg S; replace S := qbd S9) | (replace S := qbd S) | (replace S := S))
        refine q08 S (q0c Tryz.results21 (RV.tmp S rfl)) ?_
        exact qc4
       revert a; revert Z; refine go 7 ?_; intro a S
       change ∃ m', _ ∧ _
       exact qq6
      revert a; revert Z; refine go 18 ?_; intro a S
      refine q03 S rfl ?_
      revert a; revert Z; refine go 7 ?_; intro a S
      change ∃ m', _ ∧ _
      exact qq6
     revert a; revert Z; refine go 22 ?_; intro a S
     refine q0h S rfl ?_
     revert a; refine go 4 ?_; intro a S
     refine wp_ret ?_
     (first | (obtain ⟨F9, hF9, hT9, S9⟩ := qsg hOk hOw hOg S; replace S := qbd S9) | (replace S := qbd S) | (replace S := S))
     refine q08 S (q0c Tryz.results21 (RV.tmp S rfl)) ?_
     exact qc4
    revert a; refine go 12 ?_; intro a S
    refine St.pt 84 true S rfl ?_ ?_ <;> clear S <;> intro h S
    ·revert a; refine go 1 ?_; intro a S
     (rw [(hw0 (by omega)).1] at S)
     revert a; refine go 2 ?_; intro a S
     (refine wlF S rfl (fun w' S => q05 S rfl rfl ((hw0 (by omega)).2.1 2 _ rfl)) ?_; clear S a; intro a S)
     revert a; refine go 3 ?_; intro a S
     (refine wlF S rfl (fun w' S => q05 S rfl rfl (hw0 (by omega)).2.2.1) ?_; clear S a; intro a S)
     revert a; refine go 4 ?_; intro a S
     (refine wlF S rfl (fun w' S => q05 S rfl rfl hcz) ?_; clear S a; intro a S)
     revert a; revert Z; refine go 5 ?_; intro a S
     refine q00 S rfl ?_ ?_ <;> intro h
     ·revert a; refine go 4 ?_; intro a S
      refine wp_ret ?_
      (first | (obtain ⟨F9, hF9, hT9, S9⟩ := qsg hOk hOw hOg S; replace S := qbd S9) | (replace S := qbd S) | (replace S := S))
      refine q08 S (q0c Tryz.results21 (RV.tmp S rfl)) ?_
      exact qc4
     revert a; revert Z; refine go 7 ?_; intro a S
     change ∃ m', _ ∧ _
     exact qq6
    revert a; revert Z; refine go 18 ?_; intro a S
    refine q03 S rfl ?_
    revert a; revert Z; refine go 7 ?_; intro a S
    change ∃ m', _ ∧ _
    exact qq6
   (refine wp_exit ?_; conv => whnf)
   clear hZ Z
   (refine hZ _ _ ?_; clear hZ Z)
   (refine wp_seq_k ?_; intro Z hZ)
   (have hown := hO; obtain rfl : i = aggs.length := (by omega))
   (refine q0k [0, 1, 2, 3, 4, 5, 7, 9, 11, 14, 15] [4] [16] (.one 0 (.one 1 (.one 2 (.one 3 (.one 4 (.one 5 (.one 7 (.one 9 (.one 6 (.one 8 (.one 10 (.one 11 (.one 12 (.one 13 (.one 14 (.one 15 (.one 16 .nil))))))))))))))))) [bx] S mixed (by kernel_rfl) ?_; clear S; intro w S)
   revert a; refine go 9 ?_; intro a S
   (refine q17 S rfl rfl rfl rfl rfl rfl (q68 (key.size + 1) F3 key _ (Nat.lt_succ_self _) (by omega) (h1.mono hle3)) rfl ?_; clear S a; intro u1 G9 a w hv9 S; obtain ⟨gk, rfl, hOk⟩ := hv9; (simp only [List.singleton_append] at S); obtain ⟨k1, k2, rfl, -⟩ := id hOk.r)
   revert a; refine go 2 ?_; intro a S
   (refine q17 S rfl rfl rfl rfl rfl rfl (q68 (way.size + 1) F3 way _ (Nat.lt_succ_self _) (by omega) (h2.mono hle3)) rfl ?_; clear S a; intro u1 G9 a w hv9 S; obtain ⟨gw, rfl, hOw⟩ := hv9; (simp only [List.singleton_append] at S); obtain ⟨k3, k4, rfl, -⟩ := id hOw.r)
   revert a; refine go 2 ?_; intro a S
   (refine q17 S rfl rfl rfl rfl rfl rfl (q68 (args.size + 1) F3 args _ (Nat.lt_succ_self _) (by omega) (h3.mono hle3)) rfl ?_; clear S a; intro u1 G9 a w hv9 S; obtain ⟨ga, rfl, hOg⟩ := hv9; (simp only [List.singleton_append] at S); obtain ⟨k5, k6, rfl, -⟩ := id hOg.r)
   revert a; refine go 3 ?_; intro a S
   (refine q0d S rfl rfl rfl rfl rfl rfl (by rfl) (by simp [Value.cells, splice, splice]) rfl (by rfl) (by rfl) ?_; clear S a; intro b113 a w hown2 S)
   revert a; refine go 2 ?_; intro a S
   (refine q4o S rfl rfl rfl rfl rfl rfl hown hown2 (by rfl) (by simp [Value.cells, Value.oneCell', splice, splice]) (by omega) (by omega) ?_; clear hown S a; intro v g a w hown S)
   revert a; refine go 4 ?_; intro a S
   (refine q0e S rfl rfl rfl rfl rfl hown.oneCell (by first | (simp; done) | exact Nat.le_of_ble_eq_true rfl) ?_; clear S; intro w S)
   refine wpList_nil ?_
   refine q5g (fun h => absurd h (by decide)) ?_
   revert a; revert Z; refine go 5 ?_; intro a S
   refine wp_ret ?_
   (first | (obtain ⟨F9, hF9, hT9, S9⟩ := qsg hOk hOw hOg S; replace S := qbd S9) | (replace S := qbd S) | (replace S := S))
   refine q08 S (q0c Tryz.results21 (RV.tmp S rfl)) ?_
   exact qc4
  (clear S a; intro h a S)
  revert a; revert Z; refine go 5 ?_; intro a S
  refine q0h S rfl ?_
  revert a; refine go 4 ?_; intro a S
  refine wp_ret ?_
  (first | (obtain ⟨F9, hF9, hT9, S9⟩ := qsg hOk hOw hOg S; replace S := qbd S9) | (replace S := qbd S) | (replace S := S))
  refine q08 S (q0c Tryz.results21 (RV.tmp S rfl)) ?_
  exact qc4
 (clear S a; intro h a S)
 revert a; revert Z; refine go 10 ?_; intro a S
 refine q0h S rfl ?_
 revert a; refine go 4 ?_; intro a S
 refine wp_ret ?_
 (first | (obtain ⟨F9, hF9, hT9, S9⟩ := qsg hOk hOw hOg S; replace S := qbd S9) | (replace S := qbd S) | (replace S := S))
 refine q08 S (q0c Tryz.results21 (RV.tmp S rfl)) ?_
 exact qc4
section
variable {P : Program} {F : q01} {f : FuncId} {args : List Value}
theorem qyk {G G2 : List Grp} {Q : q01 → List Grp → Value → Prop} (h : Ct P f args F G Q) (hp : G.flatten.Perm G2.flatten) : Ct P f args F G2 Q := by
 unfold Ct at h ⊢
 intro w hw
 have hk : ∀ b, b ∈ keys G ↔ b ∈ keys G2 := fun b => (hp.map _).mem_iff
 refine (h w ⟨hw.frz, fun p hq => hw.own p (hp.mem_iff.1 hq), (hp.map _).nodup_iff.2 hw.nd⟩).mono fun _ _ ⟨v, F', G', h1, h2, h3⟩ => ⟨v, F', G', h1, ?_, h3⟩
 exact ⟨h2.os, h2.tape, h2.output, h2.size, fun b hb hn => h2.old b hb (fun h9 => hn ((hk b).1 h9)), h2.frz, h2.ext, fun b o hb => (h2.fresh b o hb).imp id (fun h9 => h9.imp id (hk b).1), fun p hq => ⟨(h2.own p hq).1, (h2.own p hq).2.1, (h2.own p hq).2.2.imp id (hk p.1).1⟩, h2.nd⟩
theorem u3b {G : List Grp} {Q Q' : q01 → List Grp → Value → Prop} (h : Ct P f args F G Q) (k : ∀ F' G' u, Q F' G' u → ∃ Gm G'' : List Grp, G'.flatten.Perm Gm.flatten ∧ G''.flatten.Sublist Gm.flatten ∧ Q' F' G'' u) : Ct P f args F G Q' := by
 unfold Ct at h ⊢
 exact fun w hw => (h w hw).mono fun _ _ ⟨v, F', G', h1, h2, h3⟩ => by
  obtain ⟨Gm, G'', h4, h5, h6⟩ := k F' G' v h3
  exact ⟨v, F', G'', h1, (h2.perm h4).sub h5, h6⟩
theorem u1b {w : World} {g : Grp} {Gs : List Grp} (hw : At w F (g :: Gs)) : (∀ b o, F b = some o → F.add g b = some o) ∧ (g.map (·.1)).Nodup := by
 have hnd := hw.nd
 rw [q3e, List.nodup_append] at hnd
 refine ⟨fun b o h => ?_, hnd.1⟩
 rw [q01.add_none (fun hm => ?_)]
 ·exact h
 ·obtain ⟨q, hq, hq2⟩ := List.mem_map.1 hm
  have := (hw.own q (by rw [qaF]; exact List.mem_append_left _ hq)).2
  rw [hq2, h] at this; cases this
theorem q7b {g : Grp} {Gs : List Grp} {Post : List Grp → Value → Prop} (C : (∀ b o, F b = some o → F.add g b = some o) → (g.map (·.1)).Nodup → Ct P f args (F.add g) Gs (fun _ G' v => Post G' v)) : Ct P f args F (g :: Gs) (fun _ G'' v => ∃ G', G'' = g :: G' ∧ Post G' v) := by
 have k : ∀ w, At w F (g :: Gs) → Ct P f args F (g :: Gs) (fun _ G'' v => ∃ G', G'' = g :: G' ∧ Post G' v) := fun w hw => qdg (C (u1b hw).1 (u1b hw).2)
 unfold Ct at k ⊢
 exact fun w hw => k w hw w hw
end
section
variable {w0 : World} {F0 : q01} {K0 : List Nat} {w : World} {F F2 : q01} {g : Grp} {G : List Grp}
theorem Tr.thaw (h : Tr w0 F0 K0 w F2 G) (hF0 : ∀ b o, F0 b = some o → F b = some o) (hle : ∀ b o, F b = some o → F2 b = some o) (hn : (g.map (·.1)).Nodup) (hg : ∀ p ∈ g, F2 p.1 = some p.2 ∧ F p.1 = none) : Tr w0 F0 K0 w F (g :: G) := by
 refine ⟨h.os, h.tape, h.output, h.size, h.old, fun b o hb => h.frz b o (hle b o hb), hF0, fun b o hb => h.fresh b o (hle b o hb), fun p hp => ?_, ?_⟩
 ·rw [qaF] at hp
  rcases List.mem_append.1 hp with hp | hp
  ·obtain ⟨h1, h2⟩ := hg p hp
   refine ⟨h.frz _ _ h1, h2, ?_⟩
   rcases h.fresh _ _ h1 with h3 | h3
   ·rw [hF0 _ _ h3] at h2; cases h2
   ·exact h3
  ·obtain ⟨h1, h2, h3⟩ := h.own p hp
   refine ⟨h1, ?_, h3⟩
   cases hFp : F p.1 with
   | none => rfl
   | some o => rw [hle _ _ hFp] at h2; cases h2
 ·rw [q3e]
  refine List.nodup_append.2 ⟨hn, h.nd, fun x hx y hy e => ?_⟩
  subst e
  obtain ⟨p, hp, rfl⟩ := List.mem_map.1 hx
  obtain ⟨q, hq, hq2⟩ := List.mem_map.1 hy
  have h1 := (hg p hp).1
  have h2 := (h.own q hq).2.1
  rw [hq2, h1] at h2; cases h2
end
section
variable {n : Sz} {L : List (Nat × Value)} {w0 : World} {F0 : q01} {K0 : List Nat} {F F2 : q01} {G : List Grp} {g : Grp} {a : Act} {w : World}
theorem St.thaw (S : St n L w0 F0 K0 F2 G a w) (hF0 : ∀ b o, F0 b = some o → F b = some o) (hle : ∀ b o, F b = some o → F2 b = some o) (hn : (g.map (·.1)).Nodup) (hg : ∀ p ∈ g, F2 p.1 = some p.2 ∧ F p.1 = none) : St n L w0 F0 K0 F (g :: G) a w := ⟨S.fr, Tr.thaw S.tr hF0 hle hn hg⟩
theorem St.chill {R : List Grp} (S : St n L w0 F0 K0 F (g :: R) a w) : ∃ F2, (∀ b o, F b = some o → F2 b = some o) ∧ (g.map (·.1)).Nodup ∧ (∀ p ∈ g, F2 p.1 = some p.2 ∧ F p.1 = none) ∧ F2 = F.add g ∧ St n L w0 F0 K0 F2 R a w := by
 have hle := q2h (G1 := []) S
 have S' := St.freeze (G1 := []) S
 simp only [qaG] at S' hle
 have hnd := S.tr.nd
 rw [q3e, List.nodup_append] at hnd
 exact ⟨F.add g, hle, hnd.1, fun p hp => ⟨q01.add_new hp hnd.1, (S.tr.own p (by rw [qaF]; exact List.mem_append_left _ hp)).2.1⟩, rfl, S'⟩
end
theorem pm3 {α : Type} {A B C D : List α} : (A ++ (B ++ (C ++ D))).Perm (B ++ (C ++ (A ++ D))) := by
 have : (A ++ (B ++ C)).Perm ((B ++ C) ++ A) := List.perm_append_comm
 simpa only [qaB] using List.Perm.append_right D this
theorem q32 {F : q01} {gl g : Grp} (hs : ∀ p ∈ g, p ∈ gl) (hn : (gl.map (·.1)).Nodup) {v : Value} {l : Vf} (h : OwS g v l) : TrS (F.add gl) 4 VhR v l := TrS.mono (fun b o e => q01.add_new (p := (b, o)) (hs _ (q5e e)) hn) h.r
theorem qg0 : OwS [] (.slice none 0 0) .nil := ⟨⟨none, 0, rfl, ⟨Nat.le_refl _, Nat.zero_le _⟩, fun h => absurd h (Nat.lt_irrefl _)⟩, 0, none, 0, rfl⟩
section
variable {P : Program} {Q : Exit → Act → World → Prop} {n : Sz} {L : List (Nat × Value)} {w0 : World} {F0 : q01} {K0 : List Nat} {F : q01} {G : List Grp} {a : Act} {w : World}
variable {ops : Array Oper} {rest : List Oper} {o : Oper} {d : Nat} {x : Operand} {xs : Array Operand} {ts : Array TypeId} {f : FuncId} {fi ca vs args : List Value}
theorem q3m {gl : Grp} {Gr : List Grp} {r : Value} [hf : q0b P f] (S : St n L w0 F0 K0 F G a w) (hg : o.guard = none) (hd : o.dst = some d) (hn : Nat.blt d n.sz = true)
  (ho : o.op = .call { callee := .value x, args := xs, argTypes := ts }) (hx : ev L x = some (.func (.func f) ⟨fi⟩ ⟨ca⟩)) (hxs : evs L xs.toList = some vs) (C : (∀ b o, F b = some o → F.add gl b = some o) → (gl.map (·.1)).Nodup → Ct P f args (F.add gl) [] (fun _ _ u => u = r)) (ha : fi ++ vs ++ ca = args) (hp : G.flatten.Perm (gl :: Gr).flatten)
  (k : ∀ a' w', St n ((d, r) :: L) w0 F0 K0 F G a' w' → wpList P ops Q rest a' w') : wpList P ops Q (o :: rest) a w := by
 refine q02 (Gs := [gl]) (Gr := Gr) (Post := fun G' u => (∃ R, G' = gl :: R) ∧ u = r) S hg hd hn ho hx hxs ((q7b fun h1 h2 => (C h1 h2)).mono fun _ _ _ ⟨R, h1, h2⟩ => ⟨⟨R, h1⟩, h2⟩) ha (hp.trans (by simp)) fun v G' a' w' ⟨⟨R, h1⟩, h2⟩ S' => ?_
 subst h1; subst h2
 refine k a' w' ⟨S'.fr, (S'.tr.sub ?_ : Tr _ _ _ _ _ (gl :: Gr)).perm hp.symm⟩
 simp only [List.cons_append, qaF, List.flatten_append]
 exact List.Sublist.append_left (List.sublist_append_right _ _) _
theorem qp4 {Gr : List Grp} {gl gg : Grp} {bg : Nat} {av r : Value} {X X' : GA} [hf : q0b P f] (S : St n L w0 F0 K0 F G a w) (hg : o.guard = none) (hd : o.dst = some d) (hn : Nat.blt d n.sz = true)
  (ho : o.op = .call { callee := .value x, args := xs, argTypes := ts }) (hx : ev L x = some (.func (.func f) ⟨fi⟩ ⟨ca⟩)) (hxs : evs L xs.toList = some vs) (hO : GO F bg av X gg) (C : (∀ b o, F b = some o → F.add gl b = some o) → (gl.map (·.1)).Nodup → ∀ gv, GsS bg av gv gg → GvR (F.add gl) X gv → Ct P f args (F.add gl) [gg] (fun _ G' u => u = r ∧ GsN bg av X X' gv G')) (ha : fi ++ vs ++ ca = args) (hp : G.flatten.Perm (gl :: gg :: Gr).flatten)
  (k : ∀ gg' F' a' w', GO F' bg av X' gg' → (∀ b o, F b = some o → F' b = some o) → St n ((d, r) :: L) w0 F0 K0 F' (gg' :: gl :: Gr) a' w' → wpList P ops Q rest a' w') : wpList P ops Q (o :: rest) a w := by
 obtain ⟨gv, hG, hX⟩ := hO
 refine q02 (Gs := [gl, gg]) (Gr := Gr) S hg hd hn ho hx hxs (q7b fun hle hn => C hle hn gv hG (hX.mono hle)) ha (hp.trans (by simp)) fun v G' a' w' hv S' => ?_
 obtain ⟨G8, rfl, rfl, gg', gn, gv', rfl, h1, h2⟩ := hv
 have S2 : St n ((d, v) :: L) w0 F0 K0 F ([gg', gn] ++ (gl :: Gr)) a' w' := ⟨S'.fr, S'.tr.perm (by
  simp only [qaF, List.cons_append, qaG]
  rw [← qaB, ← qaB gg', ← qaB, ← qaB]
  refine List.Perm.append_right _ ?_
  rw [qaB]
  exact List.perm_append_comm)⟩
 obtain ⟨F', hF, hgn, S3⟩ := q78 S2
 exact k gg' F' a' w' ⟨gv', h1, h2 F' hgn (hX.mono hF)⟩ hF S3
theorem ql5 {gl : Grp} {Gr : List Grp} {l : List (List UInt8)} [hf : q0b P f] (S : St n L w0 F0 K0 F G a w) (hg : o.guard = none) (hd : o.dst = some d) (hn : Nat.blt d n.sz = true)
  (ho : o.op = .call { callee := .value x, args := xs, argTypes := ts }) (hx : ev L x = some (.func (.func f) ⟨fi⟩ ⟨ca⟩)) (hxs : evs L xs.toList = some vs) (C : (∀ b o, F b = some o → F.add gl b = some o) → (gl.map (·.1)).Nodup → Ct P f args (F.add gl) [] (fun _ G' u => u5g l G' u)) (h0 : q7y l = 0) (ha : fi ++ vs ++ ca = args) (hp : G.flatten.Perm (gl :: Gr).flatten)
  (k : ∀ bg av gg F' a' w', GO F' bg av [] gg → LiM F' 1 StR av l → (∀ b o, F b = some o → F' b = some o) → St n ((d, .tuple ⟨[.pointer (some ⟨bg, 0, none⟩), .int .i64 0]⟩) :: L) w0 F0 K0 F' (gg :: gl :: Gr) a' w' → wpList P ops Q rest a' w') : wpList P ops Q (o :: rest) a w := by
 refine q02 (Gs := [gl]) (Gr := Gr) S hg hd hn ho hx hxs (q7b C) ha (hp.trans (by simp)) fun v G' a' w' hv S' => ?_
 obtain ⟨G8, rfl, hv⟩ := hv
 rcases hv with ⟨h9, -⟩ | ⟨-, b, av, gg, ga, rfl, rfl, h1, h2⟩
 ·exact absurd h0 h9
 ·have S2 : St n ((d, .tuple ⟨[.pointer (some ⟨b, 0, none⟩), .int .i64 0]⟩) :: L) w0 F0 K0 F ([gg, ga] ++ (gl :: Gr)) a' w' := ⟨S'.fr, S'.tr.perm (by
   simp only [qaF, List.cons_append, qaG]
   rw [← qaB, ← qaB gg, ← qaB, ← qaB]
   refine List.Perm.append_right _ ?_
   rw [qaB]
   exact List.perm_append_comm)⟩
  obtain ⟨F', hF, hgn, S3⟩ := q78 S2
  exact k b av gg F' a' w' ⟨[], h1, trivial⟩ (h2.mono hgn) hF S3
theorem qoo {Gr : List Grp} {gg : Grp} {bg : Nat} {av : Value} {X : GA} {aggs : List (List UInt8)} {key : Vf} [hf : q0b P f] (S : St n L w0 F0 K0 F G a w) (hg : o.guard = none) (hd : o.dst = some d) (hn : Nat.blt d n.sz = true)
  (ho : o.op = .call { callee := .value x, args := xs, argTypes := ts }) (hx : ev L x = some (.func (.func f) ⟨fi⟩ ⟨ca⟩)) (hxs : evs L xs.toList = some vs) (hO : GO F bg av X gg) (C : ∀ gv, GsS bg av gv gg → GvR F X gv → Ct P f args F [gg] (fun _ G' u => qv2 aggs X key gg G' u)) (ha : fi ++ vs ++ ca = args) (hp : G.flatten.Perm (gg :: Gr).flatten)
  (k : ∀ v gO a' w', OwS gO v (qna aggs X key).2 → St n ((d, .tuple ⟨[v, .int .i64 (qna aggs X key).1]⟩) :: L) w0 F0 K0 F (gO :: gg :: Gr) a' w' → wpList P ops Q rest a' w') : wpList P ops Q (o :: rest) a w := by
 obtain ⟨gv, hG, hX⟩ := hO
 refine q02 (Gs := [gg]) (Gr := Gr) S hg hd hn ho hx hxs (C gv hG hX) ha (hp.trans (by simp)) fun v G' a' w' hv S' => ?_
 unfold qv2 at hv
 unfold qna at k
 cases hk : q13 key with
 | none =>
  rw [hk] at hv k
  obtain ⟨rfl, rfl⟩ := hv
  exact k _ [] a' w' qg0 S'.nilg
 | some t =>
  rw [hk] at hv k
  dsimp only at hv k
  cases he : alG X t with
  | none =>
   rw [he] at hv k
   obtain ⟨rfl, rfl⟩ := hv
   exact k _ [] a' w' qg0 S'.nilg
  | some e =>
   rw [he] at hv k
   dsimp only at hv k
   rcases hv with ⟨i, hi, h2, h3, rfl, rfl⟩ | ⟨h2, v, gO, rfl, rfl, h4⟩
   ·rw [qbr hi h2 h3] at k
    exact k _ [] a' w' qg0 S'.nilg
   ·rw [qpo h2] at k
    exact k v gO a' w' h4 ⟨S'.fr, S'.tr.perm (by
     simp only [qaF, List.cons_append, qaG]
     rw [← qaB, ← qaB]
     exact List.Perm.append_right _ List.perm_append_comm)⟩
theorem qkg {Gr : List Grp} {gg : Grp} {bg : Nat} {av : Value} {X : GA} {rows : List Vf} [hf : q0b P f] (S : St n L w0 F0 K0 F G a w) (hg : o.guard = none) (hd : o.dst = some d) (hn : Nat.blt d n.sz = true)
  (ho : o.op = .call { callee := .value x, args := xs, argTypes := ts }) (hx : ev L x = some (.func (.func f) ⟨fi⟩ ⟨ca⟩)) (hxs : evs L xs.toList = some vs) (hO : GO F bg av X gg) (C : ∀ gv, GsS bg av gv gg → GvR F X gv → Ct P f args F [gg] (fun _ G' u => ∃ G1, G' = gg :: G1 ∧ qra rows G1 u)) (ha : fi ++ vs ++ ca = args) (hp : G.flatten.Perm (gg :: Gr).flatten)
  (k : ∀ T g u a' w', (rfs T).Perm rows → (rfs T).Pairwise (fun x y => 0 ≤ cmpL y x) → u01 T → q0u 32 1 u T.length (q0n (rvs T)) g → St n ((d, u) :: L) w0 F0 K0 F (g :: rgs T :: gg :: Gr) a' w' → wpList P ops Q rest a' w') : wpList P ops Q (o :: rest) a w := by
 obtain ⟨gv, hG, hX⟩ := hO
 refine q02 (Gs := [gg]) (Gr := Gr) S hg hd hn ho hx hxs (C gv hG hX) ha (hp.trans (by simp)) fun v G' a' w' hv S' => ?_
 obtain ⟨G1, rfl, T, g, h1, h2, h3, h4, rfl⟩ := hv
 refine k T g v a' w' h1 h2 h3 h4 ⟨S'.fr, S'.tr.perm ?_⟩
 simp only [qaF, List.cons_append, qaG]
 exact pm3
theorem qk6 {Gr : List Grp} {gl gg : Grp} {bg : Nat} {av : Value} {X : GA} {kx : List UInt8} {e : En} [hf : q0b Tryz.prog f] (S : St n L w0 F0 K0 F G a w) (hg : o.guard = none) (hd : o.dst = some d) (hn : Nat.blt d n.sz = true)
  (ho : o.op = .call { callee := .value x, args := xs, argTypes := ts }) (hx : ev L x = some (.func (.func f) ⟨fi⟩ ⟨ca⟩)) (hxs : evs L xs.toList = some vs) (hO : GO F bg av X gg)
  (C : (∀ b o, F b = some o → F.add gl b = some o) → (gl.map (·.1)).Nodup → ∀ gv, GsS bg av gv gg → ∀ e' : Ev, alG gv kx = some e' → TrS (F.add gl) 4 VhR e'.kv e.key → Ct Tryz.prog f args (F.add gl) [gg] (fun _ G' u => u = .int .i64 e'.ws.length ∧ G' = [gg])) (ha : fi ++ vs ++ ca = args) (hp : G.flatten.Perm (gl :: gg :: Gr).flatten)
  (he : alG X kx = some e)
  (k : ∀ a' w', St n ((d, .int .i64 (e.ways.length : Int)) :: L) w0 F0 K0 F G a' w' → wpList Tryz.prog ops Q rest a' w') : wpList Tryz.prog ops Q (o :: rest) a w := by
 obtain ⟨gv, hG, hX⟩ := hO
 rcases hX.get kx with ⟨g1, -⟩ | ⟨e0, e', g1, g2, g3, g4⟩
 ·rw [he] at g1; cases g1
 ·rw [he] at g1
  cases g1
  refine q02 (Gs := [gl, gg]) (Gr := Gr) S hg hd hn ho hx hxs (q7b fun hle hn => C hle hn gv hG e' g2 (g3.mono hle)) ha (hp.trans (by simp)) fun v G' a' w' hv S' => ?_
  obtain ⟨G8, rfl, rfl, rfl⟩ := hv
  rw [← g4.len] at S'
  exact k a' w' ⟨S'.fr, S'.tr.perm (by simpa using hp.symm)⟩
end
theorem u11 (F : q01) (bx : Nat) (av : Value) (X : List WyD) (gx : Grp) (hX : XO F bx av X gx) (hav : av.oneCell' = true) (hl : X.length ≤ 10000) (key way : Vf) (v1 v2 : Value) (h1 : TrS F 4 VhR v1 key) (h2 : TrS F 4 VhR v2 way) (d1 : dpN key ≤ 900000000) (d2 : dpN way ≤ 900000000) :
  Ct Tryz.prog 22 [.pointer (some ⟨bx, 0, none⟩), v1, v2] F [gx] (fun _ G' u => u = .int .i64 (qgl X key way) ∧ ∃ gx', G' = [gx'] ∧ XO F bx av (delY X key way) gx') := by
 obtain ⟨v, xs, g, rfl, hO, hxs⟩ := hX
 refine u3b (qyk (G := g :: [[(bx, .cells ⟨[av, v]⟩ 61 (0, 0))]]) (q7b fun hle hn => qwr F (F.add g) hle bx av v hav X (LiC.lim hO (qo1 (F2 := F) hxs) rfl hle (by omega)) hl key way v1 v2 h1 h2 d1 d2) ?_) fun F' G' u ⟨G8, e, hd⟩ => ?_
 ·simp only [qaF, List.flatten_nil, qaE]
  exact List.perm_append_comm
 ·subst e
  obtain ⟨rfl, hd⟩ := hd
  rcases hd with ⟨hY, rfl⟩ | ⟨v', g', xs', rfl, hO', hL'⟩
  ·refine ⟨[(bx, .cells ⟨[av, v]⟩ 61 (0, 0)) :: g], _, ?_, List.Sublist.refl _, rfl, _, rfl, v, xs, g, rfl, by rw [hY]; exact hO, by rw [hY]; exact hxs⟩
   simp only [qaF, List.flatten_nil, qaE]
   exact List.perm_append_comm
  ·refine ⟨_, [(bx, .cells ⟨[av, v']⟩ 61 (0, 0)) :: g'], List.Perm.refl _, ?_, rfl, _, rfl, v', xs', g', rfl, hO', hL'⟩
   simp only [qaF, List.flatten_nil, qaE]
   exact List.sublist_append_right _ _
theorem p10 : (2 : Nat) ≤ 10 := by decide
theorem qms (c : UInt8) (r : List UInt8) : q14 (c :: r) = dv c * 10 ^ r.length + q14 r := by
 have := q4r [c] r
 rw [List.singleton_append] at this
 rw [this]; congr 1; simp [q14]
theorem qlj {l : List UInt8} (h : l.all isD = true) {j : Nat} (hj : j < l.length) : dig 10 (q14 l) j = dv (l.getD (l.length - 1 - j) 0) := by
 have h1 := qit h (e := l.length - j) (by omega)
 rw [show l.length - (l.length - j) = j by omega] at h1
 unfold dig
 rw [h1, show l.length - j = (l.length - 1 - j) + 1 by omega, q65 (by omega)]
 have := qh8 (q4v h (k := l.length - 1 - j) (by omega))
 omega
theorem qn4 {l : List UInt8} (h : l.all isD = true) {j : Nat} (hj : l.length ≤ j) : dig 10 (q14 l) j = 0 := q3u (q2o l h) hj p10
theorem qjk : ∀ (p q : List UInt8), p.length = q.length → p.all isD = true → q.all isD = true → (Op.bytesLess p q = true ↔ q14 p < q14 q)
 | [], [], _, _, _ => by simp [Op.bytesLess]
 | [], _ :: _, h, _, _ => by simp at h
 | _ :: _, [], h, _, _ => by simp at h
 | c :: p, d :: q, h, hp, hq => by
  rw [List.all_cons, Bool.and_eq_true] at hp hq
  have hl : p.length = q.length := by simpa using h
  have ih := qjk p q hl hp.2 hq.2
  have h1 := q2o p hp.2
  have h2 := q2o q hq.2
  have hc := (q39 c).1 hp.1
  have hd := (q39 d).1 hq.1
  have e1 : dv c = c.toNat - 48 := rfl
  have e2 : dv d = d.toNat - 48 := rfl
  rw [qms, qms, hl]
  rw [hl] at h1
  have hP : 0 < 10 ^ q.length := Nat.pow_pos (by decide)
  generalize 10 ^ q.length = P at *
  simp only [Op.bytesLess, Bool.or_eq_true, Bool.and_eq_true, decide_eq_true_eq, beq_iff_eq, ih]
  rw [show (c < d) ↔ c.toNat < d.toNat from UInt8.lt_iff_toNat_lt]
  have hcd : c = d ↔ dv c = dv d := ⟨fun h => by rw [h], fun h => UInt8.toNat_inj.1 (by omega)⟩
  rw [hcd]
  rcases Nat.lt_trichotomy (dv c) (dv d) with h3 | h3 | h3
  ·have h4 : (dv c + 1) * P ≤ dv d * P := Nat.mul_le_mul_right _ h3
   rw [Nat.add_mul, Nat.one_mul] at h4
   constructor
   ·intro _; omega
   ·intro _; left; omega
  ·rw [h3]
   constructor
   ·rintro (h | h)
    ·omega
    ·omega
   ·intro h; right; exact ⟨rfl, by omega⟩
  ·have h4 : (dv d + 1) * P ≤ dv c * P := Nat.mul_le_mul_right _ h3
   rw [Nat.add_mul, Nat.one_mul] at h4
   constructor
   ·rintro (h | h) <;> omega
   ·intro h; omega
theorem q6j {A B : Nat} (h : A ≤ B) : (Lib.decDigits A).length ≤ (Lib.decDigits B).length := by
 have h0 := q4c B
 exact (q4f (by omega)).2 (Nat.lt_of_le_of_lt h ((q4f (by omega)).1 (Nat.le_refl _)))
theorem qkr {A B : Nat} (h : (Lib.decDigits A).length ≠ (Lib.decDigits B).length) : decide ((Lib.decDigits B).length < (Lib.decDigits A).length) = decide (B < A) := by
 rw [decide_eq_decide]
 constructor
 ·intro h1
  exact Classical.byContradiction fun h2 => absurd (q6j (show A ≤ B by omega)) (by omega)
 ·intro h1
  have := q6j (Nat.le_of_lt h1)
  omega
theorem qgy {A B : Nat} (h : (Lib.decDigits A).length = (Lib.decDigits B).length) : Op.bytesLess (Lib.decDigits B) (Lib.decDigits A) = decide (B < A) := by
 have := qjk (Lib.decDigits B) (Lib.decDigits A) h.symm (q35 B) (q35 A)
 rw [q21, q21] at this
 rw [Bool.eq_iff_iff, decide_eq_true_eq]; exact this
theorem u41 {A B : Nat} (h : Lib.decDigits A = Lib.decDigits B) : A = B := by rw [← q21 A, h, q21]
def rdg (S k : Nat) : List UInt8 := (List.range k).map fun j => UInt8.ofNat (48 + dig 10 S j)
theorem q87 (S k : Nat) : (rdg S k).length = k := by unfold rdg; rw [List.length_map, List.length_range]
theorem qtw (S k : Nat) : rdg S (k + 1) = rdg S k ++ [UInt8.ofNat (48 + dig 10 S k)] := by unfold rdg; rw [List.range_succ, List.map_append]; rfl
theorem qfg {S k j : Nat} (h : j < k) : (rdg S k)[j]? = some (UInt8.ofNat (48 + dig 10 S j)) := by unfold rdg; rw [List.getElem?_map, List.getElem?_range h]; rfl
theorem qxu (S k : Nat) : rdg S (k + 1) = UInt8.ofNat (48 + dig 10 S 0) :: rdg (S / 10) k := by
 unfold rdg
 rw [List.range_succ_eq_map, List.map_cons, List.map_map]
 congr 1
 refine List.map_congr_left fun j _ => ?_
 show UInt8.ofNat (48 + dig 10 S (j + 1)) = UInt8.ofNat (48 + dig 10 (S / 10) j)
 unfold dig
 rw [Nat.pow_succ, Nat.mul_comm, ← Nat.div_div_eq_div_mul]
theorem qh6 : ∀ (n S : Nat), S < 10 ^ (n + 1) → (n = 0 ∨ dig 10 S n ≠ 0) → (rdg S (n + 1)).reverse = Lib.decDigits S
 | 0, S, h, _ => by
  have h' : S < 10 := by simpa using h
  rw [q1t h']
  unfold rdg dig
  simp [Nat.mod_eq_of_lt h']
 | n + 1, S, h, h2 => by
  have hd : dig 10 S (n + 1) ≠ 0 := h2.resolve_left (Nat.succ_ne_zero n)
  have e1 : dig 10 S (n + 1) = dig 10 (S / 10) n := by unfold dig; rw [Nat.pow_succ, Nat.mul_comm, ← Nat.div_div_eq_div_mul]
  have hb : ¬ S < 10 := fun hs => by
   rw [e1, Nat.div_eq_of_lt hs] at hd
   exact hd (by unfold dig; simp)
  have h3 : S / 10 < 10 ^ (n + 1) := by rw [Nat.div_lt_iff_lt_mul (by decide), ← Nat.pow_succ]; exact h
  rw [qxu, List.reverse_cons, qh6 n (S / 10) h3 (.inr (by rw [← e1]; exact hd)), q4y hb]
  unfold dig
  simp
theorem qq7 {n S : Nat} (h : S < 10 ^ (n + 1)) (hd : dig 10 S n = 0) : S < 10 ^ n := qpy p10 h hd
theorem qel {S j : Nat} : (UInt8.ofNat (48 + dig 10 S j)).toNat = 48 + dig 10 S j := by
 have := q2z p10 S j
 rw [UInt8.toNat_ofNat']
 omega
theorem u1i {A B i : Nat} (hA : A < 10 ^ i) (hB : B < 10 ^ i) (h : cy 10 A B i = 0) : A + B < 10 ^ i := by
 unfold cy at h
 rw [Nat.mod_eq_of_lt hA, Nat.mod_eq_of_lt hB] at h
 have hp : 0 < 10 ^ i := Nat.pow_pos (by decide)
 rcases Nat.lt_or_ge (A + B) (10 ^ i) with h1 | h1
 ·exact h1
 ·have := Nat.div_pos h1 hp
  omega
theorem u30 {A B i : Nat} (hA : A < 10 ^ i) (hB : B < 10 ^ i) : cy 10 A B (i + 1) = 0 := by
 unfold cy
 have hp : 0 < 10 ^ i := Nat.pow_pos (by decide)
 have e : 10 ^ (i + 1) = 10 * 10 ^ i := by rw [Nat.pow_succ, Nat.mul_comm]
 rw [Nat.mod_eq_of_lt (by omega), Nat.mod_eq_of_lt (by omega)]
 exact Nat.div_eq_of_lt (by omega)
theorem qfk {m n : Nat} (h : m ≤ n) : 10 ^ m ≤ 10 ^ n := Nat.pow_le_pow_right (by decide) h
def zT (z : Int) : List UInt8 := (if z < 0 then [45] else []) ++ Lib.decDigits z.natAbs
theorem qg4 {z : Int} (h : (q1y z).2 = 0) : (q1y z).1 = zT z := by
 unfold q1y q3z at *
 unfold zT
 by_cases h0 : z.natAbs = 0
 ·rw [if_pos h0, h0, if_neg (by omega), q1t (by decide)]; rfl
 ·rw [if_neg h0] at h ⊢
  by_cases h1 : 200 < (Lib.decDigits z.natAbs).length
  ·rw [if_pos h1] at h; cases h
  ·rw [if_neg h1]
   by_cases hz : z < 0
   ·rw [if_pos hz, decide_eq_true hz]; rfl
   ·rw [if_neg hz, decide_eq_false hz]; rfl
theorem qjt {z : Int} : (q1y z).2 = 0 ↔ (Lib.decDigits z.natAbs).length ≤ 200 := by
 unfold q1y q3z
 by_cases h0 : z.natAbs = 0
 ·rw [if_pos h0, h0, q1t (by decide)]; simp
 ·rw [if_neg h0]
  by_cases h1 : 200 < (Lib.decDigits z.natAbs).length
  ·rw [if_pos h1]; constructor <;> intro h
   ·cases h
   ·omega
  ·rw [if_neg h1]; constructor <;> intro h
   ·omega
   ·rfl
def upN : List (List UInt8) → Nat
 | [] => 0
 | s :: r => (if q34 s = true then 0 else q14 (q0m s)) + upN r
def qfi : List (List UInt8) → Nat
 | [] => 0
 | s :: r => (if q34 s = true then q14 (q0m s) else 0) + qfi r
theorem que : ∀ (l : List (List UInt8)), ((upN l : Nat) : Int) - (qfi l : Nat) = qdp l
 | [] => rfl
 | s :: r => by
  have h := que r
  rw [q44]
  unfold upN qfi q1w toZ
  cases hn : q34 s
  ·simp only [Bool.false_eq_true, if_false]; omega
  ·simp only [if_true]; omega
theorem u4s {U D : Nat} (h : D < U) : zT ((U : Int) - D) = Lib.decDigits (U - D) := by
 unfold zT
 rw [if_neg (by omega), show ((U : Int) - D).natAbs = U - D by omega]; rfl
theorem u4z (U : Nat) : zT ((U : Int) - U) = [48] := by
 unfold zT
 rw [if_neg (by omega), show ((U : Int) - U).natAbs = 0 by omega, q1t (by decide)]; rfl
theorem qwj {U D : Nat} (h : U < D) : zT ((U : Int) - D) = [45] ++ Lib.decDigits (D - U) := by
 unfold zT
 rw [if_pos (by omega), show ((U : Int) - D).natAbs = D - U by omega]
