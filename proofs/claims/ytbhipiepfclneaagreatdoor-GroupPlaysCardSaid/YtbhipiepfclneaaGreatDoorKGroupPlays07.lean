/- Walks. -/
import Derived.Test.YtbhipiepfclneaaGreatDoorKGroupPlays06
set_option maxHeartbeats 8000000
namespace Go.Proofs.YtbhipiepfclneaaGreatDoor
open Go Go.Wk Go.Un Go.De Go.Num
set_option linter.unusedSimpArgs false
set_option linter.unusedVariables false
attribute [local irreducible] Go.wpList Go.Code.wp Go.wpStill Go.Wk.q26 Go.bodyPost Go.Calls Go.Wk.Ct Go.Wk.q0u Go.Wk.wpG Go.Wk.wpM
theorem u23 {p : Prop} (h : p := by (rw [← hao] at hc1; have hst := qxt key hx; first | (rw [if_pos (by assumption)] at hst; refine ⟨X.length - (k + 1), by omega, k + 1, v, g, _, rfl, by omega, (by rw [hst, qaA]; exact hown), (by rw [hst]; exact LiC.app hxs (LiC.one rfl ⟨_, _, _, rfl, hT1, hT2, hT3⟩)), ?_⟩; (refine S.keep ?_; exact zk); done) | (rw [if_neg (by first | assumption | (rw [(by assumption : q15 x.key key = false)]; decide))] at hst; refine ⟨X.length - (k + 1), by omega, k + 1, v, g, xs, rfl, by omega, (by rw [hst, qaE]; exact hown), (by rw [hst, qaE]; exact hxs), ?_⟩; (refine S.keep ?_; exact zk); done))) : p := h
theorem u3a (F F2 : q01) (bx : Nat) (av v : Value) (X : List WyD) (hX : XF F F2 bx av X v) (hl : X.length ≤ 1000000) (key : Vf) (v1 : Value) (h1 : TrS F2 4 VhR v1 key) :
  Ct Tryz.prog 43 [.pointer (some ⟨bx, 0, none⟩), v1] F2 [] (fun _ G' u => ∃ g xs, G' = [g] ∧ q0u 63 3 u (ofW X key).length xs g ∧ LiC F 3 WyR xs (ofW X key)) := by
 obtain ⟨hc0, hc1, hle, ao, cap, rfl, hcap, hpos⟩ := hX
 obtain ⟨a1, c1, rfl, -⟩ := id h1
 refine Ct.enter Tryz.func43 rfl Tryz.ntmps43 rfl fun w0 a S => ?_
 revert a; refine go 14 ?_; intro Z hZ a S
 refine q04 (fun m a w' => ∃ (k : Nat) (v : Value) (g : Grp) (xs : List Value), m = X.length - k ∧ k ≤ X.length ∧ q0u 63 3 v (ofW (X.take k) key).length xs g ∧ LiC F 3 WyR xs (ofW (X.take k) key) ∧ St 37 [(0, .pointer (some ⟨bx, 0, none⟩)), (1, .slice a1 key.len c1), (5, v), (6, .int .i64 (k : Int))] w0 F2 [] F2 [g] a w') ?_ ?_
 ·(refine ⟨X.length, 0, _, [], [], by omega, Nat.zero_le _, q0u.nil _ _, rfl, ?_⟩; replace S := S.nilg; refine S.keep ?_; exact zk)
 (clear S; rintro m a w ⟨k, v, g, xs, rfl, hk, hown, hxs, S⟩; have hol : (ofW (X.take k) key).length ≤ X.length := Nat.le_trans (List.length_filter_le _ _) (by rw [qaI]; omega))
 revert a; refine go 6 ?_; intro Z hZ Z hZ a S
 first | (refine wv S (q0f S rfl rfl (by rfl)) ?_; clear S a; intro a S) | (refine wv S (q05 S rfl rfl (by assumption)) ?_; clear S a; intro a S) | (refine wv S (q05 S rfl rfl hc1) ?_; clear S a; intro a S)
 revert a; revert Z; refine go 4 ?_; intro a S
 refine q00 S rfl ?_ ?_ <;> intro h
 ·revert a; revert Z; refine go 4 ?_; intro Z hZ a S
  (refine wp_seq_k ?_; intro Z hZ)
  (obtain ⟨b8, o8, hao, x, cs1, hx, hcc, y1, y2, y3, rfl, hT1, hT2, hT3⟩ := LiM.pos hpos (k := k) (by omega); rw [hao] at S hc1; obtain ⟨aK, cK, rfl, -⟩ := id hT1; obtain ⟨aW, cW, rfl, -⟩ := id hT2; obtain ⟨aA, cA, rfl, -⟩ := id hT3)
  revert a; refine go 4 ?_; intro a S
  first | (refine wv S (q0f S rfl rfl (by rfl)) ?_; clear S a; intro a S) | (refine wv S (q05 S rfl rfl (by assumption)) ?_; clear S a; intro a S) | (refine wv S (q05 S rfl rfl hc1) ?_; clear S a; intro a S)
  revert a; refine go 3 ?_; intro a S
  (refine wv S (q05 S rfl rfl (hcc 0 _ rfl)) ?_; clear S a; intro a S)
  revert a; refine go 1 ?_; intro a S
  (refine wc0 S (q25 (q4z x.key.size) F2 x.key key _ _ (Nat.le_refl _) (hT1.mono hle) h1) ?_; clear S a; intro v a w hv S; subst hv)
  revert a; revert Z; refine go 2 ?_; intro a S
  refine q00 S rfl ?_ ?_ <;> intro h
  ·revert a; refine go 5 ?_; intro a S
   first | (refine wv S (q0f S rfl rfl (by rfl)) ?_; clear S a; intro a S) | (refine wv S (q05 S rfl rfl (by assumption)) ?_; clear S a; intro a S) | (refine wv S (q05 S rfl rfl hc1) ?_; clear S a; intro a S)
   revert a; refine go 2 ?_; intro a S
   (refine wv S (q18 S rfl rfl hcc rfl) ?_; clear S a; intro a S)
   (refine q0s S rfl rfl rfl rfl rfl rfl rfl rfl rfl rfl rfl (fun _ => rfl) hown (by rfl) (by simp [Value.cells, splice, splice]) (by simp [Value.cells, Value.oneCell', splice, splice]) rfl (by rfl) (by rfl) rfl (by omega) (by omega) ?_; clear hown S a; intro v u g a w hown S)
   revert a; revert Z; refine go 8 ?_; intro a S
   change ∃ m', _ ∧ _
   exact u23
  revert a; revert Z; refine go 7 ?_; intro a S
  change ∃ m', _ ∧ _
  exact u23
 (refine wp_exit ?_; conv => whnf)
 clear hZ Z
 revert a; revert Z; refine go 6 ?_; intro a S
 refine wp_ret (fr1 S Tryz.results43 ?_)
 (rw [List.take_of_length_le (by omega)] at hown hxs; exact ⟨_, _, rfl, hown, hxs⟩)
def uaz (aggs : List (List UInt8)) (F' : q01) (G' : List Grp) (u : Value) : Prop := (q7y aggs ≠ 0 ∧ u = .tuple ⟨[.pointer none, .int .i64 (q7y aggs)]⟩ ∧ G' = []) ∨ (q7y aggs = 0 ∧ ∃ bx av gx, u = .tuple ⟨[.pointer (some ⟨bx, 0, none⟩), .int .i64 0]⟩ ∧ G' = [gx] ∧ XO F' bx av [] gx ∧ LiM F' 1 StR av aggs)
theorem u2g {l : List (List UInt8)} {k : Nat} {s : List UInt8} (h : l[k]? = some s) (hn : ¬ (s = q47 ∨ s = q5u ∨ s = qjw ∨ s = qkp)) : q7y l = 1 := by
 unfold q7y
 rw [if_pos]
 rw [List.all_eq_false]
 exact ⟨s, List.mem_of_getElem? h, by unfold q31; simpa using hn⟩
theorem u3x {l : List (List UInt8)} (h : ∀ s ∈ l, s = q47 ∨ s = q5u ∨ s = qjw ∨ s = qkp) : q7y l = if 8 < l.length then 3 else 0 := by
 unfold q7y
 rw [if_neg]
 rw [Bool.not_eq_false, List.all_eq_true]
 exact fun s hs => decide_eq_true (h s hs)
theorem qws {p : Prop} (h : p := by (first | (refine .inl ?_; have h1 := u2g hx (by rintro (h | h | h | h) <;> exact absurd h (by assumption)); exact ⟨by rw [h1]; decide, by rw [h1], rfl⟩) | (rw [List.take_of_length_le (by omega)] at hall; have h3 := u3x hall; first | (rw [if_pos (by omega)] at h3; refine .inl ⟨by rw [h3]; decide, by rw [h3], rfl⟩) | (rw [if_neg (by omega)] at h3; exact .inr ⟨h3, b44, _, _, rfl, rfl, ⟨_, [], [], rfl, q0u.nil _ _, rfl⟩, hL8⟩)))) : p := h
theorem qt9 {p : Prop} (h : p := by (rw [← hao] at S; have hall2 : ∀ q ∈ aggs.take (k + 1), q = q47 ∨ q = q5u ∨ q = qjw ∨ q = qkp := (fun q hq => by rw [List.take_add_one, hx] at hq; rcases List.mem_append.1 hq with hq | hq; exact hall q hq; obtain rfl : q = s := (by simpa using hq); first | exact .inl (by assumption) | exact .inr (.inl (by assumption)) | exact .inr (.inr (.inl (by assumption))) | exact .inr (.inr (.inr (by assumption)))); refine ⟨aggs.length - (k + 1), by omega, k + 1, rfl, by omega, hall2, ?_⟩; (refine S.keep ?_; exact zk))) : p := h
theorem qu3 (F : q01) (v : Value) (aggs : List (List UInt8)) (hA : LiM F 1 StR v aggs) (hl : aggs.length ≤ 100) : Ct Tryz.prog 19 [v] F [] (fun F' G' u => uaz aggs F' G' u) := by
 have hAf := hA.flat
 obtain ⟨ao, cap, rfl, hcap, hpos⟩ := hA
 refine Ct.enter Tryz.func19 rfl Tryz.ntmps19 rfl fun w0 a S => ?_
 revert a; refine go 11 ?_; intro Z hZ a S
 refine q04 (fun m a w' => ∃ (k : Nat), m = aggs.length - k ∧ k ≤ aggs.length ∧ (∀ s ∈ aggs.take k, s = q47 ∨ s = q5u ∨ s = qjw ∨ s = qkp) ∧ St 45 [(0, .slice ao aggs.length cap), (4, .int .i64 (k : Int))] w0 F [] F [] a w') ?_ ?_
 ·(refine ⟨aggs.length, 0, by omega, Nat.zero_le _, (fun s h => by simp at h), ?_⟩; refine S.keep ?_; exact zk)
 (clear S; rintro m a w ⟨k, rfl, hk, hall, S⟩)
 revert a; refine go 8 ?_; intro Z hZ a S
 refine q00 S rfl ?_ ?_ <;> intro h
 ·revert a; revert Z; refine go 4 ?_; intro Z hZ a S
  (refine wp_seq_k ?_; intro Z hZ)
  (obtain ⟨b8, o8, hao, s, cs1, hx, hcc, hR1⟩ := LiM.pos hpos (k := k) (by omega); rw [hao] at S; obtain rfl : cs1 = _ := hR1; have hc1 : Cel F b8 (o8 + k * 1) (.string (bs s)) := hcc 0 _ rfl)
  revert a; refine go 4 ?_; intro a S
  first | (refine wv S (q0f S rfl rfl (by rfl)) ?_; clear S a; intro a S) | (refine wv S (q05 S rfl rfl (by assumption)) ?_; clear S a; intro a S) | (refine wv S (q05 S rfl rfl hc1) ?_; clear S a; intro a S)
  revert a; refine go 2 ?_; intro a S
  refine wgd S ?_ ?_
  ·(clear S; intro h S)
   revert a; refine go 6 ?_; intro a S
   first | (refine wv S (q0f S rfl rfl (by rfl)) ?_; clear S a; intro a S) | (refine wv S (q05 S rfl rfl (by assumption)) ?_; clear S a; intro a S) | (refine wv S (q05 S rfl rfl hc1) ?_; clear S a; intro a S)
   revert a; refine go 4 ?_; intro a S
   refine wgd S ?_ ?_
   ·(clear S; intro h S)
    revert a; refine go 6 ?_; intro a S
    first | (refine wv S (q0f S rfl rfl (by rfl)) ?_; clear S a; intro a S) | (refine wv S (q05 S rfl rfl (by assumption)) ?_; clear S a; intro a S) | (refine wv S (q05 S rfl rfl hc1) ?_; clear S a; intro a S)
    revert a; refine go 4 ?_; intro a S
    refine wgd S ?_ ?_
    ·(clear S; intro h S)
     revert a; refine go 6 ?_; intro a S
     first | (refine wv S (q0f S rfl rfl (by rfl)) ?_; clear S a; intro a S) | (refine wv S (q05 S rfl rfl (by assumption)) ?_; clear S a; intro a S) | (refine wv S (q05 S rfl rfl hc1) ?_; clear S a; intro a S)
     revert a; revert Z; refine go 5 ?_; intro a S
     refine q00 S rfl ?_ ?_ <;> intro h
     ·revert a; refine go 5 ?_; intro a S
      refine wp_ret (fr2 S Tryz.results19 ?_)
      exact qws
     revert a; revert Z; refine go 7 ?_; intro a S
     change ∃ m', _ ∧ _
     exact qt9
    (clear S a; intro h a S)
    revert a; revert Z; refine go 7 ?_; intro a S
    refine q03 S rfl ?_
    revert a; revert Z; refine go 7 ?_; intro a S
    change ∃ m', _ ∧ _
    exact qt9
   (clear S a; intro h a S)
   revert a; revert Z; refine go 14 ?_; intro a S
   refine q03 S rfl ?_
   revert a; revert Z; refine go 7 ?_; intro a S
   change ∃ m', _ ∧ _
   exact qt9
  (clear S a; intro h a S)
  revert a; revert Z; refine go 21 ?_; intro a S
  refine q03 S rfl ?_
  revert a; revert Z; refine go 7 ?_; intro a S
  change ∃ m', _ ∧ _
  exact qt9
 (refine wp_exit ?_; conv => whnf)
 clear hZ Z
 revert a; revert Z; refine go 8 ?_; intro Z hZ a S
 refine q00 S rfl ?_ ?_ <;> intro h
 ·revert a; refine go 5 ?_; intro a S
  refine wp_ret (fr2 S Tryz.results19 ?_)
  exact qws
 refine wp_skip ?_
 (refine hZ _ _ ?_; clear hZ Z)
 (refine wp_seq_k ?_; intro Z hZ)
 (obtain ⟨aoF, capF, xsF, hxe, hxF, hxp⟩ := hAf; cases hxe; have hxl := hxF.len)
 refine wp_region_lit ?_
 (refine q0d S rfl rfl rfl rfl rfl rfl (by rfl) (by simp [Value.cells, splice, splice]) rfl (by rfl) (by rfl) ?_; clear S a; intro b40 a w hown S)
 revert a; refine go 1 ?_; intro a S
 (refine q1u (news := xsF) S rfl rfl rfl rfl rfl rfl hown (by rfl) (by omega) hxp hxF.one' (by omega) (by omega) ?_; clear hown S a; intro v g a w hown S; have hle := q2h (G1 := []) S; replace S := St.freeze (G1 := []) S; (simp only [qaG] at S hle); have hL8 : LiM (F.add g) 1 StR v aggs := LiC.lim hown hxF (by omega) hle (by omega); obtain ⟨aV, cV, rfl, -, -⟩ := id hL8)
 revert a; refine go 1 ?_; intro a S
 (refine wbx S ?_; clear S a; intro b44 a w S)
 revert a; revert Z; refine go 4 ?_; intro a S
 refine wp_ret (fr2 S Tryz.results19 ?_)
 exact qws
theorem qea {α β : Type} {f : α → β} : ∀ {m : List β} {l : List α}, m.Perm (l.map f) → ∃ l' : List α, l'.Perm l ∧ l'.map f = m
 | [], l, h => by
  have : l = [] := List.map_eq_nil_iff.1 h.nil_eq.symm
  subst this
  exact ⟨[], List.Perm.refl _, rfl⟩
 | y :: r, l, h => by
  obtain ⟨x, hx, rfl⟩ := List.mem_map.1 (h.mem_iff.1 (qaH ..))
  obtain ⟨l1, l2, rfl⟩ := List.append_of_mem hx
  rw [List.map_append, List.map_cons] at h
  have h2 := (h.trans List.perm_middle).cons_inv
  rw [← List.map_append] at h2
  obtain ⟨l', h3, h4⟩ := qea h2
  exact ⟨x :: l', (h3.cons x).trans List.perm_middle.symm, by rw [List.map_cons, h4]⟩
abbrev Gt := Grp × Vr
def rvs (T : List Gt) : List Vr := T.map (·.2)
def rfs (T : List Gt) : List Vf := T.map (·.2.2)
def rgs (T : List Gt) : Grp := (T.map (·.1)).flatten
def u01 (T : List Gt) : Prop := ∀ t ∈ T, OwS t.1 t.2.1 t.2.2
theorem qy5 (T U : List Gt) : rgs (T ++ U) = rgs T ++ rgs U := by unfold rgs; rw [List.map_append, List.flatten_append]
theorem qxd (t : Gt) : rgs [t] = t.1 := by show t.1 ++ [] = _; rw [qaE]
theorem qtc {T U : List Gt} (h : T.Perm U) : (rgs T).Perm (rgs U) := by
 unfold rgs
 exact (h.map _).flatten
theorem qw1 {F : q01} {T : List Gt} {g : Grp} (hn : ((rgs T ++ g).map (·.1)).Nodup) {t : Gt} (ht : t ∈ T) : ∀ b o, gh t.1 b = some o → F.add (rgs T ++ g) b = some o := fun b o e => by
 have h1 := q5e e
 exact q01.add_new (p := (b, o)) (List.mem_append_left _ (List.mem_flatten.2 ⟨t.1, List.mem_map.2 ⟨t, ht, rfl⟩, h1⟩)) hn
theorem qoe {F : q01} {T : List Gt} (hn : ((rgs T).map (·.1)).Nodup) {t : Gt} (ht : t ∈ T) : ∀ b o, gh t.1 b = some o → F.add (rgs T) b = some o := fun b o e => by
 have := qw1 (F := F) (g := []) (by rw [qaE]; exact hn) ht b o e
 rwa [qaE] at this
def qra (rows : List Vf) (G' : List Grp) (u : Value) : Prop := ∃ (T : List Gt) (g : Grp), (rfs T).Perm rows ∧ (rfs T).Pairwise (fun x y => 0 ≤ cmpL y x) ∧ u01 T ∧ q0u 32 1 u T.length (q0n (rvs T)) g ∧ G' = [g, rgs T]
section
variable {n : Sz} {L : List (Nat × Value)} {w0 : World} {F0 : q01} {K0 : List Nat} {F : q01} {A B C : Grp} {a : Act} {w : World}
theorem u8y (S : St n L w0 F0 K0 F [A, B, C] a w) : St n L w0 F0 K0 F [B, C ++ A] a w := ⟨S.fr, S.tr.perm (by simp only [qaF, List.flatten_nil, qaE]; exact List.perm_append_comm.trans (by rw [qaB]))⟩
theorem u0x (S : St n L w0 F0 K0 F [A, B] a w) : St n L w0 F0 K0 F [B ++ A] a w := ⟨S.fr, S.tr.perm (by simp only [qaF, List.flatten_nil, qaE]; exact List.perm_append_comm)⟩
theorem u5q (S : St n L w0 F0 K0 F [B ++ A] a w) : St n L w0 F0 K0 F [A, B] a w := ⟨S.fr, S.tr.perm (by simp only [qaF, List.flatten_nil, qaE]; exact List.perm_append_comm)⟩
theorem qev (S : St n L w0 F0 K0 F [A] a w) : (A.map (·.1)).Nodup := by
 have h := S.tr.nd
 unfold keys at h
 rwa [qaF, List.flatten_nil, qaE] at h
theorem u4k {R : List Grp} (h : B.Perm C) (S : St n L w0 F0 K0 F (A :: B :: R) a w) : St n L w0 F0 K0 F (A :: C :: R) a w := ⟨S.fr, S.tr.perm (by simp only [qaF]; exact List.Perm.append_left _ (List.Perm.append_right _ h))⟩
end
theorem qw4 (F : q01) (v : Value) (rows : List Vf) (hv : LiM F 1 RwR v rows) (hmay : ∀ r ∈ rows, qar r = true) (hth : ∀ r ∈ rows, r.len * 56 ≤ 140737488355328 ∧ ThV r) (hr0 : 0 < rows.length) (hnd : rows.Nodup) (hz : ∀ x ∈ rows, ∀ y ∈ rows, cmpL x y = 0 → x = y) (hl : rows.length ≤ 1000000000) :
  Ct Tryz.prog 45 [v] F [] (fun _ G' u => qra rows G' u) := by
 obtain ⟨ao, cap, rfl, hcap, hpos⟩ := hv
 refine Ct.enter Tryz.func45 rfl Tryz.ntmps45 rfl fun w0 a S => ?_
 revert a; refine go 16 ?_; intro Z hZ a S
 refine q04 (fun q a' w' => ∃ (i : Nat) (u : Value) (g : Grp) (T : List Gt), q = rows.length - i ∧ i ≤ rows.length ∧ q0u 32 1 u i (q0n (rvs T)) g ∧ rfs T = rows.take i ∧ u01 T ∧ St 22 [(3, u), (6, .slice ao rows.length cap), (7, .int .i64 rows.length), (8, .int .i64 i)] w0 F [] F [g, rgs T] a' w') ?_ ?_
 ·(refine ⟨_, 0, _, [], [], rfl, Nat.zero_le _, q0u.nil _ _, rfl, (fun t h => by cases h), ?_⟩; replace S : St _ _ _ _ _ F [[], []] _ _ := ⟨S.fr, S.tr.perm (by simp)⟩; refine S.keep ?_; exact zk)
 (clear S; rintro q a w ⟨i, u, g, T, rfl, hi, hown, hTr, hTo, S⟩)
 revert a; refine go 5 ?_; intro Z hZ a S
 refine q00 S rfl ?_ ?_ <;> intro h
 ·revert a; revert Z; refine go 4 ?_; intro Z hZ a S
  (refine wp_seq_k ?_; intro Z hZ)
  (obtain ⟨b8, o8, hao, x, cs1, hx, hcc, v1, rfl, hT1⟩ := LiM.pos hpos (k := i) (by omega); have hc1 : Cel F b8 (o8 + i * 1) v1 := hcc 0 _ rfl; have hxm := List.mem_of_getElem? hx; rw [hao] at S)
  revert a; refine go 2 ?_; intro a S
  (refine wv S (q05 S rfl rfl hc1) ?_; clear S a; intro a S)
  revert a; revert Z; refine go 6 ?_; intro a S
  (refine q02 (Gs := []) (Gr := [g, rgs T]) S rfl rfl rfl rfl rfl rfl (qxx _ F x v1 (Nat.le_refl _) (hth x hxm).1 (hth x hxm).2 hT1) rfl (by simp) ?_; clear S a; intro u5 G9 a w hv S; obtain ⟨g5, rfl, hO5⟩ := hv; obtain ⟨a5, c5, rfl, -⟩ := id hO5.r; replace S := u8y S; have hT2 : rfs (T ++ [(g5, .slice a5 x.len c5, x)]) = rows.take (i + 1) := (by rw [List.take_add_one, hx]; unfold rfs at hTr ⊢; rw [List.map_append, hTr]; rfl); have hTo2 : u01 (T ++ [(g5, .slice a5 x.len c5, x)]) := (fun t ht => (List.mem_append.1 ht).elim (hTo t) (fun h9 => by rw [List.mem_singleton.1 h9]; exact hO5)); have hgr : rgs T ++ g5 = rgs (T ++ [(g5, .slice a5 x.len c5, x)]) := (by rw [qy5, qxd]); rw [hgr] at S)
  (refine q0s S rfl rfl rfl rfl rfl rfl rfl rfl rfl rfl rfl (fun _ => rfl) hown (by rfl) (by simp [Value.cells, splice, splice]) (by simp [Value.cells, Value.oneCell', splice, splice]) rfl (by rfl) (by rfl) rfl (by omega) (by omega) ?_; clear hown S a; intro v u g a w hown S)
  revert a; revert Z; refine go 7 ?_; intro a S
  change ∃ m', _ ∧ _
  (rw [← hao] at S; refine ⟨rows.length - (i + 1), by omega, i + 1, _, _, _, rfl, by omega, (by rw [show rvs (T ++ [(g5, .slice a5 x.len c5, x)]) = rvs T ++ [(.slice a5 x.len c5, x)] from List.map_append, q10]; exact hown), hT2, hTo2, ?_⟩; first | ((refine S.keep ?_; exact zk); done) | (replace S := S.drop1; (refine S.keep ?_; exact zk); done))
 (refine wp_exit ?_; conv => whnf)
 clear hZ Z
 (refine hZ _ _ ?_; clear hZ Z)
 (refine wp_seq_k ?_; intro Z hZ)
 (obtain rfl : i = rows.length := (by omega); rw [List.take_length] at hTr; obtain ⟨bT, capT, exT, rfl, rfl, hcq, hcm, hxl, hxe⟩ := qad hown (by omega); have hndT := qj2 S; have hTl : T.length = rows.length := (by rw [← hTr]; exact (List.length_map ..).symm); have hXm : ∀ x ∈ rvs T, TrS (F.add (rgs T)) 4 VhR x.1 x.2 ∧ qar x.2 = true := (fun x hx => by obtain ⟨t, ht, rfl⟩ := List.mem_map.1 hx; exact ⟨TrS.mono (qoe hndT ht) (hTo t ht).r, hmay _ (by rw [← hTr]; exact List.mem_map.2 ⟨t, ht, rfl⟩)⟩))
 revert a; refine go 2 ?_; intro a S
 (refine q02 (Gs := [rgs T, [(bT, .cells ⟨q0n (rvs T) ++ exT⟩ 32 (0, 0))]]) (Gr := []) S rfl rfl rfl rfl rfl rfl (qdg (qwm (F.add (rgs T)) bT rows.length capT 32 40 [] [] _ qzl (qr6 (F.add (rgs T))) exT (rvs T) hXm (by rw [← hTl]; exact List.length_map ..) (by omega))) rfl (by simp only [qaF, List.flatten_nil, qaE]; exact List.perm_append_comm) ?_; clear S a; intro v19 G9 a w hv S; obtain ⟨G8, rfl, Y, hY, hYs, rfl⟩ := hv; obtain ⟨U, hUT, hUe⟩ := qea (f := (fun t : Gt => t.2)) hY; obtain rfl : Y = rvs U := hUe.symm; replace S := qc6 S; have hndU := qev S)
 revert a; revert Z; refine go 4 ?_; intro Z hZ a S
 (have hb9 : (F.add (rgs T ++ [(bT, .cells ⟨q0n (rvs U) ++ exT⟩ 32 (0, 0))])) bT = some (.cells ⟨q0n (rvs U) ++ exT⟩ 32 (0, 0)) := q01.add_new (p := (bT, _)) (List.mem_append_right _ (List.mem_singleton.2 rfl)) hndU; have hUr : (rfs U).Perm rows := (by rw [← hTr]; exact hUT.map _); have hUl : (rvs U).length = rows.length := (by rw [← hTl, ← hUT.length_eq]; exact List.length_map ..); have hUm : (rvs U).map (·.2) = rfs U := (by unfold rvs rfs; rw [List.map_map]; rfl); have hYL := qyi hb9 (Y := rvs U) (fun x hx => by obtain ⟨t, ht, rfl⟩ := List.mem_map.1 hx; exact TrS.mono (qw1 hndU (hUT.mem_iff.1 ht)) (hTo t (hUT.mem_iff.1 ht)).r) hUl hcq (by omega); rw [hUm] at hYL; refine q02 (Gs := [rgs T ++ [(bT, .cells ⟨q0n (rvs U) ++ exT⟩ 32 (0, 0))]]) (Gr := []) S rfl rfl rfl rfl rfl rfl (Ct.lend (qt4 _ _ _ hYL 81 [] [] (fun x y => decide (cmpL x y = 0)) (fun r => qar r = true) (fun r hr => hmay r (hUr.mem_iff.1 hr)) (fun x y v1 v2 m1 m2 t1 t2 => qw3 _ x y v1 v2 t1 t2 m1 m2) (qxg (hUr.nodup_iff.2 hnd) (fun x hx y hy => hz x (hUr.mem_iff.1 hx) y (hUr.mem_iff.1 hy))))) rfl (by simp) ?_; clear S a; intro v21 G9 a w hv S; obtain ⟨rfl, rfl⟩ := hv; replace S := u4k (qtc hUT.symm) (u5q S))
 revert a; revert Z; refine go 3 ?_; intro a S
 refine wp_ret (fr1 S Tryz.results45 ?_)
 exact ⟨U, _, hUr, (by rw [← hUm]; exact List.pairwise_map.2 (hYs.imp fun h => by have := of_decide_eq_false h; unfold qzl at this; omega)), (fun t ht => hTo t (hUT.mem_iff.1 ht)), (by rw [show U.length = rows.length by rw [← hTl, hUT.length_eq]]; exact q96 (by rw [q0g, hUl, Nat.mul_one]) hcq hcm (by rw [qaA, q0g] at hxe ⊢; rw [hUl]; rw [show (rvs T).length = rows.length by rw [← hTl]; exact List.length_map ..] at hxe; exact hxe)), rfl⟩
theorem qrg (F : q01) (bg : Nat) (av : Value) (gv : Gv) (gg : Grp) (aggs : List (List UInt8)) (x : GA) (hG : GsS bg av gv gg) (hX : GvR F x gv) (hI : GInv aggs x) (h0 : 0 < x.length) (hl : x.length ≤ 1000000000) :
  Ct Tryz.prog 25 [.pointer (some ⟨bg, 0, none⟩)] F [gg] (fun _ G' u => ∃ G1, G' = gg :: G1 ∧ qra (x.map (·.2.key)) G1 u) := by
 obtain ⟨bm, om, gw, rfl, hm, hw⟩ := hG
 have hK := KyR.of hX
 have hxl : (x.map (·.2.key)).length = x.length := List.length_map ..
 refine Ct.enter Tryz.func25 rfl Tryz.ntmps25 rfl fun w0 a S => ?_
 revert a; refine go 5 ?_; intro Z hZ a S
 (refine wp_seq_k ?_; intro Z hZ)
 (replace S := qzs S)
 revert a; refine go 2 ?_; intro a S
 (refine wv S (q1b S rfl rfl rfl) ?_; clear S a; intro a S)
 revert a; revert Z; refine go 2 ?_; intro a S
 refine q03 S rfl ?_
 revert a; revert Z; refine go 12 ?_; intro Z hZ Z hZ a S
 (refine q4d (enc := kS) S rfl rfl rfl rfl rfl (by exact S.has inferInstance) hm ?_; clear S a; intro b12 oi a w hit S)
 revert a; revert Z; refine go 3 ?_; intro a S
 refine q04 (fun m a w' => ∃ (lv : List (List UInt8 × Value)) (lw cu : List Vf) (v : Value) (g : Grp) (xs : List Value) (cr : Option (List UInt8 × Value)) (oi : Obj), m = lv.length ∧ KyR F lw lv ∧ (cu ++ lw).Perm (x.map (·.2.key)) ∧ ItO kS (gvM gv) bm om lv cr oi ∧ q0u 32 1 v cu.length xs g ∧ LiC F 1 RwR xs cu ∧ St 24 [(3, v), (12, ptr b12)] w0 F (keys [(bg, .cells ⟨[av, .map (some bm)]⟩ 75 (0, 0)) :: (bm, om) :: gw]) F [g, [(b12, oi)], [(bg, .cells ⟨[av, .map (some bm)]⟩ 75 (0, 0))], [(bm, om)], gw] a w') ?_ ?_
 ·(refine ⟨_, _, _, [], .slice none 0 0, [], [], none, oi, rfl, hK, List.Perm.refl _, hit, q0u.nil _ _, rfl, ?_⟩; replace S := S.nilg; refine S.keep ?_; exact zk)
 (clear S hit; rintro m a w ⟨lv, lw, cu, v, g, xs, cr, oi, rfl, hKl, hpm, hit, hown, hxs, S⟩; have hcu := hpm.length_eq; rw [qaA] at hcu)
 refine q1i fun Z hZ => ?_
 (refine q7j (enc := kS) S rfl rfl rfl rfl rfl (by exact S.has inferInstance) hit ?_; clear S a; intro y oi2 a w hnx S)
 revert a; revert Z; refine go 4 ?_; intro Z hZ a S
 refine q00 S rfl ?_ ?_ <;> intro h
 ·revert a; revert Z; refine go 3 ?_; intro a S
  (refine wp_seq_k ?_; intro Z hZ)
  (obtain ⟨⟨pt, pv⟩, l1, l2, rfl, hpl, hit2⟩ := qcm hnx (by assumption); subst hpl; obtain ⟨m1, r, m2, rfl, hK2, kv, be, hpe, hTr⟩ := hKl.split; (dsimp only at hpe); subst hpe; obtain ⟨aQ, cQ, rfl, -⟩ := id hTr)
  refine wp_region_lit ?_
  (refine wv S (q72 (enc := kS) S rfl rfl (by exact S.has inferInstance) hit2) ?_; clear S a; intro a S)
  revert a; refine go 1 ?_; intro a S
  (refine q0a S rfl rfl rfl rfl ?_; clear S a; intro b5 a w S)
  (refine wso S rfl rfl ?_; clear S; intro w S)
  revert a; revert Z; refine go 6 ?_; intro a S
  (refine q0s S rfl rfl rfl rfl rfl rfl rfl rfl rfl rfl rfl (fun _ => rfl) hown (by rfl) (by simp [Value.cells, splice, splice]) (by simp [Value.cells, Value.oneCell', splice, splice]) rfl (by rfl) (by rfl) rfl (by omega) (by omega) ?_; clear hown S a; intro v u g a w hown S)
  revert a; refine go 2 ?_; intro a S
  change ∃ m', _ ∧ _
  (have hown2 : q0u 32 1 _ (cu ++ [r]).length _ _ := (by rw [qaA]; exact hown); refine ⟨(l1 ++ l2).length, by (simp only [qaA, qaC]; omega), l1 ++ l2, m1 ++ m2, cu ++ [r], _, _, _, _, _, rfl, hK2, ?_, hit2, hown2, LiC.app hxs (LiC.one rfl ⟨_, rfl, hTr⟩), ?_⟩; rotate_left 1; (replace S := St.pullB b5 S; replace S := S.drop1; (refine S.keep ?_; exact zk)); refine List.Perm.trans ?_ hpm; rw [qaB]; refine List.Perm.append_left _ ?_; rw [List.singleton_append]; exact List.perm_middle.symm)
 (refine wp_exit ?_; conv => whnf)
 clear hZ Z
 (refine hZ _ _ ?_; clear hZ Z)
 (refine wp_seq_k ?_; intro Z hZ)
 (have hlv := qha hnx (by assumption); subst hlv; obtain rfl := hKl.nil; rw [qaE] at hpm; have hcl := hpm.length_eq; have hle := q2h (G1 := []) S; replace S := St.freeze (G1 := []) S; (simp only [qaG] at S hle); have hLv := LiC.lim (F := F) hown hxs rfl hle (by omega); obtain ⟨aV, cV, rfl, -, -⟩ := id hLv; generalize F.add g = F4 at S hle hLv; have hgd : ∀ r ∈ cu, ∃ p ∈ x, p.2.key = r := (fun r hr => List.mem_map.1 (hpm.mem_iff.1 hr)))
 revert a; refine go 2 ?_; intro a S
 (refine q17 S rfl rfl rfl rfl rfl rfl (qw4 F4 _ cu hLv (fun r hr => by obtain ⟨p, hp, rfl⟩ := hgd r hr; exact (q4p (by rw [(hI.all p hp).key]; rfl)).1) (fun r hr => by obtain ⟨p, hp, rfl⟩ := hgd r hr; exact ⟨(hI.all p hp).krow.ln, (hI.all p hp).krow.th⟩) (by omega) (hpm.nodup_iff.2 (qb6 hI)) (fun r hr s hs e => by obtain ⟨p, hp, rfl⟩ := hgd r hr; obtain ⟨q, hq, rfl⟩ := hgd s hs; exact q4a (q4p (by rw [(hI.all p hp).key]; rfl)).2 (q4p (by rw [(hI.all q hq).key]; rfl)).2 e) (by omega)) rfl ?_; clear S a; intro v23 G9 a w hv S; obtain ⟨T9, g9, hT1, hT2, hT3, hT4, rfl⟩ := hv; obtain ⟨aY, cY, rfl, -⟩ := hT4.at; (simp only [List.cons_append, qaG] at S))
 revert a; revert Z; refine go 3 ?_; intro a S
 refine wp_ret ?_
 (replace S := St.pullB b12 S; replace S := S.drop1; replace S := qdn (St.permI S 5 rfl [2, 3, 4, 0, 1] (by decide)))
 refine q08 S (q0c Tryz.results25 (RV.tmp S rfl)) ?_
 exact ⟨_, rfl, T9, g9, hT1.trans hpm, hT2, hT3, hT4, rfl⟩
theorem qy7 (F : q01) (bg : Nat) (av : Value) (gv : Gv) (gg : Grp) (aggs : List (List UInt8)) (x : GA) (hG : GsS bg av gv gg) (hX : GvR F x gv) (hI : GInv aggs x) (hl : x.length ≤ 1000000000) :
  Ct Tryz.prog 25 [.pointer (some ⟨bg, 0, none⟩)] F [gg] (fun _ G' u => ∃ G1, G' = gg :: G1 ∧ qra (x.map (·.2.key)) G1 u) := by
 by_cases h0 : 0 < x.length
 ·exact qrg F bg av gv gg aggs x hG hX hI h0 hl
 ·have hx : x = [] := List.length_eq_zero_iff.1 (by omega)
  subst hx
  have hg : gv = [] := by cases gv with | nil => rfl | cons _ _ => exact hX.elim
  subst hg
  exact (u44 (Q := fun u => u = .slice none 0 0) (qfe F bg av gg hG)).mono fun F' G' u ⟨h1, h2⟩ => ⟨_, h2, [], [], List.Perm.refl _, List.Pairwise.nil, (fun t h => by cases h), by rw [h1]; exact q0u.nil _ _, rfl⟩
def qmd (rows : List Vf) (G' : List Grp) (u : Value) : Prop := ∃ (Z : List Vf) (g gd : Grp) (xs : List Value), G' = [g, gd] ∧ q0u 32 1 u Z.length xs g ∧ LiC (gh gd) 1 RwR xs Z ∧ Z.Pairwise (fun x y => cmpL x y < 0) ∧ (∀ r, r ∈ Z ↔ r ∈ rows) ∧ Z.length ≤ rows.length
def Rw1 (r : Vf) : Prop := q2m r = true ∧ q29 r = true ∧ dpN r ≤ 900000000 ∧ r.size ≤ 900000000
theorem qfl {x y z : Vf} (h1 : cmpL x y < 0) (h2 : cmpL y z < 0) : cmpL x z < 0 := (q7v x y z).s1 h1 (by omega)
theorem Mg.both {A B : List Vf} (hA : A.Pairwise (fun x y => cmpL x y < 0)) (hB : B.Pairwise (fun x y => cmpL x y < 0)) {i k : Nat} {O : List Vf} (h : Mg A B i k O) {x : Vf} (hx : A[i]? = some x) (hy : B[k]? = some x) : Mg A B (i + 1) (k + 1) (O ++ [x]) := by
 have hi := (List.getElem?_eq_some_iff.1 hx).1
 have hk := (List.getElem?_eq_some_iff.1 hy).1
 have h9 := h.la
 have h8 := h.lb
 have hm := h.mem
 rw [q5y hx] at h9 hm
 rw [q5y hy] at h8 hm
 refine ⟨hi, hk, qno h.srt fun r hr => h9 r hr x (qaH ..), fun r hr s hs => ?_, fun r hr s hs => ?_, fun r => ?_, ?_⟩
 ·rcases List.mem_append.1 hr with hr | hr
  ·exact h9 r hr s (List.mem_cons_of_mem _ hs)
  ·rw [List.mem_singleton.1 hr]; exact q6t hA hx s hs
 ·rcases List.mem_append.1 hr with hr | hr
  ·exact h8 r hr s (List.mem_cons_of_mem _ hs)
  ·rw [List.mem_singleton.1 hr]; exact q6t hB hy s hs
 ·rw [← hm r]; simp only [List.mem_append, List.mem_cons, List.mem_singleton, List.not_mem_nil, or_false]
  constructor
  ·rintro ((h1 | h1) | h1 | h1)
   ·exact .inl h1
   ·exact .inr (.inl (.inl h1))
   ·exact .inr (.inl (.inr h1))
   ·exact .inr (.inr (.inr h1))
  ·rintro (h1 | (h1 | h1) | (h1 | h1))
   ·exact .inl (.inl h1)
   ·exact .inl (.inr h1)
   ·exact .inr (.inl h1)
   ·exact .inl (.inr h1)
   ·exact .inr (.inr h1)
 ·rw [qaA]; have := h.len; simp only [qaC, qaD]; omega
theorem qto {α : Type} {F : q01} {sz i : Nat} {R : q01 → α → List Value → Prop} {ao : Option Addr} {m c : Nat} {l : List α} (h : LiM F sz R (.slice ao m c) l) (hi : i ≤ l.length) : LiM F sz R (.slice ao i c) (l.take i) := by
 obtain ⟨_, _, e, h1, h2⟩ := h
 cases e
 have hl : (l.take i).length = i := by rw [qaI]; omega
 refine ⟨ao, c, by rw [hl], ⟨by rw [hl]; omega, by rw [hl]; omega⟩, fun hp => ?_⟩
 rw [hl] at hp
 obtain ⟨b, o, rfl, h3⟩ := h2 (by omega)
 refine ⟨b, o, rfl, fun k x hx => h3 k x ?_⟩
 rw [List.getElem?_take] at hx
 split at hx
 ·exact hx
 ·cases hx
theorem qri {α : Type} {F : q01} {sz i : Nat} {R : q01 → α → List Value → Prop} {ao : Option Addr} {m c : Nat} {l : List α} (h : LiM F sz R (.slice ao m c) l) (hi : i ≤ l.length) : LiM F sz R (.slice (cutA ao i c sz) (m - i) (c - i)) (l.drop i) := by
 obtain ⟨_, _, e, h1, h2⟩ := h
 cases e
 refine ⟨cutA ao i c sz, c - i, by rw [qaJ], ⟨by rw [qaJ]; omega, by rw [qaJ]; omega⟩, fun hp => ?_⟩
 rw [qaJ] at hp
 obtain ⟨b, o, rfl, h3⟩ := h2 (by omega)
 refine ⟨b, o + i * sz, qcv (by omega) h1.1, fun k x hx => ?_⟩
 rw [List.getElem?_drop] at hx
 obtain ⟨cs, h4, h5, h6⟩ := h3 (i + k) x hx
 exact ⟨cs, by rw [show o + i * sz + k * sz = o + (i + k) * sz by rw [Nat.add_mul]; omega]; exact h4, h5, h6⟩
def RwQ (H : q01) (_ : q01) (r : Vf) (cs : List Value) : Prop := RwR H r cs
theorem qv1 {H F2 : q01} : ∀ {l : List Vf} {xs : List Value}, LiC H 1 RwR xs l → LiC F2 1 (RwQ H) xs l
 | [], _, h => h
 | x :: l, xs, ⟨cs, r, h1, h2, h3, h4⟩ => ⟨cs, r, h1, h2, h3, qv1 h4⟩
def CQ (A B : List Vf) (i k : Nat) (c : Int) : Prop := (c < 0 ∧ ∃ x, A[i]? = some x ∧ ∀ s ∈ B.drop k, cmpL x s < 0) ∨ (c = 0 ∧ ∃ x, A[i]? = some x ∧ B[k]? = some x) ∨ (0 < c ∧ ∃ y, B[k]? = some y ∧ ∀ s ∈ A.drop i, cmpL y s < 0)
theorem u3j {A B : List Vf} {i k : Nat} (hi : ¬ i < A.length) (hk : k < B.length) : CQ A B i k 1 := .inr (.inr ⟨by decide, B[k], List.getElem?_eq_getElem hk, fun s hs => by rw [List.drop_of_length_le (by omega)] at hs; cases hs⟩)
theorem qx3 {A B : List Vf} {i k : Nat} (hi : i < A.length) (hk : ¬ k < B.length) : CQ A B i k (-1) := .inl ⟨by decide, A[i], List.getElem?_eq_getElem hi, fun s hs => by rw [List.drop_of_length_le (by omega)] at hs; cases hs⟩
theorem u0z {A B : List Vf} (hA : A.Pairwise (fun x y => cmpL x y < 0)) (hB : B.Pairwise (fun x y => cmpL x y < 0)) {i k : Nat} {x y : Vf} (hx : A[i]? = some x) (hy : B[k]? = some y) (fx : q29 x = true) (fy : q29 y = true) : CQ A B i k (cmpL x y) := by
 rcases Int.lt_trichotomy (cmpL x y) 0 with h | h | h
 ·refine .inl ⟨h, x, hx, fun s hs => ?_⟩
  rw [q5y hy] at hs
  rcases List.mem_cons.1 hs with rfl | hs
  ·exact h
  ·exact qfl h (q6t hB hy s hs)
 ·have := q4a fx fy h
  subst this
  exact .inr (.inl ⟨h, x, hx, hy⟩)
 ·have h2 : cmpL y x < 0 := by have := q2g y x; omega
  refine .inr (.inr ⟨h, y, hy, fun s hs => ?_⟩)
  rw [q5y hx] at hs
  rcases List.mem_cons.1 hs with rfl | hs
  ·exact h2
  ·exact qfl h2 (q6t hA hx s hs)
theorem u8j {A B : List Vf} {i k : Nat} {c : Int} (h : CQ A B i k c) (hc : c ≤ 0) : ∃ x, A[i]? = some x := by
 rcases h with ⟨-, x, hx, -⟩ | ⟨-, x, hx, -⟩ | ⟨h1, -⟩
 ·exact ⟨x, hx⟩
 ·exact ⟨x, hx⟩
 ·omega
theorem u6x {A B : List Vf} {i k : Nat} {c : Int} (h : CQ A B i k c) (hc : ¬ c ≤ 0) : ∃ y, B[k]? = some y := by
 rcases h with ⟨h1, -⟩ | ⟨h1, -⟩ | ⟨h1, y, hy, -⟩
 ·omega
 ·omega
 ·exact ⟨y, hy⟩
theorem u5d {A B : List Vf} (hA : A.Pairwise (fun x y => cmpL x y < 0)) {i k : Nat} {O : List Vf} (h : Mg A B i k O) {c : Int} (hq : CQ A B i k c) (hc : c < 0) {x : Vf} (hx : A[i]? = some x) : Mg A B (i + 1) k (O ++ [x]) := by
 rcases hq with ⟨-, x', hx', h2⟩ | ⟨h1, -⟩ | ⟨h1, -⟩
 ·rw [hx] at hx'; cases hx'; exact h.stepA hA hx h2
 ·omega
 ·omega
theorem u5e {A B : List Vf} (hB : B.Pairwise (fun x y => cmpL x y < 0)) {i k : Nat} {O : List Vf} (h : Mg A B i k O) {c : Int} (hq : CQ A B i k c) (hc : 0 < c) {y : Vf} (hy : B[k]? = some y) : Mg A B i (k + 1) (O ++ [y]) := by
 rcases hq with ⟨h1, -⟩ | ⟨h1, -⟩ | ⟨-, y', hy', h2⟩
 ·omega
 ·omega
 ·rw [hy] at hy'; cases hy'; exact (h.swap.stepA hB hy h2).swap
theorem qy9 {A B : List Vf} (hA : A.Pairwise (fun x y => cmpL x y < 0)) (hB : B.Pairwise (fun x y => cmpL x y < 0)) {i k : Nat} {O : List Vf} (h : Mg A B i k O) {c : Int} (hq : CQ A B i k c) (hc : c = 0) {x : Vf} (hx : A[i]? = some x) : Mg A B (i + 1) (k + 1) (O ++ [x]) ∧ k < B.length := by
 rcases hq with ⟨h1, -⟩ | ⟨-, x', hx', h2⟩ | ⟨h1, -⟩
 ·omega
 ·rw [hx] at hx'; cases hx'; exact ⟨h.both hA hB hx h2, (List.getElem?_eq_some_iff.1 h2).1⟩
 ·omega
theorem qmz {rows : List Vf} (h : rows.length = 0) : qmd rows [[], []] (.slice none 0 0) := by
 rw [List.eq_nil_of_length_eq_zero h]
 exact ⟨[], [], [], [], rfl, q0u.nil _ _, rfl, List.Pairwise.nil, fun r => Iff.rfl, Nat.le_refl _⟩
theorem qpv {rows : List Vf} {r : Vf} {u v : Value} {g g9 : Grp} (h : rows.length = 1) (hr : rows[0]? = some r) (hown : q0u 32 1 u 1 [v] g) (hO : TrS (gh g9) 4 VhR v r) : qmd rows [g, g9] u := by
 obtain ⟨r', rfl⟩ := List.length_eq_one_iff.1 h
 cases hr
 exact ⟨[r], g, g9, [v], rfl, hown, LiC.one rfl ⟨v, rfl, hO⟩, List.pairwise_singleton _ _, fun x => Iff.rfl, Nat.le_refl _⟩
theorem qpg {rows A B O : List Vf} {n : Nat} {u : Value} {g gd : Grp} {xs : List Value} (hM : Mg A B A.length B.length O) (hO : q0u 32 1 u O.length xs g) (hL : LiC (gh gd) 1 RwR xs O) (hA : ∀ r, r ∈ A ↔ r ∈ rows.take n) (hB : ∀ r, r ∈ B ↔ r ∈ rows.drop n) (lA : A.length ≤ (rows.take n).length) (lB : B.length ≤ (rows.drop n).length) : qmd rows [g, gd] u := by
 refine ⟨O, g, gd, xs, rfl, hO, hL, hM.srt, fun r => ?_, ?_⟩
 ·rw [hM.done r, hA, hB, ← List.mem_append, List.take_append_drop]
 ·have := hM.len
  rw [qaI] at lA
  rw [qaJ] at lB
  omega
section
variable {n : Sz} {L : List (Nat × Value)} {w0 : World} {F0 : q01} {K0 : List Nat} {F : q01} {A B C D : Grp} {a : Act} {w : World}
theorem u1y (S : St n L w0 F0 K0 F [B, D, A, C] a w) : ∃ F3, (∀ b o, F b = some o → F3 b = some o) ∧ (∀ p ∈ A, F3 p.1 = some p.2) ∧ (∀ p ∈ B, F3 p.1 = some p.2) ∧ ((C ++ D).map (·.1)).Nodup ∧ St n L w0 F0 K0 F3 [C ++ D] a w := by
 have hnd := S.tr.nd
 unfold keys at hnd
 simp only [qaF, List.flatten_nil, qaE, List.map_append, List.nodup_append] at hnd
 have h1 := q2h (G1 := []) S
 have S1 := St.freeze (G1 := []) S
 have h2 := q2h (G1 := [D]) (G2 := [C]) (g := A) S1
 have S2 := St.freeze (G1 := [D]) (G2 := [C]) (g := A) S1
 have S3 := u0x (A := D) (B := C) S2
 refine ⟨_, fun b o h => h2 b o (h1 b o h), fun p hp => q01.add_new hp hnd.2.1.2.1.1, fun p hp => h2 _ _ (q01.add_new hp hnd.1), qev S3, S3⟩
end
theorem quf {F3 H : q01} {v : Value} {l : List Vf} {xs : List Value} {g : Grp} (hO : q0u 32 1 v l.length xs g) (hg : ∀ p ∈ g, F3 p.1 = some p.2) (hL : LiC H 1 RwR xs l) (hl : l.length ≤ 140737488355328) : LiM F3 1 (RwQ H) v l := by
 have hU := hO
 unfold q0u at hU
 rcases hU.2 with ⟨rfl, h5, rfl⟩ | ⟨b, cap, cur, rfl, rfl, h5, h6, h7, h8⟩
 ·rw [List.eq_nil_of_length_eq_zero h5]; exact LiM.nil _ _ _
 ·refine ⟨_, cap, rfl, ⟨h5, hl⟩, fun hp => ⟨b, 0, rfl, fun k x hx => ?_⟩⟩
  obtain ⟨cs, h9, h10, h11⟩ := (qv1 (F2 := F3) hL).get hx
  refine ⟨cs, fun j u hu => ⟨_, _, _, hg (b, _) (List.mem_singleton.2 rfl), ?_⟩, h10, h11⟩
  have h12 := h9 j u hu
  rw [← h8] at h12
  have h13 := (List.getElem?_eq_some_iff.1 h12).1
  rw [qaI] at h13
  rw [List.getElem?_take_of_lt (by omega)] at h12
  rw [Array.getElem?_toList] at h12
  simpa using h12
