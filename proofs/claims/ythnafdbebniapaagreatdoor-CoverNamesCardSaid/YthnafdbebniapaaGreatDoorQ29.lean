/- Walks. -/
import Derived.Test.YthnafdbebniapaaGreatDoorQ28
set_option maxHeartbeats 16000000
set_option maxRecDepth 20000
namespace Go.Proofs.YthnafdbebniapaaGreatDoor
open Go Go.Wk Go.Un Go.De Go.Cv
set_option linter.unusedSimpArgs false
set_option linter.unusedVariables false
attribute [local irreducible] Go.wpList Go.Code.wp Go.wpStill Go.Wk.wpPre Go.bodyPost Go.Calls Go.Wk.Ct Go.Wk.OwnS Go.Wk.wpG Go.Wk.wpM
theorem slf_drop {F : Heap} {ao : Option Addr} {m c : Nat} {x : Ty} {xs : List Ty} (h : SlF F (.slice ao m c) (foOf (x :: xs))) (hl : (x :: xs).length ≤ 140737488355328) : SlF F (.slice (cutA ao 1 c 2) (m - 1) (c - 1)) (foOf xs) := by
 have h1 := lim_drop (i := 1) (slf_lim' h hl) (by simp)
 exact lim_slf h1
theorem trs_drop {F : Heap} {ao : Option Addr} {m c : Nat} {eh : EH} {A r : Ef} (h : TrS F 9 EhR (.slice ao m c) (.cons eh A r)) : TrS F 9 EhR (.slice (cutA ao 1 c 9) (m - 1) (c - 1)) r :=
 trs_kids (lim_drop (i := 1) (kids_lim h) (by rw [kids_len]; exact Nat.succ_le_succ (Nat.zero_le _)))
theorem trs_drop' {F : Heap} {v : Value} {eh : EH} {A r : Ef} (h : TrS F 9 EhR v (.cons eh A r)) : ∀ ao m c, v = .slice ao m c → TrS F 9 EhR (.slice (cutA ao 1 c 9) (m - 1) (c - 1)) r := fun ao m c e => by subst e; exact trs_drop h
theorem seen_at {rows : List Ef} {i : Nat} {eh : EH} {A r : Ef} (hx : rows[i]? = some (.cons eh A r)) : seenR showV (rows.take (i + 1)) = seenR showV (rows.take i) ++ (match hdO showV eh with | some s => [s] | none => []) := by
 unfold seenR
 rw [List.take_add_one, hx, List.filterMap_append]
 congr 1
 show List.filterMap (hdR showV) [.cons eh A r] = _
 rw [List.filterMap_cons]
 rw [show hdR showV (.cons eh A r) = hdO showV eh from rfl]
 cases hdO showV eh <;> rfl
theorem rest_at {rows : List Ef} {i : Nat} {eh : EH} {A r : Ef} (hx : rows[i]? = some (.cons eh A r)) : restR showV (rows.take (i + 1)) = restR showV (rows.take i) ++ (match hdO showV eh with | some _ => [] | none => [r]) := by
 unfold restR
 rw [List.take_add_one, hx, List.filter_append, List.map_append]
 congr 1
 show List.map tlR (List.filter (fun r => (hdR showV r).isNone) [.cons eh A r]) = _
 rw [List.filter_cons]
 show List.map tlR (if (hdO showV eh).isNone = true then _ else _) = _
 cases hdO showV eh <;> rfl
theorem seen_s {rows : List Ef} {i : Nat} {eh : EH} {A r : Ef} {s : List UInt8} (hx : rows[i]? = some (.cons eh A r)) (h : hdO showV eh = some s) : seenR showV (rows.take (i + 1)) = seenR showV (rows.take i) ++ [s] := by rw [seen_at hx, h]
theorem seen_n {rows : List Ef} {i : Nat} {eh : EH} {A r : Ef} (hx : rows[i]? = some (.cons eh A r)) (h : hdO showV eh = none) : seenR showV (rows.take (i + 1)) = seenR showV (rows.take i) := by rw [seen_at hx, h, List.append_nil]
theorem rest_s {rows : List Ef} {i : Nat} {eh : EH} {A r : Ef} {s : List UInt8} (hx : rows[i]? = some (.cons eh A r)) (h : hdO showV eh = some s) : restR showV (rows.take (i + 1)) = restR showV (rows.take i) := by rw [rest_at hx, h, List.append_nil]
theorem rest_n {rows : List Ef} {i : Nat} {eh : EH} {A r : Ef} (hx : rows[i]? = some (.cons eh A r)) (h : hdO showV eh = none) : restR showV (rows.take (i + 1)) = restR showV (rows.take i) ++ [r] := by rw [rest_at hx, h]
theorem rest_len (rows : List Ef) : (restR showV rows).length ≤ rows.length := by
 unfold restR
 rw [List.length_map]
 exact List.length_filter_le _ _
def SeenM (es : List (List UInt8 × Value)) (l : List (List UInt8)) : Prop := EsOK es ∧ ∀ s, (mGet es s).isSome = decide (s ∈ l)
theorem seenM_nil : SeenM [] [] := ⟨fun p hp => (by cases hp), fun s => by simp [mGet]⟩
theorem mset_mem {es : List (List UInt8 × Value)} {s : List UInt8} {v : Value} : ∀ p ∈ mSet es s v, p = (s, v) ∨ p ∈ es := by
 induction es with
 | nil => intro p hp; left; simpa [mSet] using hp
 | cons q r ih =>
  obtain ⟨a, u⟩ := q
  intro p hp
  unfold mSet at hp
  split at hp
  ·rename_i e
   subst e
   rcases List.mem_cons.1 hp with h | h
   ·exact .inl h
   ·exact .inr (List.mem_cons_of_mem _ h)
  ·rcases List.mem_cons.1 hp with h | h
   ·exact .inr (by rw [h]; exact List.mem_cons_self ..)
   ·rcases ih p h with h | h
    ·exact .inl h
    ·exact .inr (List.mem_cons_of_mem _ h)
theorem SeenM.set {es : List (List UInt8 × Value)} {l : List (List UInt8)} (h : SeenM es l) (s : List UInt8) : SeenM (mSet es s (.agg ⟨[.string (bs s), .slice none 0 0]⟩)) (l ++ [s]) := by
 refine ⟨fun p hp => ?_, fun t => ?_⟩
 ·rcases mset_mem p hp with rfl | hp
  ·rfl
  ·exact h.1 p hp
 ·rw [mGet_set]
  by_cases e : t = s
  ·subst e; rw [if_pos rfl]; simp
  ·rw [if_neg e, h.2 t]
   simp [e]
theorem allq_ex {F' : Heap} {u : Value} {es : List (List UInt8 × Value)} {o : Option (List (Frm Ty))} (h : AllQ F' u es o) : ∃ v b, u = .tuple ⟨[v, .bool b]⟩ ∧ (b = true → ∃ fs, o = some fs ∧ (fs.all fun f => (mGet es f.nm).isSome) = true ∧ LiM F' 2 FmR v fs) ∧ (b = false → o = none ∨ ∃ fs, o = some fs ∧ (fs.all fun f => (mGet es f.nm).isSome) = false) := by
 cases o with
 | none => exact ⟨_, false, h, fun h => (by cases h), fun _ => .inl rfl⟩
 | some fs =>
  obtain ⟨v, rfl, h2⟩ := h
  exact ⟨v, _, rfl, fun h3 => ⟨fs, rfl, h3, h2⟩, fun h3 => .inr ⟨fs, rfl, h3⟩⟩
theorem use_nil {ts : List TD} {n : Nat} {rows : List Ef} {q : Ef} : useC ts (n + 1) [] rows q = decide (rows.length = 0) := rfl
theorem use_some {ts : List TD} {n : Nat} {x : Ty} {xs : List Ty} {rows : List Ef} {h : EH} {L r : Ef} {s : List UInt8} (hs : hdO showV h = some s) : useC ts (n + 1) (x :: xs) rows (.cons h L r) = useC ts n (kidF (consOf ts) h L.len x ++ xs) (specR showV ⟨s, kidF (consOf ts) h L.len x⟩ rows) (appR L r) := by
 conv => lhs; unfold useC useF; rw [hs]
theorem use_none {ts : List TD} {n : Nat} {x : Ty} {xs : List Ty} {rows : List Ef} {h : EH} {L r : Ef} (hs : hdO showV h = none) (ho : allF ts (consOf ts) x = none ∨ ∃ fs, allF ts (consOf ts) x = some fs ∧ (fs.all fun f => decide (f.nm ∈ seenR showV rows)) = false) : useC ts (n + 1) (x :: xs) rows (.cons h L r) = useC ts n xs (restR showV rows) r := by
 conv => lhs; unfold useC useF; rw [hs]
 dsimp only
 rcases ho with ho | ⟨fs, ho, h2⟩
 ·conv => lhs; rw [ho]
 ·conv => lhs; rw [ho]
  dsimp only
  rw [if_neg (by rw [h2]; decide)]
theorem use_all {ts : List TD} {n : Nat} {x : Ty} {xs : List Ty} {rows : List Ef} {h : EH} {L r : Ef} {fs : List (Frm Ty)} (hs : hdO showV h = none) (ho : allF ts (consOf ts) x = some fs) (h2 : (fs.all fun f => decide (f.nm ∈ seenR showV rows)) = true) :
  useC ts (n + 1) (x :: xs) rows (.cons h L r) = fs.any fun f => useC ts n (f.tys ++ xs) (specR showV f rows) (asR showV f (.cons h L r)).1 := by
 conv => lhs; unfold useC useF; rw [hs]
 dsimp only
 conv => lhs; rw [ho]
 dsimp only
 rw [if_pos h2]
 congr 1
 funext f
 rw [as_none hs]
theorem ur_some {ts : List TD} {css : List KC} {n : Nat} {x : Ty} {xs : List Ty} {rows : List Ef} {h : EH} {L r : Ef} {s : List UInt8} (hu : UR ts css (n + 1) (x :: xs) rows (.cons h L r)) (hs : hdO showV h = some s) : UR ts css n (kidF css h L.len x ++ xs) (specR showV ⟨s, kidF css h L.len x⟩ rows) (appR L r) := by
 have h1 := hu.2
 rw [hs] at h1
 exact h1
theorem ur_none {ts : List TD} {css : List KC} {n : Nat} {x : Ty} {xs : List Ty} {rows : List Ef} {h : EH} {L r : Ef} (hu : UR ts css (n + 1) (x :: xs) rows (.cons h L r)) (hs : hdO showV h = none) (ho : allF ts css x = none ∨ ∃ fs, allF ts css x = some fs ∧ (fs.all fun f => decide (f.nm ∈ seenR showV rows)) = false) : UR ts css n xs (restR showV rows) r := by
 have h1 := hu.2
 rw [hs] at h1
 dsimp only at h1
 rcases ho with ho | ⟨fs, ho, h2⟩
 ·rw [ho] at h1; exact h1
 ·rw [ho] at h1; dsimp only at h1; rw [if_neg (by rw [h2]; decide)] at h1; exact h1
theorem ur_all {ts : List TD} {css : List KC} {n : Nat} {x : Ty} {xs : List Ty} {rows : List Ef} {h : EH} {L r : Ef} {fs : List (Frm Ty)} (hu : UR ts css (n + 1) (x :: xs) rows (.cons h L r)) (hs : hdO showV h = none) (ho : allF ts css x = some fs) (h2 : (fs.all fun f => decide (f.nm ∈ seenR showV rows)) = true) :
  ∀ f ∈ fs, UR ts css n (f.tys ++ xs) (specR showV f rows) (asR showV f (.cons h L r)).1 := by
 have h1 := hu.2
 rw [hs] at h1
 dsimp only at h1
 rw [ho] at h1
 dsimp only at h1
 rw [if_pos h2] at h1
 intro f hf
 rw [as_none hs]
 exact h1 f hf
theorem all_seen {es : List (List UInt8 × Value)} {rows : List Ef} (h : SeenM es (seenR showV rows)) (fs : List (Frm Ty)) : (fs.all fun f => (mGet es f.nm).isSome) = fs.all fun f => decide (f.nm ∈ seenR showV rows) := by
 congr 1
 funext f
 exact h.2 f.nm
theorem useful0Ct {tb : Nat} {ts : List TD} {n : Nat} (F : Heap) (v1 v2 v3 : Value) (rows : List Ef) (q : Ef) (h1 : SlF F v1 (foOf [])) (h2 : LiM F 1 RwR v2 rows) (h3 : TrS F 9 EhR v3 q) :
  Ct Tryz.prog 54 [.agg ⟨[.pointer (some ⟨tb, 0, none⟩)]⟩, v1, v2, v3] F [] (fun _ _ u => u = .bool (useC ts (n + 1) [] rows q)) := by
 obtain ⟨a1, c1, rfl, -, -⟩ := h1
 obtain ⟨a2, c2, rfl, -, -⟩ := h2
 obtain ⟨a3, c3, rfl, -, -⟩ := h3
 refine Ct.enter Tryz.func54 rfl Tryz.ntmps54 rfl fun w0 a S => ?_
 refine wp_sr fun Z hZ => ?_
 (refine wbx S ?_; clear S a; intro b4 a w S)
 (refine wbx S ?_; clear S a; intro b5 a w S)
 (refine wbx S ?_; clear S a; intro b6 a w S)
 (refine wbx S ?_; clear S a; intro b7 a w S)
 (revert S a; revert hZ Z; refine go 7 ?_; intro Z hZ Z hZ a S)
 (refine wv S (sv_lit (c := true) (sv_pure S rfl) (by rfl)) ?_; clear S a; intro a S)
 (revert S a; revert hZ Z; refine go 2 ?_; intro a S)
 refine wpc_true S rfl ?_
 (revert S a; refine go 7 ?_; intro a S)
 refine wp_ret (fr1 S Tryz.results54 ?_)
 (congr 1; rw [use_nil, Bool.eq_iff_iff, decide_eq_true_eq, beq_iff_eq]; omega)
theorem row_open {F : Heap} {v : Value} {eh : EH} {A r : Ef} (h : TrS F 9 EhR v (.cons eh A r)) : ∃ (b o cap : Nat) (cs : List Value), v = .slice (some ⟨b, o, none⟩) (r.len + 1) cap ∧ r.len + 1 ≤ cap ∧ Cels F b (o + 0 * 9) cs ∧ PxC F cs eh A := by
 obtain ⟨ao, cap, rfl, hcap, hpos⟩ := h
 obtain ⟨b, o, rfl, hM⟩ := hpos (Nat.succ_pos _)
 obtain ⟨⟨cs, ao2, cap2, ⟨w1, rfl, hw1⟩, hl8, hc, hcap2, hpos2⟩, hM2⟩ := hM
 have hA : TrS F 9 EhR (.slice ao2 A.len cap2) A := ⟨ao2, cap2, rfl, hcap2, hpos2⟩
 obtain ⟨aw, cw, rfl, -, -⟩ := id hw1
 exact ⟨b, o, cap, _, rfl, hcap.1, by rw [Nat.zero_mul, Nat.add_zero]; exact hc, ⟨_, _, _, ao2, cap2, rfl, hw1, hA⟩⟩
theorem tys_open {F : Heap} {v : Value} {x : Ty} {xs : List Ty} (h : SlF F v (foOf (x :: xs))) : ∃ (b o cap : Nat) (u : Value), v = .slice (some ⟨b, o, none⟩) (xs.length + 1) cap ∧ xs.length + 1 ≤ cap ∧ Cels F b (o + 0 * 2) [.string (bs x.1), u] ∧ SlF F u x.2 := by
 obtain ⟨ao, cap, rfl, hcap, hpos⟩ := h
 have hl : (foOf (x :: xs)).len = xs.length + 1 := by rw [foOf_len]; rfl
 obtain ⟨b, o, rfl, hM⟩ := hpos (by omega)
 obtain ⟨cs, h1, h2, u, rfl, h3⟩ := hM.at (k := 0) (x := x) rfl
 exact ⟨b, o, cap, u, by rw [hl], by omega, h1, h3⟩
theorem zzCx0 {p : Prop} (h : p := by (congr 1; first | (rw [use_some e1, as_some e1]; done) | (rw [use_all e0 hfs hall]; done) | (rw [use_none e0 ho]; done) | trace_state)) : p := h
theorem zzCx1 {p : Prop} (h : p := by (rw [← hao] at S; first | (have e5 := of_some (by assumption : (hdO showV eh2).isSome = true); refine ⟨rows.length - (k + 1), by omega, k + 1, mSet es (hdN (hdO showV eh2)) (.agg ⟨[.string (bs (hdN (hdO showV eh2))), .slice none 0 0]⟩), v, g, ys, rfl, by omega, by rw [seen_s hx e5]; exact hsm.set _, by rw [rest_s hx e5]; exact hown, by rw [rest_s hx e5]; exact hxs, ?_⟩; (refine S.keep ?_; exact zk); done) | (have e5 := of_none (by assumption : (hdO showV eh2).isSome = false); refine ⟨rows.length - (k + 1), by omega, k + 1, es, v, g, ys ++ [.slice (cutA (some ⟨b5x, o5x, none⟩) 1 c5 9) (r2.len + 1 - 1) (c5 - 1)], rfl, by omega, by rw [seen_n hx e5]; exact hsm, by rw [rest_n hx e5, List.length_append]; exact hown, by rw [rest_n hx e5]; exact LiC.app hxs (LiC.one rfl ⟨_, rfl, h5t _ _ _ rfl⟩), ?_⟩; (refine S.keep ?_; exact zk); done) | trace_state)) : p := h
theorem useful1Ct {tb : Nat} {ts : List TD} (hTz : TSz ts) {n : Nat} (ih : UseD tb ts n) (F : Heap) (hT : TabF F) (hC : CTab F tb ts) (v1 v2 v3 : Value) (x : Ty) (xs : List Ty) (rows : List Ef) (eh : EH) (A r : Ef) (h1 : SlF F v1 (foOf (x :: xs))) (h2 : LiM F 1 RwR v2 rows) (h3 : TrS F 9 EhR v3 (.cons eh A r)) (hur : UR ts (consOf ts) (n + 1) (x :: xs) rows (.cons eh A r)) :
  Ct Tryz.prog 54 [.agg ⟨[.pointer (some ⟨tb, 0, none⟩)]⟩, v1, v2, v3] F [] (fun _ _ u => u = .bool (useC ts (n + 1) (x :: xs) rows (.cons eh A r))) := by
 have hu := hur.ug
 obtain ⟨⟨hbq, hpq⟩, hql, hqs⟩ := hu.q
 obtain ⟨hth, hdp⟩ := hu.ty x (List.mem_cons_self ..)
 have hxl := hu.xl
 have hrl := hu.rl
 obtain ⟨b1x, o1x, c1, ux, rfl, h1c, hcty, hux⟩ := tys_open h1
 obtain ⟨ax, cx, rfl, -, -⟩ := id hux
 obtain ⟨a2, c2, rfl, h2c, h2p⟩ := id h2
 obtain ⟨b3x, o3x, c3, cs3, rfl, h3c, hc3, hX3⟩ := row_open h3
 obtain ⟨ap, np, cp, aq, cq, rfl, -, -⟩ := id hX3
 have h1t := slf_drop h1 (by omega)
 have h3t := trs_drop h3
 (simp only [List.length_cons] at hxl)
 refine Ct.enter Tryz.func54 rfl Tryz.ntmps54 rfl fun w0 a S => ?_
 refine wp_sr fun Z hZ => ?_
 (refine wbx S ?_; clear S a; intro b4 a w S)
 (refine wbx S ?_; clear S a; intro b5 a w S)
 (refine wbx S ?_; clear S a; intro b6 a w S)
 (refine wbx S ?_; clear S a; intro b7 a w S)
 (revert S a; revert hZ Z; refine go 4 ?_; intro Z hZ a S)
 (refine wp_seq_k ?_; intro Z hZ)
 (have S' := frz1 S; clear S; obtain ⟨G7, hg7, hb7, S⟩ := S'; have S' := frz1 S; clear S; obtain ⟨G6, hg6, hb6, S⟩ := S'; have S' := frz1 S; clear S; obtain ⟨G5, hg5, hb5, S⟩ := S'; have S' := frz1 S; clear S; obtain ⟨G4, hg4, hb4, S⟩ := S'; have hF4 : ∀ b o, F b = some o → G4 b = some o := (fun b o h => hg4 _ _ (hg5 _ _ (hg6 _ _ (hg7 _ _ h)))); have hc7 : Cel G4 b7 0 (.slice (some ⟨b3x, o3x, none⟩) (r.len + 1) c3) := ⟨_, _, _, hg4 _ _ (hg5 _ _ (hg6 _ _ hb7)), rfl⟩; have hc6 : Cel G4 b6 0 (.slice a2 rows.length c2) := ⟨_, _, _, hg4 _ _ (hg5 _ _ hb6), rfl⟩; have hc5 : Cel G4 b5 0 (.slice (some ⟨b1x, o1x, none⟩) (xs.length + 1) c1) := ⟨_, _, _, hg4 _ _ hb5, rfl⟩; have hc4 : Cel G4 b4 0 (.pointer (some ⟨tb, 0, none⟩)) := ⟨_, _, _, hb4, rfl⟩; clear hb4 hb5 hb6 hb7; replace hT := hT.mono hF4; replace hC := hC.mono hF4; replace h1 := h1.mono hF4; replace h2 := h2.mono hF4; obtain ⟨_, _, eh2, -, h2p⟩ := id h2; cases eh2; replace h3 := h3.mono hF4; replace h1t := h1t.mono hF4; replace h3t := h3t.mono hF4; replace hcty := Cels.mono hF4 hcty; replace hux := hux.mono hF4; replace hc3 := Cels.mono hF4 hc3; replace hX3 := hX3.mono hF4; have hh := headCt G4 hT eh A _ hX3 hbq.1.2 hpq.1; rw [hdV_eq] at hh; have hc4s := cels_one hc4)
 refine wp_region_lit ?_
 first | (refine wv S (sv_loadO S rfl rfl (by rfl)) ?_; clear S a; intro a S) | (refine wv S (sv_loadF S rfl rfl (by assumption)) ?_; clear S a; intro a S) | (refine wv S (sv_loadF S rfl rfl hc7) ?_; clear S a; intro a S) | (refine wv S (sv_loadF S rfl rfl hc6) ?_; clear S a; intro a S) | (refine wv S (sv_loadF S rfl rfl hc5) ?_; clear S a; intro a S)
 (revert S a; refine go 1 ?_; intro a S)
 (refine wv S (sv_lit (c := false) (sv_pure S rfl) (by exact beq_false_of_ne (by omega))) ?_; clear S a; intro a S)
 (revert S a; revert hZ Z; refine go 2 ?_; intro a S)
 refine wpc_false S rfl ?_
 (revert S a; revert hZ Z; refine go 9 ?_; intro Z hZ Z hZ a S)
 first | (refine wv S (sv_loadO S rfl rfl (by rfl)) ?_; clear S a; intro a S) | (refine wv S (sv_loadF S rfl rfl (by assumption)) ?_; clear S a; intro a S) | (refine wv S (sv_loadF S rfl rfl hc7) ?_; clear S a; intro a S) | (refine wv S (sv_loadF S rfl rfl hc6) ?_; clear S a; intro a S) | (refine wv S (sv_loadF S rfl rfl hc5) ?_; clear S a; intro a S)
 (revert S a; refine go 1 ?_; intro a S)
 (refine wv S (sv_loadAF S rfl rfl hc3 rfl) ?_; clear S a; intro a S)
 (refine wc0 S hh ?_; clear S a; intro v33 a w hv S; subst hv)
 (revert S a; revert hZ Z; refine go 11 ?_; intro a S)
 refine wpc_sp S rfl ?_ ?_ <;> intro h
 ·(refine wp_seq_k ?_; intro Z hZ)
  (refine wpc_mixM [0, 1, 2, 3, 4, 5, 6, 7, 9, 10, 11] [1, 2, 4, 5, 7] [] (.one 0 (.one 1 (.one 2 (.one 3 (.one 4 (.one 5 (.one 6 (.one 7 (.one 8 (.one 9 (.one 10 (.one 11 (.one 12 (.one 13 .nil)))))))))))))) [] S mixed (by kernel_rfl) ?_; clear S; intro w S)
  (revert S a; refine go 1 ?_; intro a S)
  (refine wlF S rfl (fun w' S => sv_loadF S rfl rfl hc4) ?_; clear S a; intro a S)
  (refine wlF S rfl (fun w' S => sv_loadF S rfl rfl hc7) ?_; clear S a; intro a S)
  (revert S a; refine go 1 ?_; intro a S)
  (refine wlF S rfl (fun w' S => sv_loadAF S rfl rfl hc3 rfl) ?_; clear S a; intro a S)
  (refine wlF S rfl (fun w' S => sv_loadF S rfl rfl hc5) ?_; clear S a; intro a S)
  (revert S a; refine go 1 ?_; intro a S)
  (refine wlF S rfl (fun w' S => sv_loadAF S rfl rfl hcty rfl) ?_; clear S a; intro a S)
  refine wpm_eff rfl rfl (kwa S) ?_
  (refine wcF S (kidsCt G4 tb ts hC eh A _ hX3 hbq.1 x _ ⟨_, rfl, hux⟩ hth hdp) ?_; clear S a; intro v46 F9 a w hv9 hF9 S; obtain ⟨aK, qK, cK, rfl, hK9⟩ := hv9)
  (revert S a; revert hZ Z; refine go 17 ?_; intro Z hZ a S)
  (have e1 := of_some (by assumption : (hdO showV eh).isSome = true); have hur1 : UR ts (consOf ts) n (kidF (consOf ts) eh A.len x ++ xs) (specR showV (⟨hdN (hdO showV eh), kidF (consOf ts) eh A.len x⟩ : Frm Ty) rows) (asR showV (⟨hdN (hdO showV eh), kidF (consOf ts) eh A.len x⟩ : Frm Ty) (.cons eh A r)).1 := (by rw [as_some e1]; exact ur_some hur e1); refine wc0 S (cuse1Ct ih F9 (hT.mono hF9) (hC.mono hF9) x xs rows eh A r hu _ _ _ (h1.mono hF9) (h2.mono hF9) (h3.mono hF9) b4 b5 b6 b7 (Cel.mono hF9 hc4) (Cel.mono hF9 hc5) (Cel.mono hF9 hc6) (Cel.mono hF9 hc7) ⟨hdN (hdO showV eh), kidF (consOf ts) eh A.len x⟩ _ ⟨_, rfl, hK9⟩ hur1) ?_; clear S a; intro v53 a w hv S; subst hv)
  (revert S a; revert hZ Z; refine go 3 ?_; intro a S)
  refine wp_ret (fr1 S Tryz.results54 ?_)
  exact zzCx0
 (revert S a; revert hZ Z; refine go 3 ?_; intro Z hZ a S)
 (refine wpl_makeMap kS S rfl rfl rfl rfl ?_; clear S a; intro b54 a w S)
 (revert S a; revert hZ Z; refine go 9 ?_; intro Z hZ Z hZ a S)
 first | (refine wv S (sv_loadO S rfl rfl (by rfl)) ?_; clear S a; intro a S) | (refine wv S (sv_loadF S rfl rfl (by assumption)) ?_; clear S a; intro a S) | (refine wv S (sv_loadF S rfl rfl hc7) ?_; clear S a; intro a S) | (refine wv S (sv_loadF S rfl rfl hc6) ?_; clear S a; intro a S) | (refine wv S (sv_loadF S rfl rfl hc5) ?_; clear S a; intro a S)
 (revert S a; revert hZ Z; refine go 5 ?_; intro a S)
 refine wpc_loop (fun m a w' => ∃ (k : Nat) (es : List (List UInt8 × Value)) (v : Value) (g : Grp) (ys : List Value), m = rows.length - k ∧ k ≤ rows.length ∧ SeenM es (seenR showV (rows.take k)) ∧ OwnS 27 1 v (restR showV (rows.take k)).length ys g ∧ LiC G4 1 RwR ys (restR showV (rows.take k)) ∧ St 99 [(4, ptr b4), (5, ptr b5), (6, ptr b6), (7, ptr b7), (9, .func (.func 94) ⟨[]⟩ ⟨[ptr b7, ptr b4, ptr b5, ptr b6]⟩), (14, .map (some b54)), (15, v), (55, .slice a2 rows.length c2), (56, .int .i64 rows.length), (57, .int .i64 k)] w0 F [] G4 [g, [(b54, mObj kS es)]] a w') ?_ ?_
 ·(replace S := S.nilg; refine ⟨rows.length, 0, [], .slice none 0 0, [], [], by omega, Nat.zero_le _, seenM_nil, OwnS.nil _ _, rfl, ?_⟩; refine S.keep ?_; exact zk)
 (clear S; rintro m a w ⟨k, es, v, g, ys, rfl, hkl, hsm, hown, hxs, S⟩)
 (revert S a; refine go 5 ?_; intro Z hZ a S)
 refine wpc_sp S rfl ?_ ?_ <;> intro h
 ·(revert S a; revert hZ Z; refine go 4 ?_; intro Z hZ a S)
  (refine wp_seq_k ?_; intro Z hZ)
  (obtain ⟨b8, o8, hao, r0, cs1, hx, hcr, ⟨u1, rfl, hu1⟩⟩ := LiM.pos h2p (k := k) (by omega); rw [hao] at S; replace hcr : Cel G4 b8 (o8 + k * 1) _ := hcr 0 _ rfl; obtain ⟨⟨hrb, hrp⟩, hrn, hrs⟩ := hu.rw r0 (List.mem_of_getElem? hx); have hne : r0 ≠ .nil := (fun e => by rw [e] at hrn; cases hrn); obtain ⟨eh2, A2, r2, rfl⟩ := row_cons hne; have h5t := trs_drop' hu1; obtain ⟨b5x, o5x, c5, cs5, rfl, h5c, hc5x, hX5⟩ := row_open hu1; obtain ⟨ap5, np5, cp5, aq5, cq5, rfl, -, -⟩ := id hX5; have hh2 := headCt G4 hT eh2 A2 _ hX5 hrb.1.2 hrp.1; rw [hdV_eq] at hh2)
  (revert S a; refine go 2 ?_; intro a S)
  (refine wv S (sv_loadF S rfl rfl hcr) ?_; clear S a; intro a S)
  (revert S a; revert hZ Z; refine go 6 ?_; intro Z hZ a S)
  (refine wv S (sv_loadAF S rfl rfl hc5x rfl) ?_; clear S a; intro a S)
  (refine wc0 S hh2 ?_; clear S a; intro v65 a w hv S; subst hv)
  (revert S a; revert hZ Z; refine go 11 ?_; intro a S)
  refine wpc_sp S rfl ?_ ?_ <;> intro h
  ·(revert S a; refine go 5 ?_; intro a S)
   (refine wpl_mapSet (enc := kS) S rfl rfl rfl rfl rfl rfl ?_; clear S; intro w S)
   (revert S a; revert hZ Z; refine go 6 ?_; intro a S)
   change ∃ m', _ ∧ _
   exact zzCx1
  (obtain ⟨aoK, capK, rfl, -⟩ := hown.at; have hsl := rest_len (rows.take k); rw [List.length_take] at hsl)
  (revert S a; refine go 3 ?_; intro a S)
  (refine wv S (sv_sliceSl_lo (i := 1) S rfl rfl rfl (by omega)) ?_; clear S a; intro a S)
  (refine wpl_append S rfl rfl rfl rfl rfl rfl rfl rfl rfl rfl rfl (fun _ => rfl) hown (by rfl) (by simp [Value.cells, splice, splice]) (by simp [Value.cells, Value.oneCell', splice, splice]) rfl (by rfl) (by rfl) rfl (by omega) (by omega) ?_; clear hown S a; intro v u g a w hown S)
  (revert S a; revert hZ Z; refine go 7 ?_; intro a S)
  change ∃ m', _ ∧ _
  exact zzCx1
 (refine wp_exit ?_; conv => whnf)
 clear hZ Z
 (revert S a; revert hZ Z; refine go 2 ?_; intro Z hZ a S)
 (refine wp_seq_k ?_; intro Z hZ)
 (have hkk : k = rows.length := (by omega); subst hkk; rw [List.take_length] at hsm hxs hown; have hle1 := add_le (G1 := []) S; replace S := St.freeze (G1 := []) S; (simp only [List.nil_append] at S hle1); have hR9 := LiC.lim hown hxs rfl hle1 (by have := rest_len rows; omega); have S' := frz1 S; clear S; obtain ⟨G8, hg8, hmb, S⟩ := S'; have hF8 : ∀ b o, G4 b = some o → G8 b = some o := (fun b o h => hg8 _ _ (hle1 _ _ h)); replace hR9 := hR9.mono hg8; replace hT := hT.mono hF8; replace hC := hC.mono hF8; replace h1 := h1.mono hF8; replace h2 := h2.mono hF8; replace h3 := h3.mono hF8; replace h1t := h1t.mono hF8; replace h3t := h3t.mono hF8; replace hcty := Cels.mono hF8 hcty; replace hux := hux.mono hF8; replace hc4 := Cel.mono hF8 hc4; replace hc5 := Cel.mono hF8 hc5; replace hc6 := Cel.mono hF8 hc6; replace hc7 := Cel.mono hF8 hc7; replace hc4s := cels_one hc4; have e0 := of_none (by assumption : (hdO showV eh).isSome = false))
 (refine wpc_mixM [0, 1, 2, 3, 4, 6, 7, 8] [0, 1, 3] [] (.one 0 (.one 1 (.one 2 (.one 3 (.one 4 (.one 5 (.one 6 (.one 7 (.one 8 (.one 9 (.one 10 .nil))))))))))) [] S mixed (by kernel_rfl) ?_; clear S; intro w S)
 (refine wlF S rfl (fun w' S => sv_loadAF S rfl rfl hc4s rfl) ?_; clear S a; intro a S)
 (refine wlF S rfl (fun w' S => sv_loadF S rfl rfl hc5) ?_; clear S a; intro a S)
 (revert S a; refine go 1 ?_; intro a S)
 (refine wlF S rfl (fun w' S => sv_loadAF S rfl rfl hcty rfl) ?_; clear S a; intro a S)
 (revert S a; refine go 2 ?_; intro a S)
 (refine wcF S (allCt G8 tb ts hC hTz x _ ⟨_, rfl, hux⟩ hth b54 es hmb hsm.1) ?_; clear S a; intro v85 F9 a w hv9 hF9 S; obtain ⟨v9, bb, rfl, hb1, hb2⟩ := allq_ex hv9)
 (revert S a; revert hZ Z; refine go 16 ?_; intro a S)
 refine wpc_sp S rfl ?_ ?_ <;> intro h
 ·(revert S a; refine go 3 ?_; intro Z hZ a S)
  (obtain ⟨fs, hfs, hall, hL⟩ := hb1 (by assumption); rw [all_seen hsm] at hall; have hc := cfFCt F9 _ fs.length _ hL.sq 94 [] [ptr b7, ptr b4, ptr b5, ptr b6] (fun k => match fs[k]? with | some f => useC ts n (f.tys ++ xs) (specR showV f rows) (asR showV f (.cons eh A r)).1 | none => false) (fun k cs hk ⟨f, hf, hR⟩ => by rw [hf]; exact cuse1Ct ih F9 (hT.mono hF9) (hC.mono hF9) x xs rows eh A r hu _ _ _ (h1.mono hF9) (h2.mono hF9) (h3.mono hF9) b4 b5 b6 b7 (Cel.mono hF9 hc4) (Cel.mono hF9 hc5) (Cel.mono hF9 hc6) (Cel.mono hF9 hc7) f cs hR (ur_all hur e0 hfs hall f (List.mem_of_getElem? hf))); rw [anyN_list (q := fun f => useC ts n (f.tys ++ xs) (specR showV f rows) (asR showV f (.cons eh A r)).1) (fun k x hx => by rw [hx])] at hc; refine wc0 S hc ?_; clear S a hc; intro v91 a w hv S; subst hv)
  (revert S a; revert hZ Z; refine go 3 ?_; intro a S)
  refine wp_ret (fr1 S Tryz.results54 ?_)
  exact zzCx0
 refine wp_skip ?_
 (refine hZ _ _ ?_; clear hZ Z)
 (refine wp_seq_k ?_; intro Z hZ)
 (refine wpc_mixM [0, 1, 2, 3, 4, 5] [0, 1, 4] [] (.one 0 (.one 1 (.one 2 (.one 3 (.one 4 (.one 5 (.one 6 (.one 7 .nil)))))))) [] S mixed (by kernel_rfl) ?_; clear S; intro w S)
 (refine wlF S rfl (fun w' S => sv_loadAF S rfl rfl (Cels.mono hF9 hc4s) rfl) ?_; clear S a; intro a S)
 (refine wlF S rfl (fun w' S => sv_loadF S rfl rfl (Cel.mono hF9 hc5)) ?_; clear S a; intro a S)
 (refine wpm_v S rfl rfl rfl (want_none _ rfl) rfl rfl (fun w' S => sv_sliceSl_lo (i := 1) S rfl rfl rfl (by omega)) ?_; clear S a; intro a S)
 (revert S a; refine go 1 ?_; intro a S)
 (refine wlF S rfl (fun w' S => sv_loadF S rfl rfl (Cel.mono hF9 hc7)) ?_; clear S a; intro a S)
 (refine wpm_v S rfl rfl rfl (want_none _ rfl) rfl rfl (fun w' S => sv_sliceSl_lo (i := 1) S rfl rfl rfl (by omega)) ?_; clear S a; intro a S)
 refine wpm_eff rfl rfl (kwa S) ?_
 (have ho : allF ts (consOf ts) x = none ∨ ∃ fs, allF ts (consOf ts) x = some fs ∧ (fs.all fun f => decide (f.nm ∈ seenR showV rows)) = false := (by rcases hb2 (by assumption) with ho | ⟨fs, ho, h9⟩; exact .inl ho; exact .inr ⟨fs, ho, by rw [← all_seen hsm]; exact h9⟩); refine wc0 S (ih F9 _ _ _ xs (restR showV rows) r (hT.mono hF9) (hC.mono hF9) (h1t.mono hF9) (hR9.mono hF9) (h3t.mono hF9) (ur_none hur e0 ho)) ?_; clear S a; intro v98 a w hv S; subst hv)
 (revert S a; revert hZ Z; refine go 6 ?_; intro a S)
 refine wp_ret (fr1 S Tryz.results54 ?_)
 exact zzCx0
theorem usefulCt (tb : Nat) {ts : List TD} (hTz : TSz ts) : ∀ n, UseD tb ts n
 | 0 => fun F v1 v2 v3 xs rows q hT hC h1 h2 h3 hu => hu.elim
 | n + 1 => fun F v1 v2 v3 xs rows q hT hC h1 h2 h3 hu => by
  cases xs with
  | nil => exact useful0Ct F v1 v2 v3 rows q h1 h2 h3
  | cons x xs => cases q with
   | nil => exact hu.elim
   | cons eh A r => exact useful1Ct hTz (usefulCt tb hTz n) F hT hC v1 v2 v3 x xs rows eh A r h1 h2 h3 hu
end Go.Proofs.YthnafdbebniapaaGreatDoor
