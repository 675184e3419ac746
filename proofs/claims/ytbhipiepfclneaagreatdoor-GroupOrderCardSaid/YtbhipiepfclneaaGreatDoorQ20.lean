/- Walks. -/
import Derived.Test.YtbhipiepfclneaaGreatDoorQ19
import Derived.Test.YtbhipiepfclneaaGreatDoorQ16
import Derived.Test.YtbhipiepfclneaaGreatDoorQ12
set_option maxHeartbeats 8000000
set_option maxRecDepth 20000
namespace Go.Proofs.YtbhipiepfclneaaGreatDoor
open Go Go.Wk Go.Un Go.De Go.Num
set_option linter.unusedSimpArgs false
set_option linter.unusedVariables false
attribute [local irreducible] Go.wpList Go.Code.wp Go.wpStill Go.Wk.wpPre Go.bodyPost Go.Calls Go.Wk.Ct Go.Wk.OwnS Go.Wk.wpG Go.Wk.wpM
def txtG : Vf → Option (List UInt8)
 | .nil => some []
 | .cons h L r => if checkV h L = 0 then (txtG r).map fun t => (shwV h L ++ [59]) ++ t else none
def tvV (o : Option (List UInt8)) : Value := .tuple ⟨[.string (bs (o.getD [])), .bool o.isSome]⟩
theorem map_app (o : Option (List UInt8)) (a b : List UInt8) : (o.map fun t => b ++ t).map (fun t => a ++ t) = o.map fun t => (a ++ b) ++ t := by cases o <;> simp
theorem txt_step {l : Vf} {k : Nat} {x : VH × Vf} {s : List UInt8} (hx : l.get? k = some x) (he : txtG l = (txtG (l.drop k)).map fun t => s ++ t) (h : checkV x.1 x.2 = 0) : txtG l = (txtG (l.drop (k + 1))).map fun t => (s ++ (shwV x.1 x.2 ++ [59])) ++ t := by
 rw [he, Rose.drop_get hx, txtG, if_pos h, map_app]
theorem txt_stop {l : Vf} {k : Nat} {x : VH × Vf} {s : List UInt8} (hx : l.get? k = some x) (he : txtG l = (txtG (l.drop k)).map fun t => s ++ t) (h : ¬ checkV x.1 x.2 = 0) : txtG l = none := by
 rw [he, Rose.drop_get hx, txtG, if_neg h]; rfl
theorem zzGa0 {p : Prop} (h : p := by (unfold tvV; first | (rw [txt_stop hx heq (by omega)]; rfl) | (rw [heq, Rose.drop_len (by omega)]; simp [txtG]; done) | trace_state)) : p := h
theorem textCtG (F : Heap) (hT : TabF F) (v : Value) (L : Vf) (hV : TrS F 4 VhR v L) (hR : RgF L) (hk : wtB L ≤ 100000000) : Ct Tryz.prog 34 [v] F [] (fun _ _ u => u = tvV (txtG L)) := by
 obtain ⟨ao, cap, rfl, hcap, hpos⟩ := hV
 refine Ct.enter Tryz.func34 rfl Tryz.ntmps34 rfl fun w0 a S => ?_
 (revert S a; refine go 17 ?_; intro Z hZ a S)
 refine wpc_loop (fun m a w' => ∃ (k : Nat) (s : List UInt8), m = L.len - k ∧ k ≤ L.len ∧ (txtG L = (txtG (L.drop k)).map fun t => s ++ t) ∧ s.length + wtB (L.drop k) ≤ wtB L ∧ St 23 [(4, .string (bs s)), (7, .slice ao L.len cap), (8, .int .i64 L.len), (9, .int .i64 k)] w0 F [] F [] a w') ?_ ?_
 ·(refine ⟨L.len, 0, [], by omega, Nat.zero_le _, by (show txtG L = (txtG L).map fun t => t; rw [Option.map_id']), by (show 0 + wtB L ≤ _; omega), ?_⟩; refine S.keep ?_; exact zk)
 (clear S; rintro m a w ⟨k, s, rfl, hkl, heq, hlen, S⟩)
 (revert S a; refine go 5 ?_; intro Z hZ a S)
 refine wpc_sp S rfl ?_ ?_ <;> intro h
 ·(revert S a; revert hZ Z; refine go 4 ?_; intro Z hZ a S)
  (refine wp_seq_k ?_; intro Z hZ)
  (obtain ⟨b8, o8, hao, x, cs1, v1, hx, hc1, hw9, hT1⟩ := TrM.pos hpos (k := k) (by omega); rw [hao] at S; have hwd := wtB_drop hx; have hsl := shwV_len (hR.get hx).1 (hR.get hx).2; have hT1c := hT1; obtain ⟨a91, c91, rfl, -⟩ := hT1c; have hw9c := hw9.1; subst hw9c; (simp only [List.cons_append, List.nil_append] at hc1); have hV1 : VaC F [.int .u8 (x.1.k : Int), .int .i64 x.1.n, .string (bs x.1.s), .slice a91 x.2.len c91] x.1 x.2 := ⟨_, rfl, hT1, hw9.2⟩; have hck := checkUCt F x.1 x.2 _ hV1; have hsh := showCt F hT x.1 x.2 _ hV1 (hR.get hx).1 (hR.get hx).2 (by omega))
  (revert S a; refine go 3 ?_; intro a S)
  (refine wpl_alloc S rfl rfl rfl rfl ?_; clear S a; intro b6 a w S)
  (refine wso S rfl rfl ?_; clear S; intro w S)
  (revert S a; revert hZ Z; refine go 5 ?_; intro Z hZ Z hZ a S)
  (refine wc0 S (hck) ?_; clear S a; intro v a w hv S; subst hv)
  (revert S a; revert hZ Z; refine go 3 ?_; intro a S)
  refine wpc_sp S rfl ?_ ?_ <;> intro h
  ·(revert S a; refine go 5 ?_; intro a S)
   refine wp_ret (fr2 S Tryz.results34 ?_)
   exact zzGa0
  (revert S a; revert hZ Z; refine go 5 ?_; intro a S)
  (refine wc0 S hsh ?_; clear S a; intro v9 a w hv S; subst hv; rw [show showT x.1 x.2 = shwV x.1 x.2 from if_pos (by omega)] at S)
  iterate 2 (refine wv S (sv_cat S rfl rfl rfl (by first | omega | (simp only [List.length_append, List.length_cons, List.length_nil]; omega))) ?_; clear S a; intro a S)
  (revert S a; revert hZ Z; refine go 7 ?_; intro a S)
  change ∃ m', _ ∧ _
  (rw [← hao] at S; replace S := S.drop1; refine ⟨L.len - (k + 1), by omega, k + 1, s ++ (shwV x.1 x.2 ++ [59]), rfl, by omega, txt_step hx heq (by omega), ?_, ?_⟩; rotate_left 1; (refine S.keep ?_; exact zk); (simp only [List.length_append, List.length_cons, List.length_nil]; omega))
 (refine wp_exit ?_; conv => whnf)
 clear hZ Z
 (revert S a; revert hZ Z; refine go 7 ?_; intro a S)
 refine wp_ret (fr2 S Tryz.results34 ?_)
 exact zzGa0
def gh (g : Grp) : Heap := Heap.add (fun _ => none) g
theorem gh_append (g h : Grp) : gh (g ++ h) = (gh h).add g := by
 funext b
 unfold gh Heap.add
 rw [List.find?_append]
 cases List.find? (fun p => Nat.beq p.1 b) g <;> rfl
theorem gh_left {g h : Grp} {b : Nat} {o : Obj} (e : gh g b = some o) : gh (g ++ h) b = some o := by
 unfold gh Heap.add at *
 rw [List.find?_append]
 cases hf : List.find? (fun p => Nat.beq p.1 b) g with
 | none => rw [hf] at e; cases e
 | some p => rw [hf] at e; exact e
theorem gh_mem {g : Grp} {b : Nat} {o : Obj} (e : gh g b = some o) : (b, o) ∈ g := by
 rcases Heap.add_some e with h | h
 ·exact h
 ·cases h
theorem gh_right {g h : Grp} (hn : ((g ++ h).map (·.1)).Nodup) {b : Nat} {o : Obj} (e : gh h b = some o) : gh (g ++ h) b = some o := by
 rw [gh_append, Heap.add_none (fun hm => ?_)]
 ·exact e
 ·rw [List.map_append, List.nodup_append] at hn
  exact hn.2.2 b hm b (List.mem_map.2 ⟨(b, o), gh_mem e, rfl⟩) rfl
def OwR (g : Grp) (v : Value) (l : Vf) : Prop := TrS (gh g) 4 VhR v l
section
variable {n : Sz} {L : List (Nat × Value)} {w0 : World} {F0 : Heap} {K0 : List Nat} {F : Heap} {A B C : Grp} {R : List Grp} {a : Act} {w : World}
theorem nd2 (S : St n L w0 F0 K0 F (A :: B :: R) a w) : ((A ++ B).map (·.1)).Nodup := by
 have h := S.tr.nd
 unfold keys at h
 rw [List.flatten_cons, List.flatten_cons, ← List.append_assoc, List.map_append] at h
 exact (List.nodup_append.1 h).1
theorem join2 (S : St n L w0 F0 K0 F (A :: B :: R) a w) : St n L w0 F0 K0 F ((A ++ B) :: R) a w := ⟨S.fr, S.tr.perm (by rw [List.flatten_cons, List.flatten_cons, List.flatten_cons, List.append_assoc])⟩
theorem swap2 (S : St n L w0 F0 K0 F (A :: B :: R) a w) : St n L w0 F0 K0 F (B :: A :: R) a w := ⟨S.fr, S.tr.perm (by rw [List.flatten_cons, List.flatten_cons, List.flatten_cons, List.flatten_cons, ← List.append_assoc, ← List.append_assoc]; exact List.Perm.append_right _ List.perm_append_comm)⟩
theorem rot3' (S : St n L w0 F0 K0 F [A, B, C] a w) : St n L w0 F0 K0 F [B, A ++ C] a w := ⟨S.fr, S.tr.perm (by simp only [List.flatten_cons, List.flatten_nil, List.append_nil]; rw [← List.append_assoc, ← List.append_assoc]; exact List.Perm.append_right _ List.perm_append_comm)⟩
theorem nd_snd (S : St n L w0 F0 K0 F [A, B] a w) : (B.map (·.1)).Nodup := by
 have h := S.tr.nd
 unfold keys at h
 simp only [List.flatten_cons, List.flatten_nil, List.append_nil, List.map_append] at h
 exact (List.nodup_append.1 h).2.1
end
theorem cell_mid {xa cs xb ex : List Value} {m j : Nat} (hx : xa.length = m) (hj : j < cs.length) : (xa ++ (cs ++ xb) ++ ex)[0 + m + j]? = cs[j]? := by
 rw [List.append_assoc, List.append_assoc, List.getElem?_append_right (by omega), List.getElem?_append_left (by omega)]
 congr 1; omega
theorem set_mid {xa cs xb ex : List Value} {m j : Nat} {u : Value} (hx : xa.length = m) (hj : j < cs.length) : (xa ++ (cs ++ xb) ++ ex).set (0 + m + j) u = ((xa ++ cs.set j u) ++ xb) ++ ex := by
 rw [List.append_assoc, List.append_assoc, List.set_append_right _ _ (by omega), List.set_append_left _ _ (by omega), show 0 + m + j - xa.length = j by omega]
 simp only [List.append_assoc]
theorem rose_nil {L : Vf} (h : L.len = 0) : L = .nil := by
 cases L with
 | nil => rfl
 | cons h L r => exact absurd h (Nat.succ_ne_zero _)
theorem zzGa1 {p : Prop} (h : p := by (first | (refine ⟨_, rfl, ?_⟩; unfold OwR; rw [List.take_of_length_le (by rw [hkl]; omega)] at hla; have hxb : xb = [] := (by rw [List.drop_of_length_le (by rw [hkl]; omega)] at hlb; exact hlb); subst hxb; rw [List.append_nil] at hown; rw [gh_append]; exact trs_kids (LiC.lim hown hla hkl.symm (fun b o h => by rw [← gh_append]; exact gh_right hnd2 h) (by omega))) | (obtain rfl := rose_nil (L := L) (by omega); exact ⟨[], rfl, TrS.nil _ _ _⟩) | trace_state)) : p := h
theorem gownCt : ∀ (n : Nat) (F : Heap) (L : Vf) (v : Value), L.size ≤ n → L.len * 56 ≤ 140737488355328 → ThV L → TrS F 4 VhR v L → Ct Tryz.prog 35 [v] F [] (fun _ G' u => ∃ g, G' = [g] ∧ OwR g u L) := by
 intro n
 induction n using Nat.strongRecOn with
 | _ n ih =>
 intro F L v hn hb hth hT0
 have hK0 := kids_lim hT0
 obtain ⟨ao, cap, rfl, hcap, -⟩ := hT0
 have hkl : (kids L).length = L.len := kids_len L
 refine Ct.enter Tryz.func35 rfl Tryz.ntmps35 rfl fun w0 a S => ?_
 (revert S a; refine go 11 ?_; intro Z hZ a S)
 refine wpc_sp S rfl ?_ ?_ <;> intro h
 ·(revert S a; refine go 4 ?_; intro a S)
  refine wp_ret ?_
  (first | (have hnd2 := nd2 S; replace S := join2 S) | (replace S := S.nilg))
  refine fin_ret S (results1 Tryz.results35 (RV.tmp S rfl)) ?_
  exact zzGa1
 (revert S a; revert hZ Z; refine go 4 ?_; intro Z hZ a S)
 (refine wpl_call (Gs := []) (Gr := []) S rfl rfl rfl rfl rfl rfl (cloneVCt F _ _ hK0 (by rw [hkl]; exact hb)) rfl (by exact List.Perm.refl _) ?_; clear S a; intro vT F4 G9 a w hv hF4 S; obtain ⟨gT, xT, rfl, hown, hxT⟩ := hv; rw [hkl] at hown; (simp only [List.append_nil] at S))
 (revert S a; revert hZ Z; refine go 4 ?_; intro Z hZ a S)
 (refine wp_seq_k ?_; intro Z hZ)
 (replace S : St _ _ _ _ _ F [gT] _ _ := ⟨S.fr, S.tr.shrink hF4 (fun _ _ h => h)⟩; have vTat := hown.at; obtain ⟨aT0, cT0, rfl, -, -, -⟩ := vTat)
 (revert S a; revert hZ Z; refine go 7 ?_; intro a S)
 refine wpc_loop (fun m a w' => ∃ (i : Nat) (v : Value) (g gd : Grp) (xa xb : List Value), m = L.len - i ∧ i ≤ L.len ∧ OwnS 45 4 v L.len (xa ++ xb) g ∧ xa.length = i * 4 ∧ LiC (gh gd) 4 (RoR 4 VhR) xa ((kids L).take i) ∧ LiC F 4 (RoR 4 VhR) xb ((kids L).drop i) ∧ St 26 [(0, v), (10, .int .i64 L.len), (11, .int .i64 i)] w0 F [] F [g, gd] a w') ?_ ?_
 ·(refine ⟨L.len, 0, _, gT, [], [], xT, by omega, Nat.zero_le _, hown, rfl, rfl, hxT, ?_⟩; replace S := swap2 S.nilg; refine S.keep ?_; exact zk)
 (clear S hown hxT; rintro m a w ⟨i, v, g, gd, xa, xb, rfl, hil, hown, hxal, hla, hlb, S⟩)
 (revert S a; refine go 5 ?_; intro Z hZ a S)
 refine wpc_sp S rfl ?_ ?_ <;> intro h
 ·(revert S a; revert hZ Z; refine go 9 ?_; intro Z hZ a S)
  (obtain ⟨bT, capT, exT, rfl, rfl, hcq, hcm, hxl, hxe⟩ := ownS_blkN hown (by omega); obtain ⟨x, hx⟩ : ∃ x, (kids L)[i]? = some x := ⟨_, List.getElem?_eq_getElem (by omega)⟩; have hdk : (kids L).drop i = x :: (kids L).drop (i + 1) := (by obtain ⟨h1, h2⟩ := List.getElem?_eq_some_iff.1 hx; rw [← h2]; exact List.drop_eq_getElem_cons h1); rw [hdk] at hlb; obtain ⟨cs1, xb, rfl, hl1, hR1, hlb⟩ := hlb; obtain ⟨c, w3, rfl, -, ⟨rfl, hsb⟩, hT3⟩ := hR1; (simp only [List.cons_append, List.nil_append] at S hown hxl hxe hl1); have hxg := hx; rw [kids_get] at hxg; have hxs := Rose.size_get hxg; obtain ⟨hx56, hxth⟩ := hth.get hxg)
  (revert S a; refine go 7 ?_; intro a S)
  (refine wv S (sv_loadO S rfl rfl (cell_mid (cs := [_, _, _, _]) hxal (show 3 < 4 from by decide))) ?_; clear S a; intro a S)
  (refine wpl_call (Gs := []) (Gr := [[(bT, _)], gd]) S rfl rfl rfl rfl rfl rfl (ih x.2.size (by omega) F x.2 _ (Nat.le_refl _) hx56 hxth hT3) rfl (by exact List.Perm.refl _) ?_; clear S a; intro u5 F5 G9 a w hv hF5 S; obtain ⟨g5, rfl, hO5⟩ := hv; replace S := rot3' ⟨S.fr, S.tr.shrink hF5 (fun _ _ h => h)⟩; have hnd := nd_snd S; have hla2 : LiC (gh (g5 ++ gd)) 4 (RoR 4 VhR) _ ((kids L).take (i + 1)) := (by rw [List.take_add_one, hx]; exact LiC.app (hla.mono fun _ _ h => gh_right hnd h) (LiC.one rfl (show RoR 4 VhR (gh (g5 ++ gd)) x _ from ⟨[.int .u8 (x.1.k : Int), .int .i64 x.1.n, .string (bs x.1.s)], u5, rfl, rfl, ⟨rfl, hsb⟩, hO5.mono fun _ _ h => gh_left h⟩))))
  (revert S a; refine go 2 ?_; intro a S)
  (refine wpl_store1 S rfl rfl rfl rfl rfl (by obtain ⟨a5, c5, e5, -⟩ := hO5; rw [e5]; rfl) (by simp only [List.length_append, List.length_cons, List.length_nil]; omega) ?_; clear S; intro w S; rw [show (xa ++ (.int .u8 (x.1.k : Int) :: .int .i64 x.1.n :: .string (bs x.1.s) :: w3 :: xb) ++ exT).set (0 + i * 4 + 3) u5 = ((xa ++ [.int .u8 (x.1.k : Int), .int .i64 x.1.n, .string (bs x.1.s), u5]) ++ xb) ++ exT from set_mid (cs := [_, _, _, w3]) hxal (show 3 < 4 from by decide)] at S)
  (revert S a; revert hZ Z; refine go 6 ?_; intro a S)
  change ∃ m', _ ∧ _
  (refine ⟨L.len - (i + 1), by omega, i + 1, _, _, g5 ++ gd, xa ++ [.int .u8 (x.1.k : Int), .int .i64 x.1.n, .string (bs x.1.s), u5], xb, rfl, by omega, ownS_mkN (b := bT) (cap := capT) (ex := exT) (by simp only [List.length_append, List.length_cons, List.length_nil] at hxl ⊢; omega) hcq hcm (by simp only [List.length_append, List.length_cons, List.length_nil] at hxe ⊢; omega), by simp only [List.length_append, List.length_cons, List.length_nil]; omega, hla2, hlb, ?_⟩; refine S.keep ?_; exact zk)
 (refine wp_exit ?_; conv => whnf)
 clear hZ Z
 (revert S a; revert hZ Z; refine go 6 ?_; intro a S)
 refine wp_ret ?_
 (first | (have hnd2 := nd2 S; replace S := join2 S) | (replace S := S.nilg))
 refine fin_ret S (results1 Tryz.results35 (RV.tmp S rfl)) ?_
 exact zzGa1
end Go.Proofs.YtbhipiepfclneaaGreatDoor
namespace Go.Wk
open Go
set_option linter.unusedVariables false
set_option linter.unusedSimpArgs false
section
variable {α : Type} [DecidableEq α] {P : Program} {n : Sz} {L : List (Nat × Value)} {w0 : World} {F0 : Heap} {K0 : List Nat} {F : Heap} {G : List Grp} {a : Act} {w : World} {ops : Array Oper} {Q : Exit → Act → World → Prop} {rest : List Oper} {o : Oper}
theorem wpl_mapIns {d : TypeDesc} {enc : α → Value} [hk : KeyK d enc] {t kt e : TypeId} {x y z : Operand} {b : Nat} {es : List (α × Value)} {R} {k : α} {v : Value} [ht : Und P t (.map kt e)] [hd : Und P kt d] [hh : Has G b (mObj enc es) R]
  (S : St n L w0 F0 K0 F G a w) (hg : o.guard = none) (ho : o.op = .insert t x y z) (hdst : o.dst = none) (hx : ev L x = some (.map (some b))) (hy : ev L y = some (enc k)) (hz : ev L z = some v)
  (kk : ∀ w', St n L w0 F0 K0 F (R [(b, mObj enc (mSet es k v))]) a w' → wpList P ops Q rest a w') : wpList P ops Q (o :: rest) a w := by
 refine wpList_plain hg fun K hK => ?_
 have hb := S.has hh
 have hr : (Instr.mapUpdate t (.map (some b)) (enc k) v).run P w = .ok () (w.putObj b (mObj enc (mSet es k v))) := by
  unfold Instr.mapUpdate
  have hg := run_getMap (P := P) hb
  have hc := hk.chk P w kt false k hd.h
  simp only [Sem.run_bind, run_underlying ht.h, Result.andThen_ok, hg, Sem.run_pure, hc, run_findKey (d := d) hd.h w es k]
  cases hf : List.findIdx? (fun p => decide (k = p.1)) es with
  | none =>
   have hn : mGet es k = none := by rw [mGet_idx, hf]; rfl
   simp only [Option.map_none, mSet_new hn, mObj, mEnt_append]
   simp only [mObj] at hb
   simp [setObj, Sem.run, hb, World.putObj, Array.set!]
  | some j =>
   obtain ⟨h1, h2, h3⟩ := mEnt_modify enc k v 0 es j hf
   simp only [Option.map_some, Sem.run_bind, mObj, List.getElem?_toArray, h2, Option.getD_some]
   unfold Instr.keyThatStays
   rw [if_pos (hk.bits k)]
   simp only [Sem.run_pure, Result.andThen_ok, List.modify_toArray, h1, h3]
   simp only [mObj] at hb
   simp [setObj, Sem.run, hb, World.putObj, Array.set!]
 unfold Oper.wp execOp
 rw [ho]
 simp [S.fr.eval hx, S.fr.eval hy, S.fr.eval hz, hr, Oper.upon_skip, hdst, Act.put]
 exact hK _ _ (kk _ (S.write hh rfl rfl rfl (by simp) (World.putObj_heap_same (heap_lt hb)) fun j hj => World.putObj_heap_other hj))
end
structure PM where
  p : Value → Heap → Prop
  mono : ∀ v F F', (∀ b o, F b = some o → F' b = some o) → p v F → p v F'
end Go.Wk
