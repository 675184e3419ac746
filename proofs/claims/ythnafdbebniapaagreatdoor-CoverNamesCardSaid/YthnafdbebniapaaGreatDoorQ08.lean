/- Walks. -/
import Derived.Test.YthnafdbebniapaaGreatDoorQTy
import Derived.Test.YthnafdbebniapaaGreatDoorQ05
import Derived.Lib.Builder
import Derived.Lib.UnsafeStr
import Derived.Laws.Externs
import Derived.Laws.Pointers
import Derived.Test.YthnafdbebniapaaGreatDoorQ06
set_option maxHeartbeats 1000000
namespace Go.Proofs.YthnafdbebniapaaGreatDoor
open Go
theorem mixed : Tryz.prog.follows .mixedOrders = true := by kernel_rfl
end Go.Proofs.YthnafdbebniapaaGreatDoor
namespace Go.Wk
open Go
set_option linter.unusedSimpArgs false
set_option linter.unusedVariables false
section
variable {P : Program} {n : Sz} {L : List (Nat × Value)} {w0 : World} {F0 : Heap} {K0 : List Nat} {F : Heap} {G : List Grp} {a : Act} {w : World} {o : Oper} {ops : Array Oper} {rest : List Oper} {Q : Exit → Act → World → Prop}
theorem wpl_callOwn {d : Nat} {x : Operand} {xs : Array Operand} {ts : Array TypeId} {f : FuncId} {fi ca vs args : List Value} {Gs Gr : List Grp} {Post : List Grp → Value → Prop} [hf : HasFn P f] (S : St n L w0 F0 K0 F G a w) (hg : o.guard = none) (hd : o.dst = some d) (hn : Nat.blt d n.sz = true)
  (ho : o.op = .call { callee := .value x, args := xs, argTypes := ts }) (hx : ev L x = some (.func (.func f) ⟨fi⟩ ⟨ca⟩)) (hxs : evs L xs.toList = some vs) (C : Ct P f args F Gs (fun _ G' u => Post G' u)) (ha : fi ++ vs ++ ca = args) (hp : G.flatten.Perm (Gs.flatten ++ Gr.flatten))
  (k : ∀ v G' a' w', Post G' v → St n ((d, v) :: L) w0 F0 K0 F (G' ++ Gr) a' w' → wpList P ops Q rest a' w') : wpList P ops Q (o :: rest) a w :=
 wpl_call S hg hd hn ho hx hxs C ha hp fun v F' G' a' w' hv hF S' => k v G' a' w' hv ⟨S'.fr, Tr.shrink S'.tr hF S.tr.ext⟩
theorem sv_eqPtrNil {x y : Operand} {t yt e : TypeId} [ht : Und P t (.pointer e)] (S : St n L w0 F0 K0 F G a w) (ho : o.op = .binOp .eql t x y yt) (hx : ev L x = some (.pointer none)) (hy : ev L y = some (.pointer none)) : SV P o a w (.bool true) := by
 unfold SV execOp
 rw [ho]
 have h1 : (eqGuard .eql t x y (.pointer none) (.pointer none)).run P w = .ok () w := rfl
 have hp : P.pointee t = e := by simp [Program.pointee, ht.h]
 have h2 := run_eql_pointer_nil (P := P) w t none (by rw [hp]; exact ht.h)
 simp only [S.fr.eval hx, S.fr.eval hy, Sem.run_bind, h1, Result.andThen_ok, h2, Sem.run_pure]
 rfl
theorem sv_eqPtrSome {x y : Operand} {t yt e : TypeId} {ad : Addr} [ht : Und P t (.pointer e)] (S : St n L w0 F0 K0 F G a w) (ho : o.op = .binOp .eql t x y yt) (hx : ev L x = some (.pointer (some ad))) (hy : ev L y = some (.pointer none)) : SV P o a w (.bool false) := by
 unfold SV execOp
 rw [ho]
 have h1 : (eqGuard .eql t x y (.pointer (some ad)) (.pointer none)).run P w = .ok () w := rfl
 have hp : P.pointee t = e := by simp [Program.pointee, ht.h]
 have h2 := run_eql_pointer_nil (P := P) w t (some ad) (by rw [hp]; exact ht.h)
 simp only [S.fr.eval hx, S.fr.eval hy, Sem.run_bind, h1, Result.andThen_ok, h2, Sem.run_pure]
 rfl
theorem sv_nePtrSame {x y : Operand} {t yt e : TypeId} {ad : Addr} {z : Value} {sz by_ : Nat} [ht : Und P t (.pointer e)] [hi : Inf P e z sz by_] (S : St n L w0 F0 K0 F G a w) (ho : o.op = .binOp .neq t x y yt) (hx : ev L x = some (.pointer (some ad))) (hy : ev L y = some (.pointer (some ad))) : SV P o a w (.bool false) := by
 obtain ⟨i, h1, _⟩ := hi.h
 unfold SV execOp
 rw [ho]
 have h2 : (eqGuard .neq t x y (.pointer (some ad)) (.pointer (some ad))).run P w = .ok () w := rfl
 simp [S.fr.eval hx, S.fr.eval hy, h2, Lib.run_neq_ptr_same w ad ht.h h1]
theorem shape_own {b : Nat} {c : List Value} {e : TypeId} {R} (S : St n L w0 F0 K0 F G a w) (hh : Has G b (.cells ⟨c⟩ e (0, 0)) R) : w.shape? b = some (e, c.length) := by
 have := S.has hh
 simp [World.shape?, this]
theorem sv_toUnsafe {x : Operand} {s t e1 : TypeId} {b : Nat} {c : List Value} {e : TypeId} {R} {z : Value} {sz by_ : Nat} [hs : Und P s (.pointer e1)] [ht : Und P t .unsafePointer] [hi : Inf P e1 z sz by_] [hh : Has G b (.cells ⟨c⟩ e (0, 0)) R] (S : St n L w0 F0 K0 F G a w) (ho : o.op = .convert s t x) (hx : ev L x = some (.pointer (some ⟨b, 0, none⟩)))
  (hsz : Nat.beq sz 0 = false) (hc : 0 < c.length) : SV P o a w (.pointer (some ⟨b, 0, none⟩)) := by
 obtain ⟨i, h1, h2, h3, h4⟩ := hi.h
 have hne : i.size ≠ 0 := fun h => by rw [h3] at h; subst h; simp at hsz
 unfold SV execOp
 rw [ho]
 simp [S.fr.eval hx, Lib.run_to_unsafe w ⟨b, 0, none⟩ hs.h ht.h h1 hne (shape_own S hh) hc]
theorem sv_fromUnsafe {x : Operand} {s t u : TypeId} {b : Nat} {c : List Value} {e : TypeId} {R} {z : Value} {sz by_ : Nat} [hs : Und P s .unsafePointer] [ht : Und P t (.pointer u)] [hi : Inf P u z sz by_] [hh : Has G b (.cells ⟨c⟩ e (0, 0)) R] (S : St n L w0 F0 K0 F G a w) (ho : o.op = .convert s t x) (hx : ev L x = some (.pointer (some ⟨b, 0, none⟩)))
  (hl : liesAt P P.depth e (c.length / P.cellsOf e) 0 u 1 = true) : SV P o a w (.pointer (some ⟨b, 0, none⟩)) := by
 obtain ⟨i, h1, _⟩ := hi.h
 unfold SV execOp
 rw [ho]
 simp [S.fr.eval hx, Lib.run_from_unsafe w ⟨b, 0, none⟩ hs.h ht.h h1 (shape_own S hh) hl]
class NoEsc (P : Program) (f : FuncId) : Prop where
  h : ∀ (x : Value) (w : World), (callFunc f #[x]).run P w = .ok (.value x) w
theorem sv_noEsc {x y : Operand} {ts : Array TypeId} {f : FuncId} {v : Value} [hf : NoEsc P f] (S : St n L w0 F0 K0 F G a w) (ho : o.op = .call { callee := .value x, args := #[y], argTypes := ts }) (hx : ev L x = some (.func (.func f) ⟨[]⟩ ⟨[]⟩)) (hy : ev L y = some v) : SV P o a w v := by
 unfold SV execOp
 rw [ho]
 simp [resolve, S.fr.eval hx, S.fr.eval hy, Deferred.ofValue, invoke, hf.h]
theorem sv_sliceData {x : Operand} {ts : Array TypeId} {ad : Addr} {q c : Nat} (S : St n L w0 F0 K0 F G a w) (ho : o.op = .call { callee := .builtin .unsafeSliceData, args := #[x], argTypes := ts }) (hx : ev L x = some (.slice (some ad) q c)) (hc : 0 < c) : SV P o a w (.pointer (some ad)) := by
 unfold SV execOp
 rw [ho]
 simp [resolve, invoke, builtin, S.fr.eval hx, Lib.run_unsafeSliceData_row w ts o.type ad q c (by omega)]
theorem freeze_heap (w : World) (b m : Nat) (c : Array Value) (e : TypeId) (hm : m ≠ 0) (h : w.heap[b]? = some (.cells c e (0, 0))) : (w.freeze ⟨b, 0, none⟩ m).heap[b]? = some (.cells c e (0, m)) := by
 obtain ⟨hlt, hk⟩ := Array.getElem?_eq_some_iff.1 h
 unfold World.freeze
 rw [if_neg hm]
 show (w.heap.modify b _)[b]? = _
 rw [Array.getElem?_eq_getElem (by rw [Array.size_modify]; exact hlt), Array.getElem_modify_self, hk]
 simp
theorem freeze_other (w : World) (b m k : Nat) (hk : k ≠ b) : (w.freeze ⟨b, 0, none⟩ m).heap[k]? = w.heap[k]? := by
 unfold World.freeze
 split
 ·rfl
 ·show (w.heap.modify b _)[k]? = _
  rw [Array.getElem?_modify, if_neg (fun e => hk e.symm)]
theorem freeze_size (w : World) (b m : Nat) : (w.freeze ⟨b, 0, none⟩ m).heap.size = w.heap.size ∧ (w.freeze ⟨b, 0, none⟩ m).os = w.os ∧ (w.freeze ⟨b, 0, none⟩ m).tape = w.tape ∧ (w.freeze ⟨b, 0, none⟩ m).output = w.output := by
 unfold World.freeze
 split
 ·exact ⟨rfl, rfl, rfl, rfl⟩
 ·exact ⟨Array.size_modify, rfl, rfl, rfl⟩
theorem wpl_unsafeString {d : Nat} {x y : Operand} {pt it e : TypeId} {b cap q : Nat} {l : List UInt8} {g : Grp} {R} [hp : Und P pt (.pointer e)] (S : St n L w0 F0 K0 F G a w) (hg : o.guard = none) (hd : o.dst = some d) (hn : Nat.blt d n.sz = true)
  (ho : o.op = .call { callee := .builtin .unsafeString, args := #[x, y], argTypes := #[pt, it] }) (hx : ev L x = some (.pointer (some ⟨b, 0, none⟩))) (hy : ev L y = some (.int .i64 (Int.ofNat q)))
  (hown : OwnS e 1 (.slice (some ⟨b, 0, none⟩) q cap) q (l.map fun c => Value.int .u8 c.toNat) g) [hN : Nth G g R] (hc : P.cellsOf e = 1) (h0 : 0 < q) (h63 : q ≤ 9223372036854775807)
  (k : ∀ a' w', St n ((d, .string (bs l)) :: L) w0 F0 K0 F (R []) a' w' → wpList P ops Q rest a' w') : wpList P ops Q (o :: rest) a w := by
 obtain ⟨ex, rfl, h1, h2, h3, h4⟩ := hown.block
 obtain ⟨G1, G2, e1, hR⟩ := hN.h
 rw [List.length_map] at h3
 have ht := S.tr
 rw [e1] at ht
 have hb := (ht.own (b, _) (by simp only [List.flatten_append, List.flatten_cons]; exact List.mem_append_right _ (List.mem_append_left _ (List.mem_singleton.2 rfl)))).1
 have hlne : l ≠ [] := fun e => by rw [e] at h3; simp at h3; omega
 have hr := Lib.run_unsafeString_row (P := P) w pt it o.type e hp.h hc b (((l.map fun c => Value.int .u8 c.toNat) ++ ex).length) (by simp only [World.shape?, hb]; rfl) l hlne (by simp) (by omega) (fun j u hj => by
  rw [addr_add, Nat.zero_add]
  refine cell_of_heap hb ?_
  simp only [List.getElem?_toArray]
  rw [List.getElem?_append_left (by rw [List.length_map]; exact (List.getElem?_eq_some_iff.1 hj).1), List.getElem?_map, hj]; rfl)
 have hq : ((l.length : Nat) : Int) = Int.ofNat q := by rw [h3]; rfl
 rw [hq] at hr
 refine wpList_plain hg fun K hK => ?_
 unfold Oper.wp execOp
 rw [ho]
 simp [resolve, invoke, builtin, S.fr.eval hx, S.fr.eval hy]
 simp only [Int.ofNat_eq_natCast] at hr
 rw [hr, Result.andThen_ok, Oper.upon_value, hd]
 have hz := freeze_size w b l.length
 have ht2 := ht.write (w' := w.freeze ⟨b, 0, none⟩ l.length) hz.2.1 hz.2.2.1 hz.2.2.2 hz.1 (freeze_heap w b l.length _ e (by simpa using hlne) hb) (fun k hk => freeze_other w b _ k hk)
 refine hK _ _ (k _ _ ⟨S.fr.put _ hn, ?_⟩)
 rw [hR]
 exact ht2.sub (by simp only [List.flatten_append, List.flatten_cons, List.nil_append]; exact List.Sublist.append_left (List.sublist_append_right _ _) _)
end
end Go.Wk
namespace Go.Proofs.YthnafdbebniapaaGreatDoor
open Go Go.Wk
set_option linter.unusedSimpArgs false
set_option linter.unusedVariables false
attribute [local irreducible] Go.wpList Go.Code.wp Go.wpStill Go.Wk.wpPre Go.bodyPost Go.Calls Go.Wk.Ct Go.Wk.OwnS Go.Wk.wpG Go.Wk.wpM
theorem sv_sliceDataNil {P : Program} {n : Sz} {L : List (Nat × Value)} {w0 : World} {F0 : Heap} {K0 : List Nat} {F : Heap} {G : List Grp} {a : Act} {w : World} {o : Oper} {x : Operand} {ts : Array TypeId} {q c : Nat} (S : St n L w0 F0 K0 F G a w) (ho : o.op = .call { callee := .builtin .unsafeSliceData, args := #[x], argTypes := ts }) (hx : ev L x = some (.slice none q c)) : SV P o a w (.pointer none) := by
 unfold SV execOp
 rw [ho]
 simp [resolve, invoke, builtin, S.fr.eval hx, Lib.run_unsafeSliceData_nil w ts o.type q c]
theorem sv_unsafeStringNil {P : Program} {n : Sz} {L : List (Nat × Value)} {w0 : World} {F0 : Heap} {K0 : List Nat} {F : Heap} {G : List Grp} {a : Act} {w : World} {o : Oper} {x y : Operand} {pt it : TypeId} (S : St n L w0 F0 K0 F G a w) (ho : o.op = .call { callee := .builtin .unsafeString, args := #[x, y], argTypes := #[pt, it] }) (hx : ev L x = some (.pointer none)) (hy : ev L y = some (.int .i64 0)) : SV P o a w (.string (bs [])) := by
 unfold SV execOp
 rw [ho]
 simp [resolve, invoke, builtin, S.fr.eval hx, S.fr.eval hy, Lib.run_unsafeString_none w pt it o.type none]
 rfl
instance : NoEsc Tryz.prog 248 := ⟨fun x w => by
 rw [run_callFunc_extern Tryz.func248 (by kernel_rfl) (by kernel_rfl) (by kernel_rfl) (e := Extern.AbiNoEscape.same) (by kernel_rfl), Lib.run_noEscape]
 rfl⟩
def bldG (b : Nat) (p v : Value) : Grp := [(b, .cells ⟨[p, v]⟩ 253 (0, 0))]
def bldP (b : Nat) (p : Value) : Prop := p = .pointer none ∨ p = .pointer (some ⟨b, 0, none⟩)
theorem copyCheck0 (b : Nat) (v : Value) (F : Heap) : Ct Tryz.prog 229 [.pointer (some ⟨b, 0, none⟩)] F [[(b, .cells ⟨[.pointer none, v]⟩ 253 (0, 0))]] (fun _ G' _ => G' = [[(b, .cells ⟨[.pointer (some ⟨b, 0, none⟩), v]⟩ 253 (0, 0))]]) := by
 refine Ct.enter Tryz.func229 rfl Tryz.ntmps229 rfl fun w0 a S => ?_
 (revert S a; refine go 5 ?_; intro Z hZ a S)
 (refine wv S (sv_eqPtrNil S rfl rfl rfl) ?_; clear S a; intro a S)
 (revert S a; revert hZ Z; refine go 2 ?_; intro a S)
 refine wpc_split S rfl (fun h => ?_) (fun h => ?_)
 ·(skip; (try simp only [tq] at h))
  (revert S a; refine go 3 ?_; intro a S)
  (refine wv S (sv_toUnsafe S rfl rfl rfl (by simp)) ?_; clear S a; intro a S)
  (refine wv S (sv_noEsc S rfl rfl rfl) ?_; clear S a; intro a S)
  (refine wv S (sv_fromUnsafe S rfl rfl (by kernel_rfl)) ?_; clear S a; intro a S)
  (revert S a; refine go 2 ?_; intro a S)
  (refine wpl_store1 S rfl rfl rfl rfl rfl rfl (by first | (simp; done) | (simp [Value.cells]; done) | exact Nat.le_of_ble_eq_true rfl) ?_; clear S; intro w S)
  refine wpList_nil ?_
  refine fin_end S (results0 Tryz.results229) ?_
  rfl
 (skip; (try simp only [tq] at h); cases h)
theorem copyCheck1 (b : Nat) (v : Value) (F : Heap) : Ct Tryz.prog 229 [.pointer (some ⟨b, 0, none⟩)] F [[(b, .cells ⟨[.pointer (some ⟨b, 0, none⟩), v]⟩ 253 (0, 0))]] (fun _ G' _ => G' = [[(b, .cells ⟨[.pointer (some ⟨b, 0, none⟩), v]⟩ 253 (0, 0))]]) := by
 refine Ct.enter Tryz.func229 rfl Tryz.ntmps229 rfl fun w0 a S => ?_
 (revert S a; refine go 5 ?_; intro Z hZ a S)
 (refine wv S (sv_eqPtrSome S rfl rfl rfl) ?_; clear S a; intro a S)
 (revert S a; revert hZ Z; refine go 2 ?_; intro a S)
 refine wpc_split S rfl (fun h => ?_) (fun h => ?_)
 ·(skip; (try simp only [tq] at h); cases h)
 (skip; (try simp only [tq] at h))
 (revert S a; refine go 6 ?_; intro Z hZ a S)
 (refine wv S (sv_nePtrSame S rfl rfl rfl) ?_; clear S a; intro a S)
 (revert S a; revert hZ Z; refine go 2 ?_; intro a S)
 refine wpc_split S rfl (fun h => ?_) (fun h => ?_)
 ·(skip; (try simp only [tq] at h); cases h)
 (skip; (try simp only [tq] at h))
 refine wp_skip ?_
 refine fin_end S (results0 Tryz.results229) ?_
 rfl
theorem copyCheckCt (b : Nat) (p v : Value) (F : Heap) (hp : bldP b p) : Ct Tryz.prog 229 [.pointer (some ⟨b, 0, none⟩)] F [bldG b p v] (fun _ G' _ => G' = [bldG b (.pointer (some ⟨b, 0, none⟩)) v]) := by
 rcases hp with rfl | rfl
 ·exact copyCheck0 b v F
 ·exact copyCheck1 b v F
def u8c (l : List UInt8) : List Value := l.map fun c => Value.int .u8 c.toNat
theorem writeByteCt (b : Nat) (p v : Value) (k : Nat) (l : List UInt8) (c : UInt8) (g : Grp) (F : Heap) (hp : bldP b p) (hown : OwnS 5 1 v k (u8c l) g) (hk : k ≤ 1000000000) :
  Ct Tryz.prog 195 [.pointer (some ⟨b, 0, none⟩), .int .u8 c.toNat] F [g, bldG b p v] (fun _ G' _ => ∃ v' g', G' = [g', bldG b (.pointer (some ⟨b, 0, none⟩)) v'] ∧ OwnS 5 1 v' (k + 1) (u8c (l ++ [c])) g') := by
 refine Ct.enter Tryz.func195 rfl Tryz.ntmps195 rfl fun w0 a S => ?_
 (revert S a; refine go 6 ?_; intro Z hZ a S)
 (refine wpl_callOwn (Gs := [bldG b p v]) (Gr := [g]) S rfl rfl rfl rfl rfl rfl (copyCheckCt b p v F hp) rfl (by simp only [List.flatten_cons, List.flatten_nil, List.append_nil]; exact List.perm_append_comm) ?_; clear S a; intro u G1 a w hv1 S; subst hv1; replace S : St _ _ _ _ _ _ [[(b, .cells ⟨[.pointer (some ⟨b, 0, none⟩), v]⟩ 253 (0, 0))], g] _ _ := S)
 (revert S a; revert hZ Z; refine go 9 ?_; intro Z hZ a S)
 (refine wpl_append S rfl rfl rfl rfl rfl rfl rfl rfl rfl rfl rfl (fun _ => rfl) hown (by rfl) (by simp [Value.cells, splice]) (by simp [Value.cells, Value.oneCell', splice]) rfl (by rfl) (by rfl) rfl (by omega) (by omega) ?_; clear hown S a; intro v u g a w hown S)
 (revert S a; refine go 2 ?_; intro a S)
 (refine wpl_store1 S rfl rfl rfl rfl rfl hown.oneCell (by simp) ?_; clear S; intro w S)
 (revert S a; revert hZ Z; refine go 6 ?_; intro a S)
 refine wp_ret ?_
 replace S : St _ _ _ _ _ _ [g, bldG b (.pointer (some ⟨b, 0, none⟩)) v] _ _ := ⟨S.fr, S.tr.perm (by simp only [List.flatten_cons, List.flatten_nil, List.append_nil]; exact List.perm_append_comm)⟩
 refine fin_ret S (results1 Tryz.results195 (RV.tmp S rfl)) ?_
 (refine ⟨_, _, rfl, ?_⟩; unfold u8c; rw [List.map_append]; exact hown)
theorem bldString1 (b : Nat) (p v : Value) (k : Nat) (l : List UInt8) (g : Grp) (F : Heap) (hk : k ≤ 1000000000) (h0 : 0 < k) (hown : OwnS 5 1 v k (u8c l) g) :
  Ct Tryz.prog 201 [.pointer (some ⟨b, 0, none⟩)] F [g, bldG b p v] (fun _ _ u => u = .string (bs l)) := by
 obtain ⟨ao, cap, rfl, hcap, -, hpos⟩ := hown.at
 obtain ⟨br, rfl⟩ := hpos h0
 (refine Ct.enter Tryz.func201 rfl Tryz.ntmps201 rfl fun w0 a S => ?_); replace S : St _ _ _ _ _ _ [g, [(b, .cells ⟨[p, .slice (some ⟨br, 0, none⟩) k cap]⟩ 253 (0, 0))]] _ _ := S
 (revert S a; refine go 4 ?_; intro a S)
 (refine wp_seq_k ?_; intro Z hZ)
 (refine wpc_mixL [0, 1, 2, 3, 4, 5, 6, 7, 8, 9] [3, 4, 8, 9] [b] S mixed (by kernel_rfl) ?_; clear S; intro w S)
 refine wppk_one rfl rfl ?_
 (refine wpp_v S rfl rfl rfl rfl (fun _ S => sv_pure S rfl) ?_; clear S a; intro a S)
 refine wpp_nil ?_
 refine wppk_one rfl rfl ?_
 (refine wpp_v S rfl rfl rfl rfl (fun _ S => sv_nilCheck S rfl rfl) ?_; clear S a; intro a S)
 refine wpp_nil ?_
 refine wppk_one rfl rfl ?_
 (refine wpp_v S rfl rfl rfl rfl (fun _ S => sv_fieldAddr S rfl rfl rfl inferInstance rfl) ?_; clear S a; intro a S)
 refine wpp_nil ?_
 first | (refine wppk_late S rfl rfl rfl rfl rfl (fun w' hw => hw.1) (fun w' S => sv_loadO S rfl rfl (by rfl)) ?_; clear S a; intro a S) | (refine wppk_late S rfl rfl rfl rfl rfl (fun w' hw => hw.1) (fun w' S => sv_loadAO S rfl rfl (by rfl)) ?_; clear S a; intro a S)
 (refine wppk_late S rfl rfl rfl rfl rfl (fun w' hw => hw.1) (fun w' S => sv_sliceData S rfl rfl (by omega)) ?_; clear S a; intro a S)
 refine wppk_one rfl rfl ?_
 (refine wpp_v S rfl rfl rfl rfl (fun _ S => sv_pure S rfl) ?_; clear S a; intro a S)
 refine wpp_nil ?_
 refine wppk_one rfl rfl ?_
 (refine wpp_v S rfl rfl rfl rfl (fun _ S => sv_nilCheck S rfl rfl) ?_; clear S a; intro a S)
 refine wpp_nil ?_
 refine wppk_one rfl rfl ?_
 (refine wpp_v S rfl rfl rfl rfl (fun _ S => sv_fieldAddr S rfl rfl rfl inferInstance rfl) ?_; clear S a; intro a S)
 refine wpp_nil ?_
 first | (refine wppk_late S rfl rfl rfl rfl rfl (fun w' hw => hw.1) (fun w' S => sv_loadO S rfl rfl (by rfl)) ?_; clear S a; intro a S) | (refine wppk_late S rfl rfl rfl rfl rfl (fun w' hw => hw.1) (fun w' S => sv_loadAO S rfl rfl (by rfl)) ?_; clear S a; intro a S)
 (refine wppk_late S rfl rfl rfl rfl rfl (fun w' hw => hw.1) (fun w' S => sv_lenSl S rfl rfl) ?_; clear S a; intro a S)
 refine wplk_one rfl ⟨S.has inferInstance, trivial⟩ ?_
 (refine wpl_unsafeString S rfl rfl rfl rfl rfl rfl hown (by kernel_rfl) h0 (by omega) ?_; clear S a; intro a w S)
 refine wpList_nil ?_
 refine wplk_one rfl ⟨S.has inferInstance, trivial⟩ ?_
 (revert S a; refine go 2 ?_; intro a S)
 refine wplk_nil ⟨S.has inferInstance, trivial⟩ ?_
 (refine hZ _ _ ?_; clear hZ Z)
 refine wp_ret (fr1 S Tryz.results201 ?_)
 rfl
theorem bldString0 (b : Nat) (p : Value) (g : Grp) (F : Heap) :
  Ct Tryz.prog 201 [.pointer (some ⟨b, 0, none⟩)] F [g, bldG b p (.slice none 0 0)] (fun _ _ u => u = .string (bs [])) := by
 (refine Ct.enter Tryz.func201 rfl Tryz.ntmps201 rfl fun w0 a S => ?_); replace S : St _ _ _ _ _ _ [g, [(b, .cells ⟨[p, .slice none 0 0]⟩ 253 (0, 0))]] _ _ := S
 (revert S a; refine go 4 ?_; intro a S)
 (refine wp_seq_k ?_; intro Z hZ)
 (refine wpc_mixL [0, 1, 2, 3, 4, 5, 6, 7, 8, 9] [3, 4, 8, 9] [b] S mixed (by kernel_rfl) ?_; clear S; intro w S)
 refine wppk_one rfl rfl ?_
 (refine wpp_v S rfl rfl rfl rfl (fun _ S => sv_pure S rfl) ?_; clear S a; intro a S)
 refine wpp_nil ?_
 refine wppk_one rfl rfl ?_
 (refine wpp_v S rfl rfl rfl rfl (fun _ S => sv_nilCheck S rfl rfl) ?_; clear S a; intro a S)
 refine wpp_nil ?_
 refine wppk_one rfl rfl ?_
 (refine wpp_v S rfl rfl rfl rfl (fun _ S => sv_fieldAddr S rfl rfl rfl inferInstance rfl) ?_; clear S a; intro a S)
 refine wpp_nil ?_
 first | (refine wppk_late S rfl rfl rfl rfl rfl (fun w' hw => hw.1) (fun w' S => sv_loadO S rfl rfl (by rfl)) ?_; clear S a; intro a S) | (refine wppk_late S rfl rfl rfl rfl rfl (fun w' hw => hw.1) (fun w' S => sv_loadAO S rfl rfl (by rfl)) ?_; clear S a; intro a S)
 (refine wppk_late S rfl rfl rfl rfl rfl (fun w' hw => hw.1) (fun w' S => sv_sliceDataNil S rfl rfl) ?_; clear S a; intro a S)
 refine wppk_one rfl rfl ?_
 (refine wpp_v S rfl rfl rfl rfl (fun _ S => sv_pure S rfl) ?_; clear S a; intro a S)
 refine wpp_nil ?_
 refine wppk_one rfl rfl ?_
 (refine wpp_v S rfl rfl rfl rfl (fun _ S => sv_nilCheck S rfl rfl) ?_; clear S a; intro a S)
 refine wpp_nil ?_
 refine wppk_one rfl rfl ?_
 (refine wpp_v S rfl rfl rfl rfl (fun _ S => sv_fieldAddr S rfl rfl rfl inferInstance rfl) ?_; clear S a; intro a S)
 refine wpp_nil ?_
 first | (refine wppk_late S rfl rfl rfl rfl rfl (fun w' hw => hw.1) (fun w' S => sv_loadO S rfl rfl (by rfl)) ?_; clear S a; intro a S) | (refine wppk_late S rfl rfl rfl rfl rfl (fun w' hw => hw.1) (fun w' S => sv_loadAO S rfl rfl (by rfl)) ?_; clear S a; intro a S)
 (refine wppk_late S rfl rfl rfl rfl rfl (fun w' hw => hw.1) (fun w' S => sv_lenSl S rfl rfl) ?_; clear S a; intro a S)
 refine wplk_one rfl ⟨S.has inferInstance, trivial⟩ ?_
 (refine wv S (sv_unsafeStringNil S rfl rfl rfl) ?_; clear S a; intro a S)
 refine wpList_nil ?_
 refine wplk_one rfl ⟨S.has inferInstance, trivial⟩ ?_
 (revert S a; refine go 2 ?_; intro a S)
 refine wplk_nil ⟨S.has inferInstance, trivial⟩ ?_
 (refine hZ _ _ ?_; clear hZ Z)
 refine wp_ret (fr1 S Tryz.results201 ?_)
 rfl
theorem bldStringCt (b : Nat) (p v : Value) (l : List UInt8) (g : Grp) (F : Heap) (hk : l.length ≤ 1000000000) (h0 : l = [] → v = .slice none 0 0) (hown : OwnS 5 1 v l.length (u8c l) g) :
  Ct Tryz.prog 201 [.pointer (some ⟨b, 0, none⟩)] F [g, bldG b p v] (fun _ _ u => u = .string (bs l)) := by
 rcases Nat.eq_zero_or_pos l.length with h | h
 ·have : l = [] := List.eq_nil_of_length_eq_zero h
  subst this
  rw [h0 rfl]
  exact bldString0 b p g F
 ·exact bldString1 b p v l.length l g F hk h hown
theorem writeStringCt (b : Nat) (p v : Value) (k : Nat) (l s : List UInt8) (g : Grp) (F : Heap) (hp : bldP b p) (hown : OwnS 5 1 v k (u8c l) g) (hk : k ≤ 140737000000000) (hs : s.length ≤ 100000000) (h0 : 0 < s.length) :
  Ct Tryz.prog 196 [.pointer (some ⟨b, 0, none⟩), .string (bs s)] F [g, bldG b p v] (fun _ G' _ => ∃ v' g', G' = [g', bldG b (.pointer (some ⟨b, 0, none⟩)) v'] ∧ OwnS 5 1 v' (k + s.length) (u8c (l ++ s)) g') := by
 refine Ct.enter Tryz.func196 rfl Tryz.ntmps196 rfl fun w0 a S => ?_
 (revert S a; refine go 7 ?_; intro Z hZ a S)
 (refine wpl_callOwn (Gs := [bldG b p v]) (Gr := [g]) S rfl rfl rfl rfl rfl rfl (copyCheckCt b p v F hp) rfl (by simp only [List.flatten_cons, List.flatten_nil, List.append_nil]; exact List.perm_append_comm) ?_; clear S a; intro u G1 a w hv1 S; subst hv1; replace S : St _ _ _ _ _ _ [[(b, .cells ⟨[.pointer (some ⟨b, 0, none⟩), v]⟩ 253 (0, 0))], g] _ _ := S)
 (revert S a; revert hZ Z; refine go 9 ?_; intro Z hZ a S)
 (refine wpl_appendStr S rfl rfl rfl rfl rfl rfl hown (by rfl) h0 (by omega) (by omega) ?_; clear hown S a; intro v g a w hown S)
 (revert S a; refine go 2 ?_; intro a S)
 (refine wpl_store1 S rfl rfl rfl rfl rfl hown.oneCell (by simp) ?_; clear S; intro w S)
 (revert S a; revert hZ Z; refine go 9 ?_; intro a S)
 refine wp_ret ?_
 replace S : St _ _ _ _ _ _ [g, bldG b (.pointer (some ⟨b, 0, none⟩)) v] _ _ := ⟨S.fr, S.tr.perm (by simp only [List.flatten_cons, List.flatten_nil, List.append_nil]; exact List.perm_append_comm)⟩
 refine fin_ret S (results2 Tryz.results196 (RV.tmp S rfl) (RV.tmp S rfl)) ?_
 (refine ⟨_, _, rfl, ?_⟩; unfold u8c; rw [List.map_append]; exact hown)
end Go.Proofs.YthnafdbebniapaaGreatDoor
namespace Go.Wk
open Go
set_option linter.unusedVariables false
set_option linter.unusedSimpArgs false
set_option linter.unusedSectionVars false
class KeyK (d : TypeDesc) {α : Type} [DecidableEq α] (enc : α → Value) : Prop where
  same : ∀ a b, Instr.sameNow d (enc a) (enc b) = some (decide (a = b))
  bits : ∀ a, Instr.sameBits 10000 (enc a) (enc a) = true
  chk : ∀ (P : Program) (w : World) (t : TypeId) (em : Bool) (a : α), P.underlying t = some d → (Instr.checkKey em 10000 t (enc a)).run P w = .ok () w
def kS (l : List UInt8) : Value := .string (bs l)
theorem bs_beq (a b : List UInt8) : (bs a == bs b) = decide (a = b) := by
 show ((⟨a⟩ : Array UInt8) == ⟨b⟩) = _
 rw [Bool.eq_iff_iff]; simp
instance : KeyK .string kS where
 same a b := by
  simp only [Instr.sameNow, kS, bs_beq]
 bits a := by simp [Instr.sameBits, kS, bs_beq]
 chk P w t em a h := by
  rw [Instr.checkKey]
  simp [run_underlying h, kS]
section
variable {α : Type} [DecidableEq α]
def mEnt (enc : α → Value) : Nat → List (α × Value) → List MapEntry
 | _, [] => []
 | n, (k, v) :: r => { key := enc k, val := v, born := n } :: mEnt enc (n + 1) r
def mObj (enc : α → Value) (es : List (α × Value)) : Obj := .map ⟨mEnt enc 0 es⟩ es.length
def mGet (es : List (α × Value)) (k : α) : Option Value := (es.find? fun p => decide (k = p.1)).map (·.2)
def mSet : List (α × Value) → α → Value → List (α × Value)
 | [], k, v => [(k, v)]
 | (a, u) :: r, k, v => if k = a then (a, v) :: r else (a, u) :: mSet r k v
theorem mGet_set (es : List (α × Value)) (k j : α) (v : Value) : mGet (mSet es k v) j = if j = k then some v else mGet es j := by
 induction es with
 | nil => by_cases h : j = k <;> simp [mSet, mGet, h]
 | cons p r ih =>
  obtain ⟨a, u⟩ := p
  unfold mSet
  by_cases hk : k = a
  ·subst hk
   rw [if_pos rfl]
   by_cases h : j = k <;> simp [mGet, h]
  ·rw [if_neg hk]
   unfold mGet at ih ⊢
   by_cases h : j = a
   ·subst h
    rw [if_neg (Ne.symm hk)]
    simp
   ·simp only [List.find?_cons, h, decide_false]
    exact ih
theorem mSet_new {es : List (α × Value)} {k : α} {v : Value} (h : mGet es k = none) : mSet es k v = es ++ [(k, v)] := by
 induction es with
 | nil => rfl
 | cons p r ih =>
  obtain ⟨a, u⟩ := p
  unfold mGet at h ih
  by_cases hk : k = a
  ·subst hk; simp at h
  ·simp only [List.find?_cons, hk, decide_false] at h
   unfold mSet
   rw [if_neg hk, ih h]; rfl
theorem findNow_ent {d : TypeDesc} {enc : α → Value} [hk : KeyK d enc] (k : α) : ∀ (es : List (α × Value)) (n i : Nat),
  Instr.findNow d (enc k) (mEnt enc n es) i = some ((es.findIdx? fun p => decide (k = p.1)).map fun j => (i + j, ((es[j]?).map (·.2)).getD undef))
 | [], _, _ => rfl
 | (a, u) :: r, n, i => by
  rw [mEnt, Instr.findNow, hk.same]
  by_cases h : k = a
  ·subst h; simp [List.findIdx?_cons]
  ·have := findNow_ent (d := d) (enc := enc) k r (n + 1) (i + 1)
   simp only [h, decide_false]
   rw [this]
   simp only [List.findIdx?_cons, h, decide_false, Bool.false_eq_true, if_false, Option.map_map]
   congr 1
   cases hf : List.findIdx? (fun p => decide (k = p.1)) r with
   | none => rfl
   | some j => simp [Nat.add_assoc, Nat.add_comm 1 j]
theorem mGet_idx (es : List (α × Value)) (k : α) : mGet es k = (es.findIdx? fun p => decide (k = p.1)).bind fun j => (es[j]?).map (·.2) := by
 induction es with
 | nil => rfl
 | cons p r ih =>
  obtain ⟨a, u⟩ := p
  unfold mGet at ih ⊢
  by_cases h : k = a
  ·subst h; simp [List.findIdx?_cons]
  ·simp only [List.find?_cons, h, decide_false, List.findIdx?_cons, Bool.false_eq_true, if_false]
   rw [ih]
   cases List.findIdx? (fun p => decide (k = p.1)) r <;> simp
theorem mEnt_append (enc : α → Value) : ∀ (n : Nat) (es : List (α × Value)) (k : α) (v : Value), mEnt enc n (es ++ [(k, v)]) = mEnt enc n es ++ [{ key := enc k, val := v, born := n + es.length }]
 | n, [], k, v => rfl
 | n, _ :: r, k, v => by simp [mEnt, mEnt_append enc (n + 1) r k v, Nat.add_assoc, Nat.add_comm 1]
theorem mEnt_modify (enc : α → Value) (k : α) (v : Value) : ∀ (n : Nat) (es : List (α × Value)) (j : Nat), (es.findIdx? fun p => decide (k = p.1)) = some j →
  (mEnt enc n es).modify j (fun e => { e with key := enc k, val := v }) = mEnt enc n (mSet es k v) ∧ ((mEnt enc n es)[j]?).map (·.key) = some (enc k) ∧ (mSet es k v).length = es.length
 | n, [], j, h => by cases h
 | n, (a, u) :: r, j, h => by
  rw [List.findIdx?_cons] at h
  by_cases hk : k = a
  ·subst hk
   simp at h
   subst h
   simp [mEnt, mSet]
  ·simp only [hk, decide_false, Bool.false_eq_true, if_false] at h
   cases hf : List.findIdx? (fun p => decide (k = p.1)) r with
   | none => rw [hf] at h; cases h
   | some i =>
    rw [hf] at h
    simp at h
    subst h
    obtain ⟨h1, h2, h3⟩ := mEnt_modify enc k v (n + 1) r i hf
    unfold mSet
    rw [if_neg hk]
    simp [mEnt, h1, h2, h3]
variable {P : Program} {n : Sz} {L : List (Nat × Value)} {w0 : World} {F0 : Heap} {K0 : List Nat} {F : Heap} {G : List Grp} {a : Act} {w : World} {ops : Array Oper} {Q : Exit → Act → World → Prop} {rest : List Oper} {o : Oper}
theorem run_findKey {d : TypeDesc} {enc : α → Value} [hk : KeyK d enc] {kt : TypeId} (h : P.underlying kt = some d) (w : World) (es : List (α × Value)) (k : α) :
  (Instr.findKey kt (enc k) (mEnt enc 0 es)).run P w = .ok ((es.findIdx? fun p => decide (k = p.1)).map fun j => (j, ((es[j]?).map (·.2)).getD undef)) w := by
 unfold Instr.findKey
 simp only [Sem.run_bind, run_underlying h, Result.andThen_ok, findNow_ent (d := d) k es 0 0, Nat.zero_add]
 rfl
theorem run_getMap {w : World} {b : Nat} {es : Array MapEntry} {c : Nat} (h : w.heap[b]? = some (.map es c)) : (getObj b).run P w = .ok (.map es c) w := by simp [getObj, Sem.run, h]
theorem run_lookupM {d : TypeDesc} {enc : α → Value} [hk : KeyK d enc] {t kt e : TypeId} {z : Value} {sz by_ : Nat} {b : Nat} (ht : Und P t (.map kt e)) (hd : P.underlying kt = some d) (hi : Inf P e z sz by_) {w : World} {es : List (α × Value)} (hb : w.heap[b]? = some (mObj enc es)) (k : α) (ok : Bool) :
  (Instr.lookup t (.map (some b)) (enc k) ok).run P w = .ok (if ok then .tuple #[(mGet es k).getD z, .bool (mGet es k).isSome] else (mGet es k).getD z) w := by
 unfold Instr.lookup
 have hg := run_getMap (P := P) hb
 have hc := hk.chk P w kt (mEnt enc 0 es).toArray.isEmpty k hd
 simp only [Sem.run_bind, run_underlying ht.h, Result.andThen_ok, hg, Sem.run_pure, hc, run_findKey (d := d) hd w es k]
 rw [mGet_idx]
 cases hf : List.findIdx? (fun p => decide (k = p.1)) es with
 | none => simp [run_zero hi]
 | some j =>
  have hj : j < es.length := (List.findIdx?_eq_some_iff_findIdx_eq.1 hf).1
  simp [List.getElem?_eq_getElem hj]
theorem sv_lookupO {d : TypeDesc} {enc : α → Value} [hk : KeyK d enc] {x y : Operand} {t kt e : TypeId} {z : Value} {sz by_ : Nat} {b : Nat} {es : List (α × Value)} {R} {k : α} {ok : Bool} [ht : Und P t (.map kt e)] [hd : Und P kt d] [hi : Inf P e z sz by_] [hh : Has G b (mObj enc es) R]
  (S : St n L w0 F0 K0 F G a w) (ho : o.op = .lookup t x y ok) (hx : ev L x = some (.map (some b))) (hy : ev L y = some (enc k)) : SV P o a w (if ok then .tuple #[(mGet es k).getD z, .bool (mGet es k).isSome] else (mGet es k).getD z) := by
 unfold SV execOp
 rw [ho]
 simp [S.fr.eval hx, S.fr.eval hy, run_lookupM (d := d) ht hd.h hi (S.has hh) k ok]
theorem sv_lookupF {d : TypeDesc} {enc : α → Value} [hk : KeyK d enc] {x y : Operand} {t kt e : TypeId} {z : Value} {sz by_ : Nat} {b : Nat} {es : List (α × Value)} {k : α} {ok : Bool} [ht : Und P t (.map kt e)] [hd : Und P kt d] [hi : Inf P e z sz by_]
  (S : St n L w0 F0 K0 F G a w) (ho : o.op = .lookup t x y ok) (hx : ev L x = some (.map (some b))) (hy : ev L y = some (enc k)) (hb : F b = some (mObj enc es)) : SV P o a w (if ok then .tuple #[(mGet es k).getD z, .bool (mGet es k).isSome] else (mGet es k).getD z) := by
 unfold SV execOp
 rw [ho]
 simp [S.fr.eval hx, S.fr.eval hy, run_lookupM (d := d) ht hd.h hi (S.tr.frz _ _ hb) k ok]
theorem wpl_makeMap {d : Nat} {t : TypeId} (enc : α → Value) (S : St n L w0 F0 K0 F G a w) (hg : o.guard = none) (hd : o.dst = some d) (ho : o.op = .makeMap t none) (hn : Nat.blt d n.sz = true)
  (k : ∀ b a' w', St n ((d, .map (some b)) :: L) w0 F0 K0 F ([(b, mObj enc [])] :: G) a' w' → wpList P ops Q rest a' w') : wpList P ops Q (o :: rest) a w := by
 refine wpList_plain hg fun K hK => ?_
 unfold Oper.wp execOp
 rw [ho]
 have hr : (Instr.makeMap t none).run P w = .ok (.map (some w.heap.size)) (w.alloc (mObj enc [])) := rfl
 simp only [Sem.run_bind, Option.map_none, hr, Result.andThen_ok, Sem.run_pure, Oper.upon_value, hd]
 exact hK _ _ (k _ _ _ (S.alloc _ hn _))
theorem wpl_mapSet {d : TypeDesc} {enc : α → Value} [hk : KeyK d enc] {t kt e : TypeId} {x y z : Operand} {b : Nat} {es : List (α × Value)} {R} {k : α} {v : Value} [ht : Und P t (.map kt e)] [hd : Und P kt d] [hh : Has G b (mObj enc es) R]
  (S : St n L w0 F0 K0 F G a w) (hg : o.guard = none) (ho : o.op = .mapUpdate t x y z) (hdst : o.dst = none) (hx : ev L x = some (.map (some b))) (hy : ev L y = some (enc k)) (hz : ev L z = some v)
  (kk : ∀ w', St n L w0 F0 K0 F (R [(b, mObj enc (mSet es k v))]) a w' → wpList P ops Q rest a w') : wpList P ops Q (o :: rest) a w := by
 refine wpList_plain hg fun K hK => ?_
 have hb := S.has hh
 have hr : (Instr.mapUpdate t (.map (some b)) (enc k) v).run P w = .ok () (w.putObj b (mObj enc (mSet es k v))) := by
  unfold Instr.mapUpdate
  have hg := run_getMap (P := P) hb
  have hc := hk.chk P w kt false k hd.h
  simp only [Sem.run_bind, run_underlying ht.h, Result.andThen_ok, hg, Sem.run_pure, hc, run_findKey (d := d) hd.h w es k]
  cases hf : List.findIdx? (fun p => decide (k = p.1)) es with
  | none =>
   have hn : mGet es k = none := by rw [mGet_idx, hf]; rfl
   simp only [Option.map_none, mSet_new hn, mObj, mEnt_append]
   simp only [mObj] at hb
   simp [setObj, Sem.run, hb, World.putObj, Array.set!]
  | some j =>
   obtain ⟨h1, h2, h3⟩ := mEnt_modify enc k v 0 es j hf
   simp only [Option.map_some, Sem.run_bind, mObj, List.getElem?_toArray, h2, Option.getD_some]
   unfold Instr.keyThatStays
   rw [if_pos (hk.bits k)]
   simp only [Sem.run_pure, Result.andThen_ok, List.modify_toArray, h1, h3]
   simp only [mObj] at hb
   simp [setObj, Sem.run, hb, World.putObj, Array.set!]
 unfold Oper.wp execOp
 rw [ho]
 simp [S.fr.eval hx, S.fr.eval hy, S.fr.eval hz, hr, Oper.upon_skip, hdst, Act.put]
 exact hK _ _ (kk _ (S.write hh rfl rfl rfl (by simp) (World.putObj_heap_same (heap_lt hb)) fun j hj => World.putObj_heap_other hj))
theorem Ct.lend {f : FuncId} {args : List Value} {g : Grp} {Post : Value → Prop} (C : Ct P f args (F.add g) [] (fun _ _ v => Post v)) : Ct P f args F [g] (fun _ G' v => G' = [g] ∧ Post v) := by
 intro w hw
 have hT : Tr w F (keys [g]) w (F.add g) ([] ++ []) := Tr.freeze (G1 := []) (G2 := []) hw.tr
 have hA : At w (F.add g) [] := hT.at
 refine (C w hA).mono fun e w' ⟨v, F', G', he, ht, hp⟩ => ⟨v, F, [g], he, ?_, rfl, hp⟩
 refine ⟨ht.os, ht.tape, ht.output, ht.size, fun b hb _ => ht.old b hb (by simp [keys]), fun b o hb => ?_, fun _ _ h => h, fun _ _ h => .inl h, fun p hq => ?_, hw.nd⟩
 ·have h1 := hw.frz b o hb
  rw [ht.old b (heap_lt h1) (by simp [keys])]; exact h1
 ·have h1 := hw.own p hq
  refine ⟨?_, h1.2, .inr (mem_keys hq)⟩
  rw [ht.old p.1 (heap_lt h1.1) (by simp [keys])]; exact h1.1
end
end Go.Wk
