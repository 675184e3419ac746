/- Walks. -/
import Derived.Test.YtgefmjghdijbfaaGreatDoorKEvalValuesUpto11
import Derived.Test.YtgefmjghdijbfaaGreatDoorKEvalValuesUpto09
import Derived.Test.YtgefmjghdijbfaaGreatDoorQ19
import Derived.Test.YtgefmjghdijbfaaGreatDoorKEvalValuesUpto06
import Derived.Test.YtgefmjghdijbfaaGreatDoorQ15
import Derived.Test.YtgefmjghdijbfaaGreatDoorQ14
import Derived.Test.YtgefmjghdijbfaaGreatDoorKEvalValuesUpto07
import Derived.Test.YtgefmjghdijbfaaGreatDoorQ05
import Derived.Test.YtgefmjghdijbfaaGreatDoorKEvalValuesUpto01
import Derived.Test.YtgefmjghdijbfaaGreatDoorQ20
set_option maxHeartbeats 8000000
set_option maxRecDepth 20000
namespace Go.Proofs.YtgefmjghdijbfaaGreatDoor
open Go Go.Wk Go.Un Go.De Go.Cv
set_option linter.unusedSimpArgs false
set_option linter.unusedVariables false
attribute [local irreducible] Go.wpList Go.Code.wp Go.wpStill Go.Wk.wpPre Go.bodyPost Go.Calls Go.Wk.Ct Go.Wk.OwnS Go.Wk.wpG Go.Wk.wpM
theorem stOneR {n : Sz} {L : List (Nat × Value)} {w0 : World} {F0 : Heap} {K0 : List Nat} {F : Heap} {g : Grp} {R : List Grp} {a : Act} {w : World} (S : St n L w0 F0 K0 F (g :: R) a w) : St n L w0 F0 K0 F [g] a w := ⟨S.fr, S.tr.sub (by simp only [List.flatten_cons, List.flatten_nil, List.append_nil]; exact List.sublist_append_left _ _)⟩
def PosQ (u : Value) : Prop := ∃ l c e : Int, u = .tuple ⟨[.agg ⟨[.int .i64 l, .int .i64 c]⟩, .int .i64 e]⟩
theorem zzRn0 {p : Prop} (h : p := by (first | exact ⟨_, _, _, _, _, _, _, _, _, rfl, hf6⟩ | exact ⟨_, _, _, _, _, _, _, _, _, rfl, Nat.zero_le _⟩ | trace_state)) : p := h
theorem rrel0Ct (F : Heap) (tp : Nat) (rs : List RD) (hR : RRel F tp rs) (s : List UInt8) : Ct Tryz.prog 106 [.pointer (some ⟨tp, 0, none⟩), .string (bs s)] F [] (fun _ _ u => ∃ (l c : Int) (p i b : Bool) (nm : List UInt8) (a : Option Addr) (n k : Nat), u = .tuple ⟨[.agg ⟨[.int .i64 l, .int .i64 c, .bool p, .bool i, .string (bs nm), .slice a n k]⟩, .bool b]⟩ ∧ n ≤ 140737488355328) := by
 obtain ⟨ao, cap, hc3, _, _, e9, hcap, hpos⟩ := hR
 cases e9
 refine Ct.enter Tryz.func106 rfl Tryz.ntmps106 rfl fun w0 a S => ?_
 refine wp_sr fun Z hZ => ?_
 (refine wpl_alloc S rfl rfl rfl rfl ?_; clear S a; intro b4 a w S)
 (revert S a; revert hZ Z; refine go 9 ?_; intro Z hZ a S)
 refine wpc_loop (fun m a w' => ∃ (i : Nat), m = rs.length - i ∧ i ≤ rs.length ∧ St 37 [(0, ptr tp), (1, .string (bs s)), (4, ptr b4), (6, .int .i64 i)] w0 F [] F [[(b4, .cells ⟨[.int .i64 0, .int .i64 0, .bool false, .bool false, .string (bs []), .slice none 0 0]⟩ 111 (0, 0))]] a w') ?_ ?_
 ·(refine ⟨rs.length, 0, by omega, Nat.zero_le _, ?_⟩; refine S.keep ?_; exact zk)
 (clear S; rintro m a w ⟨i, rfl, hil, S⟩)
 (revert S a; refine go 7 ?_; intro Z hZ Z hZ a S)
 first | (refine wv S (sv_loadO S rfl rfl (by rfl)) ?_; clear S a; intro a S) | (refine wv S (sv_loadF S rfl rfl (by assumption)) ?_; clear S a; intro a S) | (refine wv S (sv_loadF S rfl rfl hc3) ?_; clear S a; intro a S)
 (revert S a; revert hZ Z; refine go 4 ?_; intro a S)
 refine wpc_sp S rfl ?_ ?_ <;> intro h
 ·(revert S a; revert hZ Z; refine go 4 ?_; intro Z hZ a S)
  (refine wp_seq_k ?_; intro Z hZ)
  (obtain ⟨b8, o8, hao, x, cs1, hx, hc1, ⟨v6, rfl, hfs⟩⟩ := LiM.pos hpos (k := i) (by omega); obtain ⟨a61, c61, rfl, ⟨-, hf6⟩, -⟩ := id hfs; rw [hao] at hc3)
  (revert S a; refine go 5 ?_; intro a S)
  (refine wv S (sv_loadF S rfl rfl hc3) ?_; clear S a; intro a S)
  (revert S a; refine go 3 ?_; intro a S)
  (refine wv S (sv_loadF S rfl rfl (hc1 4 _ rfl)) ?_; clear S a; intro a S)
  (revert S a; revert hZ Z; refine go 4 ?_; intro a S)
  refine wpc_sp S rfl ?_ ?_ <;> intro h
  ·(revert S a; refine go 5 ?_; intro Z hZ a S)
   (refine wv S (sv_loadF S rfl rfl hc3) ?_; clear S a; intro a S)
   (revert S a; refine go 2 ?_; intro a S)
   (refine wv S (sv_loadAF S rfl rfl hc1 rfl) ?_; clear S a; intro a S)
   (refine wso S rfl rfl ?_; clear S; intro w S)
   (revert S a; revert hZ Z; refine go 3 ?_; intro a S)
   refine wp_ret (fin_ret S (results2 Tryz.results106 (RV.cellO S rfl (by rfl)) (RV.tmp S rfl)) ?_)
   exact zzRn0
  (revert S a; revert hZ Z; refine go 7 ?_; intro a S)
  change ∃ m', _ ∧ _
  (refine ⟨rs.length - (i + 1), by omega, i + 1, rfl, by omega, ?_⟩; (refine S.keep ?_; exact zk))
 (refine wp_exit ?_; conv => whnf)
 clear hZ Z
 (revert S a; revert hZ Z; refine go 3 ?_; intro Z hZ a S)
 (refine wso S rfl rfl ?_; clear S; intro w S)
 (revert S a; revert hZ Z; refine go 3 ?_; intro a S)
 refine wp_ret (fin_ret S (results2 Tryz.results106 (RV.cellO S rfl (by rfl)) (RV.tmp S rfl)) ?_)
 exact zzRn0
theorem rcons0Ct (F : Heap) (tp : Nat) (ts : List TD) (hT : RTab F tp ts) (s : List UInt8) : Ct Tryz.prog 149 [.pointer (some ⟨tp, 0, none⟩), .string (bs s)] F [] (fun _ _ u => ∃ (b : Bool) (nm : List UInt8) (p : Int) (a1 : Option Addr) (n1 c1 : Nat) (a4 : Option Addr) (n4 c4 : Nat), u = .tuple ⟨[.agg ⟨[.string (bs nm), .slice a1 n1 c1, .int .i64 p, .slice a4 n4 c4]⟩, .bool b]⟩ ∧ n4 ≤ 140737488355328) :=
 (rconsCt F tp ts hT s).mono fun F' G' u ⟨x, a1, n1, c1, a4, c4, e, _, _, h4⟩ => by
  obtain ⟨_, _, e9, ⟨-, h9⟩, -⟩ := h4
  exact ⟨_, _, _, _, _, _, _, _, _, e, h9⟩
theorem rexprs0Ct (F : Heap) (tp : Nat) (ts : List TD) (hT : RTab F tp ts) : ∀ (n : Nat) (L : Ef) (v : Value), L.size ≤ n → TrS F 9 EhR v L → Ct Tryz.prog 107 [.pointer (some ⟨tp, 0, none⟩), v] F [] (fun _ _ u => PosQ u) := by
  intro n
  induction n using Nat.strongRecOn with
  | _ n ih =>
  intro L v hn h
  obtain ⟨ao, cap, rfl, hcap, hpos⟩ := h
  refine Ct.enter Tryz.func107 rfl Tryz.ntmps107 rfl fun w0 a S => ?_
  refine wp_sr fun Z hZ => ?_
  (refine wpl_alloc S rfl rfl rfl rfl ?_; clear S a; intro b4 a w S)
  (revert S a; revert hZ Z; refine go 9 ?_; intro Z hZ a S)
  refine wpc_loop (fun m a w' => ∃ (k : Nat), m = L.len - k ∧ k ≤ L.len ∧ St 70 [(0, ptr tp), (1, .slice ao L.len cap), (4, ptr b4), (6, .int .i64 k)] w0 F [] F [[(b4, .cells ⟨[.int .i64 0, .int .i64 0]⟩ 30 (0, 0))]] a w') ?_ ?_
  · (refine ⟨L.len, 0, by omega, Nat.zero_le _, ?_⟩; refine S.keep ?_; exact zk)
  (clear S; rintro m a w ⟨k, rfl, hkl, S⟩)
  (revert S a; refine go 8 ?_; intro Z hZ a S)
  refine wpc_sp S rfl ?_ ?_ <;> intro h
  · (revert S a; revert hZ Z; refine go 4 ?_; intro Z hZ a S)
    (refine wp_seq_k ?_; intro Z hZ)
    replace hZ : ∀ (a' : Act) (w' : World), (True ∧ St 70 [(0, ptr tp), (1, .slice ao L.len cap), (4, ptr b4), (6, .int .i64 k)] w0 F [] F [[(b4, .cells ⟨[.int .i64 0, .int .i64 0]⟩ 30 (0, 0))]] a' w') → Z a' w' := (by
     (intro a w hM; refine hZ _ _ ?_; clear hZ Z; clear S; obtain ⟨-, S⟩ := hM)
     (refine wp_seq_k ?_; intro Z hZ)
     (obtain ⟨b8, o8, hao, x, cs1, v1, hx, hc1, ⟨w9, rfl, -⟩, hT1⟩ := TrM.pos hpos (k := k) (by omega); rw [hao] at S; have hxs := Rose.size_get hx; have hT1c := hT1; obtain ⟨a91, c91, rfl, ⟨-, hl9⟩, -⟩ := hT1c; (simp only [List.cons_append, List.nil_append] at hc1))
     (revert S a; refine go 6 ?_; intro a S)
     (refine wv S (sv_loadF S rfl rfl (hc1 8 _ rfl)) ?_; clear S a; intro a S)
     (refine wc0 S (ih x.2.size (by omega) x.2 _ (Nat.le_refl _) hT1) ?_; clear S a; intro v62 a w hv S; obtain ⟨l62, c62, e62, rfl⟩ := hv)
     (revert S a; refine go 3 ?_; intro a S)
     (refine wpl_alloc S rfl rfl rfl rfl ?_; clear S a; intro b9 a w S)
     (refine wso S rfl rfl ?_; clear S; intro w S)
     (revert S a; revert hZ Z; refine go 8 ?_; intro a S)
     refine wpc_sp S rfl ?_ ?_ <;> intro h
     · (revert S a; refine go 3 ?_; intro Z hZ a S)
       (refine wso S rfl rfl ?_; clear S; intro w S)
       (revert S a; revert hZ Z; refine go 3 ?_; intro a S)
       refine wp_ret (fin_ret S (results2 Tryz.results107 (RV.cellO S rfl (by rfl)) (RV.tmp S rfl)) ?_)
       exact ⟨_, _, _, rfl⟩
     (revert S a; revert hZ Z; refine go 7 ?_; intro a S)
     change ∃ m', _ ∧ _
     (rw [← hao] at S; replace S := stOneR (St.pullB b4 S); refine ⟨L.len - (k + 1), by omega, k + 1, rfl, by omega, ?_⟩; (refine S.keep ?_; exact zk)))
    (refine wp_seq_k ?_; intro Z hZ)
    (obtain ⟨b8, o8, hao, x, cs1, v1, hx, hc1, ⟨w9, rfl, -⟩, hT1⟩ := TrM.pos hpos (k := k) (by omega); rw [hao] at S; have hxs := Rose.size_get hx; have hT1c := hT1; obtain ⟨a91, c91, rfl, ⟨-, hl9⟩, -⟩ := hT1c; (simp only [List.cons_append, List.nil_append] at hc1))
    (revert S a; refine go 5 ?_; intro a S)
    (refine wv S (sv_loadF S rfl rfl (hc1 0 _ rfl)) ?_; clear S a; intro a S)
    (revert S a; revert hZ Z; refine go 3 ?_; intro a S)
    refine wpc_sp S rfl ?_ ?_ <;> intro h
    · (revert S a; refine go 6 ?_; intro Z hZ a S)
      (refine wv S (sv_loadF S rfl rfl (hc1 3 _ rfl)) ?_; clear S a; intro a S)
      (refine wc0 S (rcons0Ct F tp ts hT x.1.nm) ?_; clear S a; intro v30 a w hv S; obtain ⟨bq, nq, pq, a1q, n1q, c1q, a4q, n4q, c4q, rfl, hn4⟩ := hv)
      (revert S a; refine go 3 ?_; intro a S)
      (refine wpl_alloc S rfl rfl rfl rfl ?_; clear S a; intro b7 a w S)
      (refine wso S rfl rfl ?_; clear S; intro w S)
      (revert S a; revert hZ Z; refine go 9 ?_; intro Z hZ a S)
      refine wpc_sp S rfl ?_ ?_ <;> intro h
      · (revert S a; refine go 5 ?_; intro Z hZ a S)
        (refine wv S (sv_loadAF S rfl rfl (vs := [.int .i64 x.1.l, .int .i64 x.1.c]) (fun j u hj => (show o8 + k * 9 + 1 + j = o8 + k * 9 + (1 + j) by omega) ▸ hc1 (1 + j) u (by match j, hj with | 0, hj => exact hj | 1, hj => exact hj)) rfl) ?_; clear S a; intro a S)
        (refine wso S rfl rfl ?_; clear S; intro w S)
        (revert S a; revert hZ Z; refine go 3 ?_; intro a S)
        refine wp_ret (fin_ret S (results2 Tryz.results107 (RV.cellO S rfl (by rfl)) (RV.tmp S rfl)) ?_)
        exact ⟨_, _, _, rfl⟩
      (revert S a; revert hZ Z; refine go 2 ?_; intro a S)
      (refine wp_seq_k ?_; intro Z hZ)
      (refine wpc_mixM [0, 1, 2, 3, 4, 5, 6, 7, 8, 9] [1, 7] [] (.one 0 (.one 1 (.one 2 (.one 3 (.one 4 (.one 5 (.one 6 (.one 7 (.one 8 (.one 9 .nil)))))))))) [b7] S mixed (by kernel_rfl) ?_; clear S; intro w S)
      (revert S a; refine go 7 ?_; intro a S)
      (refine wlF S rfl (fun w' S => sv_loadF S rfl rfl (hc1 8 _ rfl)) ?_; clear S a; intro a S)
      (revert S a; revert hZ Z; refine go 4 ?_; intro a S)
      refine wpc_sp S rfl ?_ ?_ <;> intro h
      · (revert S a; refine go 5 ?_; intro Z hZ a S)
        (refine wv S (sv_loadAF S rfl rfl (vs := [.int .i64 x.1.l, .int .i64 x.1.c]) (fun j u hj => (show o8 + k * 9 + 1 + j = o8 + k * 9 + (1 + j) by omega) ▸ hc1 (1 + j) u (by match j, hj with | 0, hj => exact hj | 1, hj => exact hj)) rfl) ?_; clear S a; intro a S)
        (refine wso S rfl rfl ?_; clear S; intro w S)
        (revert S a; revert hZ Z; refine go 3 ?_; intro a S)
        refine wp_ret (fin_ret S (results2 Tryz.results107 (RV.cellO S rfl (by rfl)) (RV.tmp S rfl)) ?_)
        exact ⟨_, _, _, rfl⟩
      refine wp_skip ?_
      (refine hZ _ _ ?_)
      (rw [← hao] at S; replace S := stOneR (St.pullB b4 S); refine ⟨trivial, ?_⟩; (refine S.keep ?_; exact zk))
    refine wp_skip ?_
    (refine hZ _ _ ?_)
    (rw [← hao] at S; replace S := stOneR (St.pullB b4 S); refine ⟨trivial, ?_⟩; (refine S.keep ?_; exact zk))
  (refine wp_exit ?_; conv => whnf)
  clear hZ Z
  (revert S a; revert hZ Z; refine go 3 ?_; intro Z hZ a S)
  (refine wso S rfl rfl ?_; clear S; intro w S)
  (revert S a; revert hZ Z; refine go 3 ?_; intro a S)
  refine wp_ret (fin_ret S (results2 Tryz.results107 (RV.cellO S rfl (by rfl)) (RV.tmp S rfl)) ?_)
  exact ⟨_, _, _, rfl⟩
theorem rbody0Ct (F : Heap) (tp : Nat) (ts : List TD) (hT : RTab F tp ts) (rs : List RD) (hR : RRel F tp rs) (l : List LT) (v : Value) (h : LiM F 5 LtR v l) : Ct Tryz.prog 55 [.pointer (some ⟨tp, 0, none⟩), v] F [] (fun _ _ u => PosQ u) := by
  obtain ⟨ao, cap, rfl, hcap, hpos⟩ := h
  refine Ct.enter Tryz.func55 rfl Tryz.ntmps55 rfl fun w0 a S => ?_
  refine wp_sr fun Z hZ => ?_
  (refine wpl_alloc S rfl rfl rfl rfl ?_; clear S a; intro b4 a w S)
  (revert S a; revert hZ Z; refine go 9 ?_; intro Z hZ a S)
  refine wpc_loop (fun m a w' => ∃ (k : Nat), m = l.length - k ∧ k ≤ l.length ∧ St 78 [(0, ptr tp), (1, .slice ao l.length cap), (4, ptr b4), (6, .int .i64 k)] w0 F [] F [[(b4, .cells ⟨[.int .i64 0, .int .i64 0]⟩ 30 (0, 0))]] a w') ?_ ?_
  · (refine ⟨l.length, 0, by omega, Nat.zero_le _, ?_⟩; refine S.keep ?_; exact zk)
  (clear S; rintro m a w ⟨k, rfl, hkl, S⟩)
  (revert S a; refine go 8 ?_; intro Z hZ a S)
  refine wpc_sp S rfl ?_ ?_ <;> intro h
  · (revert S a; revert hZ Z; refine go 4 ?_; intro Z hZ a S)
    (refine wp_seq_k ?_; intro Z hZ)
    replace hZ : ∀ (a' : Act) (w' : World), (True ∧ St 78 [(0, ptr tp), (1, .slice ao l.length cap), (4, ptr b4), (6, .int .i64 k)] w0 F [] F [[(b4, .cells ⟨[.int .i64 0, .int .i64 0]⟩ 30 (0, 0))]] a' w') → Z a' w' := (by
     (intro a w hM; refine hZ _ _ ?_; clear hZ Z; clear S; obtain ⟨-, S⟩ := hM)
     (refine wp_seq_k ?_; intro Z hZ)
     (obtain ⟨b8, o8, hao, x, cs1, hx, hc1, v1, rfl, hT1⟩ := LiM.pos hpos (k := k) (by omega); rw [hao] at S; have hT1c := hT1; obtain ⟨a91, c91, rfl, ⟨-, hl9⟩, -⟩ := hT1c)
     (revert S a; refine go 6 ?_; intro a S)
     (refine wv S (sv_loadF S rfl rfl (hc1 4 _ rfl)) ?_; clear S a; intro a S)
     (refine wc0 S (rexprs0Ct F tp ts hT x.args.size x.args _ (Nat.le_refl _) hT1) ?_; clear S a; intro v70 a w hv S; obtain ⟨l62, c62, e62, rfl⟩ := hv)
     (revert S a; refine go 3 ?_; intro a S)
     (refine wpl_alloc S rfl rfl rfl rfl ?_; clear S a; intro b9 a w S)
     (refine wso S rfl rfl ?_; clear S; intro w S)
     (revert S a; revert hZ Z; refine go 8 ?_; intro a S)
     refine wpc_sp S rfl ?_ ?_ <;> intro h
     · (revert S a; refine go 3 ?_; intro Z hZ a S)
       (refine wso S rfl rfl ?_; clear S; intro w S)
       (revert S a; revert hZ Z; refine go 3 ?_; intro a S)
       refine wp_ret (fin_ret S (results2 Tryz.results55 (RV.cellO S rfl (by rfl)) (RV.tmp S rfl)) ?_)
       exact ⟨_, _, _, rfl⟩
     (revert S a; revert hZ Z; refine go 7 ?_; intro a S)
     change ∃ m', _ ∧ _
     (rw [← hao] at S; replace S := stOneR (St.pullB b4 S); refine ⟨l.length - (k + 1), by omega, k + 1, rfl, by omega, ?_⟩; (refine S.keep ?_; exact zk)))
    (refine wp_seq_k ?_; intro Z hZ)
    (obtain ⟨b8, o8, hao, x, cs1, hx, hc1, v1, rfl, hT1⟩ := LiM.pos hpos (k := k) (by omega); rw [hao] at S; have hT1c := hT1; obtain ⟨a91, c91, rfl, ⟨-, hl9⟩, -⟩ := hT1c)
    (revert S a; refine go 5 ?_; intro a S)
    (refine wv S (sv_loadF S rfl rfl (hc1 0 _ rfl)) ?_; clear S a; intro a S)
    (revert S a; refine go 2 ?_; intro a S)
    refine wgd S ?_ ?_
    · (clear S; intro h S)
      (revert S a; refine go 8 ?_; intro a S)
      (refine wv S (sv_loadF S rfl rfl (hc1 0 _ rfl)) ?_; clear S a; intro a S)
      (revert S a; revert hZ Z; refine go 5 ?_; intro a S)
      refine wpc_sp S rfl ?_ ?_ <;> intro h
      · (revert S a; refine go 6 ?_; intro Z hZ a S)
        (refine wv S (sv_loadF S rfl rfl (hc1 3 _ rfl)) ?_; clear S a; intro a S)
        (refine wc0 S (rrel0Ct F tp rs hR x.rel) ?_; clear S a; intro v38 a w hv S; obtain ⟨lq, cq, pq, iq, bq, nq, a4q, n4q, c4q, rfl, hn4⟩ := hv)
        (revert S a; refine go 3 ?_; intro a S)
        (refine wpl_alloc S rfl rfl rfl rfl ?_; clear S a; intro b7 a w S)
        (refine wso S rfl rfl ?_; clear S; intro w S)
        (revert S a; revert hZ Z; refine go 9 ?_; intro Z hZ a S)
        refine wpc_sp S rfl ?_ ?_ <;> intro h
        · (revert S a; refine go 5 ?_; intro Z hZ a S)
          (refine wv S (sv_loadAF S rfl rfl (vs := [.int .i64 x.l, .int .i64 x.c]) (fun j u hj => (show o8 + k * 5 + 1 + j = o8 + k * 5 + (1 + j) by omega) ▸ hc1 (1 + j) u (by match j, hj with | 0, hj => exact hj | 1, hj => exact hj)) rfl) ?_; clear S a; intro a S)
          (refine wso S rfl rfl ?_; clear S; intro w S)
          (revert S a; revert hZ Z; refine go 3 ?_; intro a S)
          refine wp_ret (fin_ret S (results2 Tryz.results55 (RV.cellO S rfl (by rfl)) (RV.tmp S rfl)) ?_)
          exact ⟨_, _, _, rfl⟩
        (revert S a; revert hZ Z; refine go 2 ?_; intro a S)
        (refine wp_seq_k ?_; intro Z hZ)
        (refine wpc_mixM [0, 1, 2, 3, 4, 5, 6, 7, 8, 9] [1, 7] [] (.one 0 (.one 1 (.one 2 (.one 3 (.one 4 (.one 5 (.one 6 (.one 7 (.one 8 (.one 9 .nil)))))))))) [b7] S mixed (by kernel_rfl) ?_; clear S; intro w S)
        (revert S a; refine go 7 ?_; intro a S)
        (refine wlF S rfl (fun w' S => sv_loadF S rfl rfl (hc1 4 _ rfl)) ?_; clear S a; intro a S)
        (revert S a; revert hZ Z; refine go 4 ?_; intro a S)
        refine wpc_sp S rfl ?_ ?_ <;> intro h
        · (revert S a; refine go 5 ?_; intro Z hZ a S)
          (refine wv S (sv_loadAF S rfl rfl (vs := [.int .i64 x.l, .int .i64 x.c]) (fun j u hj => (show o8 + k * 5 + 1 + j = o8 + k * 5 + (1 + j) by omega) ▸ hc1 (1 + j) u (by match j, hj with | 0, hj => exact hj | 1, hj => exact hj)) rfl) ?_; clear S a; intro a S)
          (refine wso S rfl rfl ?_; clear S; intro w S)
          (revert S a; revert hZ Z; refine go 3 ?_; intro a S)
          refine wp_ret (fin_ret S (results2 Tryz.results55 (RV.cellO S rfl (by rfl)) (RV.tmp S rfl)) ?_)
          exact ⟨_, _, _, rfl⟩
        refine wp_skip ?_
        (refine hZ _ _ ?_)
        (rw [← hao] at S; replace S := stOneR (St.pullB b4 S); refine ⟨trivial, ?_⟩; (refine S.keep ?_; exact zk))
      refine wp_skip ?_
      (refine hZ _ _ ?_)
      (rw [← hao] at S; replace S := stOneR (St.pullB b4 S); refine ⟨trivial, ?_⟩; (refine S.keep ?_; exact zk))
    (clear S a; intro h a S)
    (revert S a; revert hZ Z; refine go 8 ?_; intro a S)
    refine wpc_true S rfl ?_
    (revert S a; refine go 6 ?_; intro Z hZ a S)
    (refine wv S (sv_loadF S rfl rfl (hc1 3 _ rfl)) ?_; clear S a; intro a S)
    (refine wc0 S (rrel0Ct F tp rs hR x.rel) ?_; clear S a; intro v38 a w hv S; obtain ⟨lq, cq, pq, iq, bq, nq, a4q, n4q, c4q, rfl, hn4⟩ := hv)
    (revert S a; refine go 3 ?_; intro a S)
    (refine wpl_alloc S rfl rfl rfl rfl ?_; clear S a; intro b7 a w S)
    (refine wso S rfl rfl ?_; clear S; intro w S)
    (revert S a; revert hZ Z; refine go 9 ?_; intro Z hZ a S)
    refine wpc_sp S rfl ?_ ?_ <;> intro h
    · (revert S a; refine go 5 ?_; intro Z hZ a S)
      (refine wv S (sv_loadAF S rfl rfl (vs := [.int .i64 x.l, .int .i64 x.c]) (fun j u hj => (show o8 + k * 5 + 1 + j = o8 + k * 5 + (1 + j) by omega) ▸ hc1 (1 + j) u (by match j, hj with | 0, hj => exact hj | 1, hj => exact hj)) rfl) ?_; clear S a; intro a S)
      (refine wso S rfl rfl ?_; clear S; intro w S)
      (revert S a; revert hZ Z; refine go 3 ?_; intro a S)
      refine wp_ret (fin_ret S (results2 Tryz.results55 (RV.cellO S rfl (by rfl)) (RV.tmp S rfl)) ?_)
      exact ⟨_, _, _, rfl⟩
    refine wp_skip ?_
    (refine hZ _ _ ?_; clear hZ Z)
    (refine wp_seq_k ?_; intro Z hZ)
    (refine wpc_mixM [0, 1, 2, 3, 4, 5, 6, 7, 8, 9] [1, 7] [] (.one 0 (.one 1 (.one 2 (.one 3 (.one 4 (.one 5 (.one 6 (.one 7 (.one 8 (.one 9 .nil)))))))))) [b7] S mixed (by kernel_rfl) ?_; clear S; intro w S)
    (revert S a; refine go 7 ?_; intro a S)
    (refine wlF S rfl (fun w' S => sv_loadF S rfl rfl (hc1 4 _ rfl)) ?_; clear S a; intro a S)
    (revert S a; revert hZ Z; refine go 4 ?_; intro a S)
    refine wpc_sp S rfl ?_ ?_ <;> intro h
    · (revert S a; refine go 5 ?_; intro Z hZ a S)
      (refine wv S (sv_loadAF S rfl rfl (vs := [.int .i64 x.l, .int .i64 x.c]) (fun j u hj => (show o8 + k * 5 + 1 + j = o8 + k * 5 + (1 + j) by omega) ▸ hc1 (1 + j) u (by match j, hj with | 0, hj => exact hj | 1, hj => exact hj)) rfl) ?_; clear S a; intro a S)
      (refine wso S rfl rfl ?_; clear S; intro w S)
      (revert S a; revert hZ Z; refine go 3 ?_; intro a S)
      refine wp_ret (fin_ret S (results2 Tryz.results55 (RV.cellO S rfl (by rfl)) (RV.tmp S rfl)) ?_)
      exact ⟨_, _, _, rfl⟩
    refine wp_skip ?_
    (refine hZ _ _ ?_)
    (rw [← hao] at S; replace S := stOneR (St.pullB b4 S); refine ⟨trivial, ?_⟩; (refine S.keep ?_; exact zk))
  (refine wp_exit ?_; conv => whnf)
  clear hZ Z
  (revert S a; revert hZ Z; refine go 3 ?_; intro Z hZ a S)
  (refine wso S rfl rfl ?_; clear S; intro w S)
  (revert S a; revert hZ Z; refine go 3 ?_; intro a S)
  refine wp_ret (fin_ret S (results2 Tryz.results55 (RV.cellO S rfl (by rfl)) (RV.tmp S rfl)) ?_)
  exact ⟨_, _, _, rfl⟩
theorem rrule0Ct (F : Heap) (tp : Nat) (ts : List TD) (hT : RTab F tp ts) (rs : List RD) (hR : RRel F tp rs) (x : RU) (cs : List Value) (h : RuR F x cs) : Ct Tryz.prog 54 [.pointer (some ⟨tp, 0, none⟩), .agg ⟨cs⟩] F [] (fun _ _ u => PosQ u) := by
 obtain ⟨v, u, y, rfl, h1, h2, h3⟩ := h
 obtain ⟨a1, c1, rfl, ⟨-, hl1⟩, -⟩ := id h1
 obtain ⟨a2, c2, rfl, ⟨-, hl2⟩, -⟩ := id h2
 obtain ⟨a3, c3, rfl, ⟨-, hl3⟩, -⟩ := id h3
 refine Ct.enter Tryz.func54 rfl Tryz.ntmps54 rfl fun w0 a S => ?_
 refine wp_sr fun Z hZ => ?_
 (refine wbx S ?_; clear S a; intro b3 a w S)
 (refine wpl_alloc S rfl rfl rfl rfl ?_; clear S a; intro b4 a w S)
 (revert S a; revert hZ Z; refine go 7 ?_; intro Z hZ a S)
 (refine wc0 S (rrel0Ct F tp rs hR x.rel) ?_; clear S a; intro v14 a w hv S; obtain ⟨lq, cq, pq, iq, bq, nq, a4q, n4q, c4q, rfl, hn4⟩ := hv)
 (revert S a; refine go 3 ?_; intro a S)
 (refine wpl_alloc S rfl rfl rfl rfl ?_; clear S a; intro b6 a w S)
 (refine wso S rfl rfl ?_; clear S; intro w S)
 (revert S a; revert hZ Z; refine go 11 ?_; intro Z hZ a S)
 refine wpc_sp S rfl ?_ ?_ <;> intro h
 ·(revert S a; refine go 3 ?_; intro Z hZ a S)
  (refine wso S rfl rfl ?_; clear S; intro w S)
  (revert S a; revert hZ Z; refine go 3 ?_; intro a S)
  refine wp_ret (fin_ret S (results2 Tryz.results54 (RV.cellO S rfl (by rfl)) (RV.tmp S rfl)) ?_)
  exact ⟨_, _, _, rfl⟩
 (revert S a; refine go 6 ?_; intro a S)
 refine wpc_sp S rfl ?_ ?_ <;> intro h
 ·(revert S a; refine go 3 ?_; intro Z hZ a S)
  (refine wso S rfl rfl ?_; clear S; intro w S)
  (revert S a; revert hZ Z; refine go 3 ?_; intro a S)
  refine wp_ret (fin_ret S (results2 Tryz.results54 (RV.cellO S rfl (by rfl)) (RV.tmp S rfl)) ?_)
  exact ⟨_, _, _, rfl⟩
 (revert S a; refine go 11 ?_; intro a S)
 refine wpc_sp S rfl ?_ ?_ <;> intro h
 ·(revert S a; refine go 3 ?_; intro Z hZ a S)
  (refine wso S rfl rfl ?_; clear S; intro w S)
  (revert S a; revert hZ Z; refine go 3 ?_; intro a S)
  refine wp_ret (fin_ret S (results2 Tryz.results54 (RV.cellO S rfl (by rfl)) (RV.tmp S rfl)) ?_)
  exact ⟨_, _, _, rfl⟩
 (revert S a; refine go 11 ?_; intro a S)
 refine wpc_sp S rfl ?_ ?_ <;> intro h
 ·(revert S a; refine go 3 ?_; intro Z hZ a S)
  (refine wso S rfl rfl ?_; clear S; intro w S)
  (revert S a; revert hZ Z; refine go 3 ?_; intro a S)
  refine wp_ret (fin_ret S (results2 Tryz.results54 (RV.cellO S rfl (by rfl)) (RV.tmp S rfl)) ?_)
  exact ⟨_, _, _, rfl⟩
 (revert S a; revert hZ Z; refine go 6 ?_; intro Z hZ a S)
 (refine wc0 S (rexprs0Ct F tp ts hT x.args.size x.args _ (Nat.le_refl _) h1) ?_; clear S a; intro v51 a w hv S; obtain ⟨l62, c62, e62, rfl⟩ := hv)
 (revert S a; refine go 3 ?_; intro a S)
 (refine wpl_alloc S rfl rfl rfl rfl ?_; clear S a; intro b8 a w S)
 (refine wso S rfl rfl ?_; clear S; intro w S)
 (revert S a; revert hZ Z; refine go 9 ?_; intro Z hZ a S)
 refine wpc_sp S rfl ?_ ?_ <;> intro h
 ·(revert S a; refine go 3 ?_; intro Z hZ a S)
  (refine wso S rfl rfl ?_; clear S; intro w S)
  (revert S a; revert hZ Z; refine go 3 ?_; intro a S)
  refine wp_ret (fin_ret S (results2 Tryz.results54 (RV.cellO S rfl (by rfl)) (RV.tmp S rfl)) ?_)
  exact ⟨_, _, _, rfl⟩
 (revert S a; revert hZ Z; refine go 6 ?_; intro Z hZ a S)
 (refine wc0 S (rbody0Ct F tp ts hT rs hR x.body _ h3) ?_; clear S a; intro v61 a w hv S; obtain ⟨l63, c63, e63, rfl⟩ := hv)
 (revert S a; refine go 2 ?_; intro a S)
 (refine wso S rfl rfl ?_; clear S; intro w S)
 (revert S a; revert hZ Z; refine go 3 ?_; intro a S)
 refine wp_ret (fin_ret S (results2 Tryz.results54 (RV.cellO S rfl (by rfl)) (RV.tmp S rfl)) ?_)
 exact ⟨_, _, _, rfl⟩
def DzR (rs : List RD) : Prop := ∀ x ∈ rs, ∀ f ∈ x.fs, depthL f.ta ≤ 2000000
theorem rrelsGCt (F : Heap) (tp : Nat) (ts : List TD) (hT : RTab F tp ts) (rs : List RD) (hR : RRel F tp rs) (hz : DzR rs) : Ct Tryz.prog 53 [.pointer (some ⟨tp, 0, none⟩)] F [] (fun _ _ u => PosQ u) := by
 obtain ⟨ao, cap, hc3, _, _, e9, hcap, hpos⟩ := hR
 cases e9
 refine Ct.enter Tryz.func53 rfl Tryz.ntmps53 rfl fun w0 a S => ?_
 refine wp_sr fun Z hZ => ?_
 (refine wpl_alloc S rfl rfl rfl rfl ?_; clear S a; intro b2 a w S)
 (revert S a; revert hZ Z; refine go 8 ?_; intro Z hZ a S)
 (refine wv S (sv_loadF S rfl rfl hc3) ?_; clear S a; intro a S)
 (revert S a; revert hZ Z; refine go 9 ?_; intro Z hZ a S)
 refine wpc_loop (fun m a w' => ∃ (i : Nat), m = rs.length - i ∧ i ≤ rs.length ∧ St 82 [(0, ptr tp), (2, ptr b2), (4, .slice ao rs.length cap), (5, .int .i64 i)] w0 F [] F [[(b2, .cells ⟨[.int .i64 0, .int .i64 0]⟩ 30 (0, 0))]] a w') ?_ ?_
 ·(refine ⟨rs.length, 0, by omega, Nat.zero_le _, ?_⟩; refine S.keep ?_; exact zk)
 (clear S; rintro m a w ⟨i, rfl, hil, S⟩)
 (revert S a; refine go 8 ?_; intro Z hZ a S)
 refine wpc_sp S rfl ?_ ?_ <;> intro h
 ·(revert S a; revert hZ Z; refine go 5 ?_; intro Z hZ Z hZ a S)
  (refine wp_seq_k ?_; intro Z hZ)
  (obtain ⟨b8, o8, hao, x, cs1, hx, hc1, v1, rfl, hfs⟩ := LiM.pos hpos (k := i) (by omega); rw [hao] at S; obtain ⟨a61, c61, rfl, ⟨hcp6, hf6⟩, hpos6⟩ := id hfs)
  (revert S a; revert hZ Z; refine go 5 ?_; intro a S)
  refine wpc_loop (fun m a w' => ∃ (k : Nat), m = i - k ∧ k ≤ i ∧ St 82 [(0, ptr tp), (2, ptr b2), (4, .slice (some ⟨b8, o8, none⟩) rs.length cap), (5, .int .i64 i), (6, .int .i64 k)] w0 F [] F [[(b2, .cells ⟨[.int .i64 0, .int .i64 0]⟩ 30 (0, 0))]] a w') ?_ ?_
  ·(refine ⟨i, 0, by omega, Nat.zero_le _, ?_⟩; refine S.keep ?_; exact zk)
  (clear S; rintro m a w ⟨k, rfl, hkl, S⟩)
  (revert S a; refine go 7 ?_; intro Z hZ a S)
  refine wpc_sp S rfl ?_ ?_ <;> intro h
  ·(revert S a; revert hZ Z; refine go 4 ?_; intro Z hZ a S)
   (refine wp_seq_k ?_; intro Z hZ)
   (obtain ⟨b9, o9, hao9, y, cs2, hy, hd1, v2, rfl, -⟩ := LiM.pos hpos (k := k) (by omega); rw [hao] at hao9; cases hao9)
   (refine wpc_mixM [0, 1, 2, 3, 4, 5, 6, 7, 8, 9, 10] [4, 9] [] (.one 0 (.one 1 (.one 2 (.one 3 (.one 4 (.one 5 (.one 6 (.one 7 (.one 8 (.one 9 (.one 10 .nil))))))))))) [] S mixed (by kernel_rfl) ?_; clear S; intro w S)
   (revert S a; refine go 4 ?_; intro a S)
   (refine wlF S rfl (fun w' S => sv_loadF S rfl rfl (hd1 4 _ rfl)) ?_; clear S a; intro a S)
   (revert S a; refine go 4 ?_; intro a S)
   (refine wlF S rfl (fun w' S => sv_loadF S rfl rfl (hc1 4 _ rfl)) ?_; clear S a; intro a S)
   (revert S a; revert hZ Z; refine go 3 ?_; intro a S)
   refine wpc_sp S rfl ?_ ?_ <;> intro h
   ·(revert S a; refine go 5 ?_; intro Z hZ a S)
    (refine wv S (sv_loadAF S rfl rfl (vs := [.int .i64 x.l, .int .i64 x.c]) (Cels.take hc1 2) rfl) ?_; clear S a; intro a S)
    (refine wso S rfl rfl ?_; clear S; intro w S)
    (revert S a; revert hZ Z; refine go 3 ?_; intro a S)
    refine wp_ret (fin_ret S (results2 Tryz.results53 (RV.cellO S rfl (by rfl)) (RV.tmp S rfl)) ?_)
    exact ⟨_, _, _, rfl⟩
   (revert S a; revert hZ Z; refine go 7 ?_; intro a S)
   change ∃ m', _ ∧ _
   (refine ⟨i - (k + 1), by omega, k + 1, rfl, by omega, ?_⟩; (refine S.keep ?_; exact zk))
  (refine wp_exit ?_; conv => whnf)
  clear hZ Z
  (revert S a; revert hZ Z; refine go 7 ?_; intro Z hZ Z hZ a S)
  (refine wv S (sv_loadF S rfl rfl (hc1 5 _ rfl)) ?_; clear S a; intro a S)
  (refine wc0 S (rtwiceCt F x.fs _ hfs) ?_; clear S a; intro v46 a w hv S; subst hv)
  (revert S a; revert hZ Z; refine go 2 ?_; intro a S)
  refine wpc_sp S rfl ?_ ?_ <;> intro h
  ·(revert S a; refine go 5 ?_; intro Z hZ a S)
   (refine wv S (sv_loadAF S rfl rfl (vs := [.int .i64 x.l, .int .i64 x.c]) (Cels.take hc1 2) rfl) ?_; clear S a; intro a S)
   (refine wso S rfl rfl ?_; clear S; intro w S)
   (revert S a; revert hZ Z; refine go 3 ?_; intro a S)
   refine wp_ret (fin_ret S (results2 Tryz.results53 (RV.cellO S rfl (by rfl)) (RV.tmp S rfl)) ?_)
   exact ⟨_, _, _, rfl⟩
  (revert S a; revert hZ Z; refine go 7 ?_; intro a S)
  refine wpc_loop (fun m a w' => ∃ (j : Nat), m = x.fs.length - j ∧ j ≤ x.fs.length ∧ St 82 [(0, ptr tp), (2, ptr b2), (4, .slice (some ⟨b8, o8, none⟩) rs.length cap), (5, .int .i64 i), (7, .int .i64 j)] w0 F [] F [[(b2, .cells ⟨[.int .i64 0, .int .i64 0]⟩ 30 (0, 0))]] a w') ?_ ?_
  ·(refine ⟨x.fs.length, 0, by omega, Nat.zero_le _, ?_⟩; refine S.keep ?_; exact zk)
  (clear S; rintro m a w ⟨j, rfl, hjl, S⟩)
  (revert S a; refine go 7 ?_; intro Z hZ Z hZ a S)
  (refine wv S (sv_loadF S rfl rfl (hc1 5 _ rfl)) ?_; clear S a; intro a S)
  (revert S a; revert hZ Z; refine go 4 ?_; intro a S)
  refine wpc_sp S rfl ?_ ?_ <;> intro h
  ·(revert S a; revert hZ Z; refine go 4 ?_; intro Z hZ a S)
   (refine wp_seq_k ?_; intro Z hZ)
   (obtain ⟨b7, o7, hao7, f, cs3, hf, hf1, v3, rfl, hT3⟩ := LiM.pos hpos6 (k := j) (by omega); subst hao7; have hdf := hz x (List.mem_of_getElem? hx) f (List.mem_of_getElem? hf); obtain ⟨a71, c71, rfl, -, -⟩ := id hT3)
   (revert S a; refine go 6 ?_; intro a S)
   (refine wv S (sv_loadF S rfl rfl (hc1 5 _ rfl)) ?_; clear S a; intro a S)
   (revert S a; refine go 3 ?_; intro a S)
   (refine wv S (sv_loadAF S rfl rfl (vs := [.string (bs f.tn), .slice a71 f.ta.len c71]) (fd_ty hf1) rfl) ?_; clear S a; intro a S)
   (refine wc0 S (ruseCt tp ts F hT f.tn f.ta _ ⟨_, rfl, hT3⟩ (by omega)) ?_; clear S a; intro v72 a w hv S; subst hv)
   (revert S a; revert hZ Z; refine go 8 ?_; intro a S)
   refine wpc_sp S rfl ?_ ?_ <;> intro h
   ·(revert S a; refine go 5 ?_; intro Z hZ a S)
    (refine wv S (sv_loadAF S rfl rfl (vs := [.int .i64 x.l, .int .i64 x.c]) (Cels.take hc1 2) rfl) ?_; clear S a; intro a S)
    (revert S a; refine go 1 ?_; intro a S)
    (refine wso S rfl rfl ?_; clear S; intro w S)
    (revert S a; revert hZ Z; refine go 3 ?_; intro a S)
    refine wp_ret (fin_ret S (results2 Tryz.results53 (RV.cellO S rfl (by rfl)) (RV.tmp S rfl)) ?_)
    exact ⟨_, _, _, rfl⟩
   (revert S a; revert hZ Z; refine go 7 ?_; intro a S)
   change ∃ m', _ ∧ _
   (refine ⟨x.fs.length - (j + 1), by omega, j + 1, rfl, by omega, ?_⟩; (refine S.keep ?_; exact zk))
  (refine wp_exit ?_; conv => whnf)
  clear hZ Z
  (revert S a; revert hZ Z; refine go 6 ?_; intro a S)
  change ∃ m', _ ∧ _
  (rw [← hao] at S; refine ⟨rs.length - (i + 1), by omega, i + 1, rfl, by omega, ?_⟩; (refine S.keep ?_; exact zk))
 (refine wp_exit ?_; conv => whnf)
 clear hZ Z
 (revert S a; revert hZ Z; refine go 3 ?_; intro Z hZ a S)
 (refine wso S rfl rfl ?_; clear S; intro w S)
 (revert S a; revert hZ Z; refine go 3 ?_; intro a S)
 refine wp_ret (fin_ret S (results2 Tryz.results53 (RV.cellO S rfl (by rfl)) (RV.tmp S rfl)) ?_)
 exact ⟨_, _, _, rfl⟩
def NewQ0 (u : Value) : Prop := ∃ (p : Option Addr) (l c e : Int), u = .tuple ⟨[.pointer p, .agg ⟨[.int .i64 l, .int .i64 c]⟩, .int .i64 e]⟩
theorem zzRn1 {p : Prop} (h : p := by (first | (refine ⟨pl2, pc2, pe2, ?_⟩; (refine S.keep ?_; exact zk)) | (refine ⟨pl, pc, rTypesE M.ts, ?_⟩; (refine S.keep ?_; exact zk)))) : p := h
theorem rnewGCt (F : Heap) (M : MD) (cs : List Value) (h : MdR F M cs) (hz : TzR M.ts) (hr : DzR M.rs) : Ct Tryz.prog 27 [.agg ⟨cs⟩] F [] (fun _ _ u => NewQ0 u) := by
  obtain ⟨i1, i2, i3, v1, v2, v3, v4, rfl, h1, h2, h3, h4⟩ := h
  obtain ⟨a1, c1, rfl, -, -⟩ := id h1
  obtain ⟨a2, c2, rfl, -, -⟩ := id h2
  obtain ⟨a3, c3, rfl, hcap3, hpos3⟩ := id h3
  obtain ⟨a4, c4, rfl, hcap4, hpos4⟩ := id h4
  refine Ct.enter Tryz.func27 rfl Tryz.ntmps27 rfl fun w0 a S => ?_
  refine wp_sr fun Z hZ => ?_
  (refine wbx S ?_; clear S a; intro b1 a w S)
  (revert S a; refine go 1 ?_; intro a S)
  (refine wpl_alloc S rfl rfl rfl rfl ?_; clear S a; intro b3 a w S)
  (revert S a; revert hZ Z; refine go 6 ?_; intro Z hZ a S)
  (refine wbx S ?_; clear S a; intro b12 a w S; have S' := frz1 S; clear S; obtain ⟨F6, hF6, hb12, S⟩ := S'; have hRT : RTab F6 b12 M.ts := ⟨a1, c1, ⟨_, _, _, hb12, rfl⟩, h1.mono hF6⟩; have hRR : RRel F6 b12 M.rs := ⟨a2, c2, ⟨_, _, _, hb12, rfl⟩, h2.mono hF6⟩)
  (revert S a; revert hZ Z; refine go 5 ?_; intro Z hZ a S)
  (refine wc0 S (rtypesCt F6 b12 M.ts hRT hz) ?_; clear S a; intro v15 a w hv S; obtain ⟨pl, pc, rfl⟩ := hv)
  (revert S a; refine go 3 ?_; intro a S)
  (refine wpl_alloc S rfl rfl rfl rfl ?_; clear S a; intro b6 a w S)
  (refine wso S rfl rfl ?_; clear S; intro w S)
  (revert S a; revert hZ Z; refine go 3 ?_; intro a S)
  (refine wp_seq_k ?_; intro Z hZ)
  replace hZ : ∀ (a' : Act) (w' : World), (∃ (l c e : Int), St 74 [(1, ptr b1), (3, ptr b3), (5, ptr b12), (6, ptr b6), (7, .int .i64 e)] w0 F [] F6 [[(b6, .cells ⟨[.int .i64 l, .int .i64 c]⟩ 30 (0, 0))], [(b3, .cells ⟨[.int .i64 0, .int .i64 0]⟩ 30 (0, 0))], [(b1, .cells ⟨[.string (bs M.nm), .slice i1 i2 i3, .slice a1 M.ts.length c1, .slice a2 M.rs.length c2, .slice a3 M.ru.length c3, .slice a4 M.nv.length c4]⟩ 28 (0, 0))]] a' w') → Z a' w' := (by
   (intro a w hM; refine hZ _ _ ?_; clear hZ Z; clear S; obtain ⟨l, c, e, S⟩ := hM)
   (refine wp_seq_k ?_; intro Z hZ)
   replace hZ : ∀ (a' : Act) (w' : World), (∃ (l c e : Int), St 74 [(1, ptr b1), (3, ptr b3), (5, ptr b12), (6, ptr b6), (7, .int .i64 e)] w0 F [] F6 [[(b6, .cells ⟨[.int .i64 l, .int .i64 c]⟩ 30 (0, 0))], [(b3, .cells ⟨[.int .i64 0, .int .i64 0]⟩ 30 (0, 0))], [(b1, .cells ⟨[.string (bs M.nm), .slice i1 i2 i3, .slice a1 M.ts.length c1, .slice a2 M.rs.length c2, .slice a3 M.ru.length c3, .slice a4 M.nv.length c4]⟩ 28 (0, 0))]] a' w') → Z a' w' := (by
    (intro a w hM; refine hZ _ _ ?_; clear hZ Z; clear S; obtain ⟨l, c, e, S⟩ := hM)
    (refine wp_seq_k ?_; intro Z hZ)
    replace hZ : ∀ (a' : Act) (w' : World), (∃ (l c e : Int), St 74 [(1, ptr b1), (3, ptr b3), (5, ptr b12), (6, ptr b6), (7, .int .i64 e)] w0 F [] F6 [[(b6, .cells ⟨[.int .i64 l, .int .i64 c]⟩ 30 (0, 0))], [(b3, .cells ⟨[.int .i64 0, .int .i64 0]⟩ 30 (0, 0))], [(b1, .cells ⟨[.string (bs M.nm), .slice i1 i2 i3, .slice a1 M.ts.length c1, .slice a2 M.rs.length c2, .slice a3 M.ru.length c3, .slice a4 M.nv.length c4]⟩ 28 (0, 0))]] a' w') → Z a' w' := (by
     (intro a w hM; refine hZ _ _ ?_; clear hZ Z; clear S; obtain ⟨l, c, e, S⟩ := hM)
     (revert S a; refine go 6 ?_; intro Z hZ a S)
     refine wpc_sp S rfl ?_ ?_ <;> intro h
     · (refine wp_seq_k ?_; intro Z hZ)
       (refine wpc_mixM [0, 1] [0] [] (.one 0 (.one 1 (.one 2 (.one 3 (.one 4 .nil))))) [b6] S mixed (by kernel_rfl) ?_; clear S; intro w S)
       (revert S a; refine go 6 ?_; intro a S)
       (refine wso S rfl rfl ?_; clear S; intro w S)
       (revert S a; revert hZ Z; refine go 6 ?_; intro a S)
       refine wp_ret (fin_ret S (results3 Tryz.results27 (RV.tmp S rfl) (RV.cellO S rfl (by rfl)) (RV.tmp S rfl)) ?_)
       exact ⟨_, _, _, _, rfl⟩
     (revert S a; revert hZ Z; refine go 6 ?_; intro Z hZ a S)
     (refine wso S rfl rfl ?_; clear S; intro w S)
     (revert S a; revert hZ Z; refine go 3 ?_; intro a S)
     refine wp_ret (fin_ret S (results3 Tryz.results27 (RV.tmp S rfl) (RV.cellO S rfl (by rfl)) (RV.tmp S rfl)) ?_)
     exact ⟨_, _, _, _, rfl⟩)
    (revert S a; refine go 5 ?_; intro a S)
    refine wpc_loop (fun m a w' => ∃ (i : Nat) (l c e : Int), m = M.nv.length - i ∧ i ≤ M.nv.length ∧ St 74 [(1, ptr b1), (3, ptr b3), (5, ptr b12), (6, ptr b6), (7, .int .i64 e), (9, .int .i64 i)] w0 F [] F6 [[(b6, .cells ⟨[.int .i64 l, .int .i64 c]⟩ 30 (0, 0))], [(b3, .cells ⟨[.int .i64 0, .int .i64 0]⟩ 30 (0, 0))], [(b1, .cells ⟨[.string (bs M.nm), .slice i1 i2 i3, .slice a1 M.ts.length c1, .slice a2 M.rs.length c2, .slice a3 M.ru.length c3, .slice a4 M.nv.length c4]⟩ 28 (0, 0))]] a w') ?_ ?_
    · (refine ⟨M.nv.length, 0, l, c, e, by omega, Nat.zero_le _, ?_⟩; refine S.keep ?_; exact zk)
    (clear S; rintro m a w ⟨i, l, c, e, rfl, hil, S⟩)
    (revert S a; refine go 8 ?_; intro Z hZ Z hZ a S)
    refine wgd S ?_ ?_
    · (clear S; intro h S)
      (revert S a; revert hZ Z; refine go 6 ?_; intro a S)
      refine wpc_sp S rfl ?_ ?_ <;> intro h
      · (revert S a; revert hZ Z; refine go 4 ?_; intro Z hZ a S)
        (obtain ⟨b8, o8, hao, x, cs1, hx, hc1, w1, rfl, q1⟩ := LiM.pos hpos4 (k := i) (by omega); replace hc1 := Cels.mono hF6 hc1; replace q1 := q1.mono hF6; obtain ⟨d1, e1, rfl, -, -⟩ := id q1; subst hao)
        (revert S a; refine go 7 ?_; intro a S)
        (refine wv S (sv_loadF S rfl rfl (hc1 3 _ rfl)) ?_; clear S a; intro a S)
        (refine wc0 S (rbody0Ct F6 b12 M.ts hRT M.rs hRR x.body _ q1) ?_; clear S a; intro v65 a w hv S; obtain ⟨pl3, pc3, pe3, rfl⟩ := hv)
        (revert S a; refine go 3 ?_; intro a S)
        (refine wso S rfl rfl ?_; clear S; intro w S)
        (revert S a; revert hZ Z; refine go 8 ?_; intro a S)
        change ∃ m', _ ∧ _
        (refine ⟨M.nv.length - (i + 1), by omega, i + 1, pl3, pc3, pe3, rfl, by omega, ?_⟩; (refine S.keep ?_; exact zk))
      (refine wp_exit ?_; conv => whnf)
      (clear hZ Z; (refine hZ _ _ ?_))
      (refine ⟨l, c, e, ?_⟩; (refine S.keep ?_; exact zk))
    (clear S a; intro h a S)
    (revert S a; revert hZ Z; refine go 4 ?_; intro a S)
    refine wpc_false S rfl ?_
    (refine wp_exit ?_; conv => whnf)
    (clear hZ Z; (refine hZ _ _ ?_))
    (refine ⟨l, c, e, ?_⟩; (refine S.keep ?_; exact zk)))
   (revert S a; refine go 5 ?_; intro a S)
   refine wpc_loop (fun m a w' => ∃ (i : Nat) (l c e : Int), m = M.ru.length - i ∧ i ≤ M.ru.length ∧ St 74 [(1, ptr b1), (3, ptr b3), (5, ptr b12), (6, ptr b6), (7, .int .i64 e), (8, .int .i64 i)] w0 F [] F6 [[(b6, .cells ⟨[.int .i64 l, .int .i64 c]⟩ 30 (0, 0))], [(b3, .cells ⟨[.int .i64 0, .int .i64 0]⟩ 30 (0, 0))], [(b1, .cells ⟨[.string (bs M.nm), .slice i1 i2 i3, .slice a1 M.ts.length c1, .slice a2 M.rs.length c2, .slice a3 M.ru.length c3, .slice a4 M.nv.length c4]⟩ 28 (0, 0))]] a w') ?_ ?_
   · (refine ⟨M.ru.length, 0, l, c, e, by omega, Nat.zero_le _, ?_⟩; refine S.keep ?_; exact zk)
   (clear S; rintro m a w ⟨i, l, c, e, rfl, hil, S⟩)
   (revert S a; refine go 8 ?_; intro Z hZ Z hZ a S)
   refine wgd S ?_ ?_
   · (clear S; intro h S)
     (revert S a; revert hZ Z; refine go 6 ?_; intro a S)
     refine wpc_sp S rfl ?_ ?_ <;> intro h
     · (revert S a; revert hZ Z; refine go 4 ?_; intro Z hZ a S)
       (obtain ⟨b8, o8, hao, x, cs1, hx, hc1, hRu⟩ := LiM.pos hpos3 (k := i) (by omega); replace hc1 := Cels.mono hF6 hc1; replace hRu := Mon.h hF6 hRu; obtain ⟨w1, w2, w3, rfl, q1, q2, q3⟩ := id hRu; obtain ⟨d1, e1, rfl, -, -⟩ := id q1; obtain ⟨d2, e2, rfl, -, -⟩ := id q2; obtain ⟨d3, e3, rfl, -, -⟩ := id q3; subst hao)
       (revert S a; refine go 6 ?_; intro a S)
       (refine wv S (sv_loadAF S rfl rfl hc1 rfl) ?_; clear S a; intro a S)
       (refine wc0 S (rrule0Ct F6 b12 M.ts hRT M.rs hRR x _ hRu) ?_; clear S a; intro v43 a w hv S; obtain ⟨pl3, pc3, pe3, rfl⟩ := hv)
       (revert S a; refine go 3 ?_; intro a S)
       (refine wso S rfl rfl ?_; clear S; intro w S)
       (revert S a; revert hZ Z; refine go 8 ?_; intro a S)
       change ∃ m', _ ∧ _
       (refine ⟨M.ru.length - (i + 1), by omega, i + 1, pl3, pc3, pe3, rfl, by omega, ?_⟩; (refine S.keep ?_; exact zk))
     (refine wp_exit ?_; conv => whnf)
     (clear hZ Z; (refine hZ _ _ ?_))
     (refine ⟨l, c, e, ?_⟩; (refine S.keep ?_; exact zk))
   (clear S a; intro h a S)
   (revert S a; revert hZ Z; refine go 4 ?_; intro a S)
   refine wpc_false S rfl ?_
   (refine wp_exit ?_; conv => whnf)
   (clear hZ Z; (refine hZ _ _ ?_))
   (refine ⟨l, c, e, ?_⟩; (refine S.keep ?_; exact zk)))
  (revert S a; refine go 5 ?_; intro a S)
  refine wpc_sp S rfl ?_ ?_ <;> intro h
  · (revert S a; refine go 2 ?_; intro a S)
    (refine wc0 S (rrelsGCt F6 b12 M.ts hRT M.rs hRR hr) ?_; clear S a; intro v22 a w hv S; obtain ⟨pl2, pc2, pe2, rfl⟩ := hv)
    (revert S a; refine go 3 ?_; intro a S)
    (refine wso S rfl rfl ?_; clear S; intro w S)
    (revert S a; refine go 2 ?_; intro a S)
    (refine hZ _ _ ?_)
    exact zzRn1
  refine wp_skip ?_
  (refine hZ _ _ ?_)
  exact zzRn1
theorem from_mem {x : TD} {k : KC} : ∀ {l : List CD} {i : Nat}, k ∈ consFrom x i l → ∃ c ∈ l, k.ps = x.ps ∧ k.fs = c.fs
 | [], _, h => by cases h
 | c :: r, i, h => by
  rcases List.mem_cons.1 h with rfl | h
  ·exact ⟨c, List.mem_cons_self .., rfl, rfl⟩
  ·obtain ⟨d, h1, h2⟩ := from_mem h
   exact ⟨d, List.mem_cons_of_mem _ h1, h2⟩
theorem ksz_of {M : MD} (h : MSz M) : KSz (consOf M.ts) := fun k hk => by
 obtain ⟨x, hx, hk⟩ := List.mem_flatMap.1 hk
 obtain ⟨c, hc, e1, e2⟩ := from_mem hk
 obtain ⟨h1, h2, h3⟩ := h.1 x hx
 obtain ⟨h4, h5⟩ := h3 c hc
 rw [e1, e2]
 exact ⟨h2, h5, h4.thin⟩
def DzT (ts : List TD) : Prop := ∀ x ∈ ts, x.cs.length ≤ 2000000 ∧ x.ps.length ≤ 2000000 ∧ ∀ c ∈ x.cs, ∀ f ∈ c.fs, depthL f.ta ≤ 2000000
def TbQ (M : MD) (F' : Heap) (u : Value) : Prop := ∃ (tv q : Option Addr), u = .tuple ⟨[.pointer tv, .pointer q]⟩ ∧ (tv = none ∨ ∃ tb m1 m2 m3, tv = some ⟨tb, 0, none⟩ ∧ TabS F' tb m1 m2 m3 M.ts (consOf M.ts) M.rs)
theorem mdr_mono {F F' : Heap} {M : MD} {cs : List Value} (h : MdR F M cs) (hF : ∀ b o, F b = some o → F' b = some o) : MdR F' M cs := by
 obtain ⟨i1, i2, i3, v1, v2, v3, v4, e, h1, h2, h3, h4⟩ := h
 exact ⟨i1, i2, i3, v1, v2, v3, v4, e, h1.mono hF, h2.mono hF, h3.mono hF, h4.mono hF⟩
theorem tb_of {M : MD} {F' : Heap} {u : Value} (h : (takeE M = 0 → ∃ tb m1 m2 m3, u = .tuple ⟨[.pointer (some ⟨tb, 0, none⟩), .agg ⟨[.int .i64 0, .int .i64 0]⟩, .int .i64 0]⟩ ∧ TabS F' tb m1 m2 m3 M.ts (consOf M.ts) M.rs) ∧ (takeE M ≠ 0 → ∃ l c : Int, u = .tuple ⟨[.pointer none, .agg ⟨[.int .i64 l, .int .i64 c]⟩, .int .i64 (takeE M)]⟩)) : ∃ (tv : Option Addr) (l c e : Int), u = .tuple ⟨[.pointer tv, .agg ⟨[.int .i64 l, .int .i64 c]⟩, .int .i64 e]⟩ ∧ (e = 0 → TbG M F' tv) := by
 by_cases e0 : takeE M = 0
 ·obtain ⟨tb, m1, m2, m3, rfl, hT⟩ := h.1 e0
  exact ⟨_, _, _, _, rfl, fun _ => ⟨tb, m1, m2, m3, rfl, hT⟩⟩
 ·obtain ⟨l, c, rfl⟩ := h.2 e0
  exact ⟨_, _, _, _, rfl, fun h => absurd h e0⟩
theorem ltablesCt (F : Heap) (hE : ErrT F) (M : MD) (cs : List Value) (h : MdR F M cs) (hsz : MSz M) (hz : DzT M.ts) (hr : DzR M.rs) : Ct Tryz.prog 7 [.agg ⟨cs⟩] F [] (fun F' _ u => TbQ M F' u) := by
 have hM := h
 obtain ⟨i1, i2, i3, v1, v2, v3, v4, rfl, h1, h2, h3, h4⟩ := h
 obtain ⟨a1, c1, rfl, ⟨-, l1⟩, -⟩ := id h1
 obtain ⟨a2, c2, rfl, ⟨-, l2⟩, -⟩ := id h2
 obtain ⟨a3, c3, rfl, ⟨-, l3⟩, -⟩ := id h3
 obtain ⟨a4, c4, rfl, ⟨-, l4⟩, -⟩ := id h4
 refine Ct.enter Tryz.func7 rfl Tryz.ntmps7 rfl fun w0 a S => ?_
 refine wp_sr fun Z hZ => ?_
 (refine wbx S ?_; clear S a; intro b1 a w S)
 (revert S a; revert hZ Z; refine go 24 ?_; intro Z hZ a S)
 refine wpc_sp S rfl ?_ ?_ <;> intro h
 ·(revert S a; refine go 5 ?_; intro a S)
  refine wp_ret (fr2 S Tryz.results7 ?_)
  (first | exact ⟨_, _, rfl, .inl rfl⟩ | exact ⟨_, _, rfl, .inr ((hg28 (by omega)).mono hF2)⟩ | trace_state)
 (revert S a; revert hZ Z; refine go 4 ?_; intro Z hZ a S)
 (refine wcF S (newCt F hE M _ hM hsz) ?_; clear S a; intro v28 F1 a w hv hF1 S; obtain ⟨tv, l28, c28, e28, rfl, hg28⟩ := tb_of hv)
 (revert S a; refine go 4 ?_; intro a S)
 (refine wpl_alloc S rfl rfl rfl rfl ?_; clear S a; intro b5 a w S)
 (revert S a; refine go 1 ?_; intro a S)
 (refine wso S rfl rfl ?_; clear S; intro w S)
 (revert S a; revert hZ Z; refine go 5 ?_; intro Z hZ a S)
 (refine wcF S (Ct.mono (ct_le (rnewGCt F1 M _ (mdr_mono hM hF1) ⟨by omega, hz⟩ hr)) fun F' G' u h => h) ?_; clear S a; intro v34 F2 a w hv hF2 S; obtain ⟨⟨q34, l34, c34, e34, rfl⟩, -⟩ := hv)
 (revert S a; refine go 4 ?_; intro a S)
 (refine wpl_alloc S rfl rfl rfl rfl ?_; clear S a; intro b8 a w S)
 (revert S a; refine go 1 ?_; intro a S)
 (refine wso S rfl rfl ?_; clear S; intro w S)
 (revert S a; revert hZ Z; refine go 8 ?_; intro Z hZ Z hZ a S)
 refine wgd S ?_ ?_
 ·(clear S; intro h S)
  (revert S a; revert hZ Z; refine go 6 ?_; intro a S)
  refine wpc_sp S rfl ?_ ?_ <;> intro h
  ·(revert S a; refine go 5 ?_; intro a S)
   refine wp_ret (fr2 S Tryz.results7 ?_)
   (first | exact ⟨_, _, rfl, .inl rfl⟩ | exact ⟨_, _, rfl, .inr ((hg28 (by omega)).mono hF2)⟩ | trace_state)
  (revert S a; revert hZ Z; refine go 9 ?_; intro a S)
  refine wp_ret (fr2 S Tryz.results7 ?_)
  (first | exact ⟨_, _, rfl, .inl rfl⟩ | exact ⟨_, _, rfl, .inr ((hg28 (by omega)).mono hF2)⟩ | trace_state)
 (clear S a; intro h a S)
 (revert S a; revert hZ Z; refine go 4 ?_; intro a S)
 refine wpc_true S rfl ?_
 (revert S a; refine go 5 ?_; intro a S)
 refine wp_ret (fr2 S Tryz.results7 ?_)
 (first | exact ⟨_, _, rfl, .inl rfl⟩ | exact ⟨_, _, rfl, .inr ((hg28 (by omega)).mono hF2)⟩ | trace_state)
end Go.Proofs.YtgefmjghdijbfaaGreatDoor
namespace Go.De
open Go Go.Wk Go.Un Go.ChangeShapes Go.WideShapes
set_option linter.unusedSimpArgs false
set_option linter.unusedVariables false
theorem sum_le {f g : Nat → Nat} : ∀ {n : Nat}, (∀ i, i < n → f i ≤ g i) → ((List.range n).map f).sum ≤ ((List.range n).map g).sum
 | 0, _ => Nat.le_refl _
 | n + 1, h => by
  rw [List.range_succ, List.map_append, List.map_append, List.sum_append, List.sum_append]
  have h1 := sum_le (n := n) fun i hi => h i (by omega)
  have h2 := h n (by omega)
  simp only [List.map_cons, List.map_nil, List.sum_cons, List.sum_nil]
  omega
theorem sum_pos {g : Nat → Nat} : ∀ {n : Nat}, (∀ i, i < n → 0 < g i) → ((List.range n).map fun i => g i).length ≤ ((List.range n).map g).sum
 | 0, _ => Nat.le_refl _
 | n + 1, h => by
  have h1 := sum_pos (n := n) fun i hi => h i (by omega)
  have h2 := h n (by omega)
  simp only [List.length_map, List.length_range] at h1 ⊢
  rw [List.range_succ, List.map_append, List.sum_append]
  simp only [List.map_cons, List.map_nil, List.sum_cons, List.sum_nil]
  omega
theorem open_listZ {α : Type} [Inhabited α] {H : Type} {μ : DataW H → Nat} [hμ : Msr3 μ] {enc : TypeId × Value → H} {P : Program} {w : World} {spare : Nat → Bool} {held : Bool} {t e : TypeId} (cell : α → List Value) {sz : Nat} (good : α → Prop) (z : α → Nat)
  (ht : P.underlying t = some (.slice e)) (hc : P.cellsOf e = sz) (h0 : 0 < sz) (hlen : ∀ x, (cell x).length = sz)
  {cs0 : List Value} {d : DataW H} {p : List MemPlace} {fuel : Nat} (h : DataW.trod enc P w 0 spare held fuel t cs0 = some (d, p)) (hw : (d.weights P t).all (· ≤ reachBytes) = true)
  (hel : ∀ n cs d' p, DataW.trod enc P w 0 spare held n e cs = some (d', p) → μ d' < μ d → (d'.weights P e).all (· ≤ reachBytes) = true → ∃ x, cs = cell x ∧ good x ∧ z x ≤ μ d') :
  ∃ (a : Option Addr) (len cap : Nat) (l : List α), cs0 = [.slice a len cap] ∧ l.length = len ∧ len ≤ maxLen ∧ (∀ x ∈ l, good x) ∧ SlC (heapOf w) (.slice a len cap) len (l.flatMap cell) ∧ len * P.bytesOf e ≤ reachBytes ∧ (l.map z).sum < μ d ∧ l.length < μ d := by
 rcases Go.Deep.open_slice ht h with ⟨rfl, _⟩ | ⟨x, len, cap, m, n, D, Pl, rfl, -, hl, hm, hmm, hx, hi⟩
 ·exact ⟨none, 0, 0, [], rfl, rfl, Nat.zero_le _, by simp, ⟨none, 0, rfl, Nat.le_refl _, fun h => absurd h (by omega)⟩, by rw [Nat.zero_mul]; exact Nat.zero_le _, by simpa using hμ.p d, by simpa using hμ.p d⟩
 ·obtain ⟨hd, -⟩ := Prod.mk.inj hx
  have hlm : len ≤ m := by rw [hmm]; split <;> omega
  have hwe : ∀ q, q ∈ (len + (m - len)) * P.bytesOf e :: (DataW.weightsAll P e ((List.range len).map D) ++ DataW.weightsAll P e ((List.range (m - len)).map fun j => D (len + j))) → q ≤ reachBytes := fun q hq => by
   have h1 := List.all_eq_true.1 hw q (by rw [hd]; simp only [DataW.weights, ht, List.length_map, List.length_range]; exact hq)
   simpa using h1
  have hch : ∀ i, i < len → ∃ y, (∀ j v, (cell y)[j]? = some v → w.cell? ((x.add (i * sz)).add j) = some v) ∧ good y ∧ z y ≤ μ (D i) := fun i hi' => by
   obtain ⟨cs, h1, h2⟩ := hi i (by omega)
   rw [hc] at h1
   obtain ⟨y, rfl, hy, hz⟩ := hel _ _ _ _ h2 (by
    rw [hd]
    exact Msr.s (List.mem_map.2 ⟨i, List.mem_range.2 hi', rfl⟩)) (by
    rw [List.all_eq_true]
    intro q hq
    have := hwe q (List.mem_cons_of_mem _ (List.mem_append_left _ (weightsAll_mem' (List.mem_map.2 ⟨i, List.mem_range.2 hi', rfl⟩) q hq)))
    simpa using this)
   refine ⟨y, fun j v hj => ?_, hy, hz⟩
   obtain ⟨_, _, h3⟩ := World.cells?_some h1
   have hj2 := (List.getElem?_eq_some_iff.1 hj).1
   rw [hlen] at hj2
   exact (h3 j hj2).trans hj
  obtain ⟨X, hX⟩ := Go.Deep.choose_lt hch
  have hget : ∀ i y, ((List.range len).map X)[i]? = some y → i < len ∧ y = X i := fun i y hy => by
   have := (List.getElem?_eq_some_iff.1 hy).1
   simp only [List.length_map, List.length_range] at this
   rw [List.getElem?_map, List.getElem?_range this] at hy
   exact ⟨this, by simpa using hy.symm⟩
  refine ⟨some x, len, cap, (List.range len).map X, rfl, by simp, Nat.le_trans hl hm, fun y hy => ?_, ⟨some x, cap, rfl, hl, fun hk => ?_⟩, ?_, ?_, ?_⟩
  ·obtain ⟨i, hi1, rfl⟩ := List.mem_map.1 hy
   exact (hX i (List.mem_range.1 hi1)).2.1
  ·obtain ⟨b, off, spot⟩ := x
   have hsp : spot = none := by
    have hp : 0 < (cell (X 0)).length := by rw [hlen]; exact h0
    have := (hX 0 hk).1 0 _ (List.getElem?_eq_getElem hp)
    simpa [Addr.add] using World.cell?_spot this
   subst hsp
   refine ⟨b, off, rfl, cels_flat hlen _ _ fun i y hy => ?_⟩
   obtain ⟨hi1, rfl⟩ := hget i y hy
   intro j v hv
   have := (cel_of ((hX i hi1).1 j v hv)).2
   rw [add_none, add_none] at this
   exact this
  ·have h1 := hwe _ (List.mem_cons_self ..)
   exact Nat.le_trans (Nat.mul_le_mul_right _ (by omega)) h1
  ·rw [hd]
   refine Nat.lt_of_le_of_lt ?_ (hμ.l (es := (List.range len).map D) (sp := _))
   rw [List.map_map, List.map_map]
   exact sum_le fun i hi' => (hX i hi').2.2
  ·rw [hd]
   refine Nat.lt_of_le_of_lt ?_ (hμ.l (es := (List.range len).map D) (sp := _))
   rw [List.map_map]
   have h9 := sum_pos (n := len) (g := fun i => μ (D i)) fun i _ => hμ.p _
   simp only [List.length_map, List.length_range] at h9 ⊢
   exact h9
section
variable {H : Type} {μ : DataW H → Nat} [hμ : Msr3 μ] {enc : TypeId × Value → H} {P : Program} {w : World} {spare : Nat → Bool} {held : Bool} {m : Nat} {t : TypeId}
theorem lic_map {α : Type} {F : Heap} {sz : Nat} {R : Heap → α → List Value → Prop} : ∀ {l : List {p : List Value × α // p.1.length = sz}}, (∀ x ∈ l, R F x.1.2 x.1.1) → LiC F sz R (l.flatMap fun x => x.1.1) (l.map fun x => x.1.2)
 | [], _ => rfl
 | x :: l, h => ⟨x.1.1, _, rfl, x.2, h x (List.mem_cons_self ..), lic_map fun z hz => h z (List.mem_cons_of_mem _ hz)⟩
theorem opn_sliceZ {α : Type} [hα : Inhabited α] {e : TypeId} {sz : Nat} {R : Heap → α → List Value → Prop} {z : α → Nat} (ht : P.underlying t = some (.slice e)) (hc : P.cellsOf e = sz) (h0 : 0 < sz) (hb : Nat.ble 1 (P.bytesOf e) = true) (he : ∀ k, k ≤ m → Opn μ enc P w spare held k e (fun cs => cs.length = sz ∧ ∃ x, R (heapOf w) x cs ∧ z x < k)) :
  Opn μ enc P w spare held m t (fun cs => ∃ v l, cs = [v] ∧ LiM (heapOf w) sz R v l ∧ (l.map z).sum < m ∧ l.length < m) := fun fuel cs d p hd h hw => by
 haveI : Inhabited {p : List Value × α // p.1.length = sz} := ⟨⟨(List.replicate sz .nilIface, hα.default), by simp⟩⟩
 obtain ⟨a, len, cap, l, e1, h1, h2, h3, h4, h5, h6, h7⟩ := open_listZ (μ := μ) (α := {p : List Value × α // p.1.length = sz}) (fun x => x.1.1) (fun x => R (heapOf w) x.1.2 x.1.1) (fun x => z x.1.2) ht hc h0 (fun x => x.2) h hw fun n cs d' p hh hs hw' => by
  obtain ⟨hl, x, hx, hz⟩ := he (μ d' + 1) (by omega) n cs d' p (by omega) hh hw'
  exact ⟨⟨(cs, x), hl⟩, rfl, hx, by show z x ≤ _; omega⟩
 have hr : reachBytes ≤ 140737488355328 := by decide
 have h8 : len ≤ len * P.bytesOf e := Nat.le_mul_of_pos_right _ (Nat.le_of_ble_eq_true hb)
 refine ⟨_, l.map fun x => x.1.2, e1, lim_slc h4 (lic_map h3) (by rw [List.length_map, h1]) (by omega), ?_, ?_⟩
 ·rw [List.map_map]; exact Nat.lt_trans h6 hd
 ·rw [List.length_map]; omega
theorem opn_sliceL {α : Type} [hα : Inhabited α] {e : TypeId} {sz : Nat} {R : Heap → α → List Value → Prop} (ht : P.underlying t = some (.slice e)) (hc : P.cellsOf e = sz) (h0 : 0 < sz) (hb : Nat.ble 1 (P.bytesOf e) = true) (he : Opn μ enc P w spare held m e (fun cs => cs.length = sz ∧ ∃ x, R (heapOf w) x cs)) :
  Opn μ enc P w spare held m t (fun cs => ∃ v l, cs = [v] ∧ LiM (heapOf w) sz R v l ∧ l.length < m) :=
 (opn_sliceZ (z := fun _ => 0) (R := R) ht hc h0 hb fun k hk f cs d p h1 h2 h3 => by
  obtain ⟨g1, x, g2⟩ := he.lt hk f cs d p h1 h2 h3
  exact ⟨g1, x, g2, by omega⟩).imp fun cs ⟨v, l, g1, g2, _, g3⟩ => ⟨v, l, g1, g2, g3⟩
end
end Go.De
