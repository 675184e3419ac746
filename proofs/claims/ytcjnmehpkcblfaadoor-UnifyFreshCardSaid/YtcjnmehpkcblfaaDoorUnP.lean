/- The walk of whole. -/
import Derived.Test.YtcjnmehpkcblfaaDoorUnO
import Derived.Test.YtcjnmehpkcblfaaDoorUnE
namespace Go.Proofs.YtcjnmehpkcblfaaDoor
open Go Go.Wk Go.Un
set_option linter.unusedSimpArgs false
set_option linter.unusedVariables false
attribute [local irreducible] Go.wpList Go.Code.wp Go.wpStill Go.Wk.wpPre Go.bodyPost Go.Calls Go.Wk.Ct Go.Wk.OwnS
attribute [local irreducible] Go.Wk.wpG Go.Wk.wpM

/-- What whole tells: the type, or none. -/
def WR (F : Heap) (b : Bool) (nm : List UInt8) (ar : Fo) (nm' : List UInt8) (ao : Option Addr) (q c : Nat) : Prop := (b = true → nm' = nm ∧ SlF F (.slice ao q c) ar) ∧ (b = false → nm' = [] ∧ ao = none ∧ q = 0 ∧ c = 0)
def WholeCt (tb mb n : Nat) (nd : Nds) (A : Ab) (m : Nat) : Prop := ∀ (F : Heap) (T : Tb) (GG : List Grp) (i lb : Nat) (d q : Int) (nm : List UInt8) (ar : Fo), ar.size < m → T.nd = nd → TabM F tb mb T n GG → AbR n T.pa T.st T.le A → i < n → Res nd A i nm ar → 0 ≤ d → d ≤ 65 → 0 ≤ q → q ≤ 100000 →
  Ct Tryd.prog 45 [.pointer (some ⟨tb, 0, none⟩), .int .i64 i, .int .i64 d, .pointer (some ⟨lb, 0, none⟩)] F ([(lb, .cells ⟨[.int .i64 q]⟩ 3 (0, 0))] :: GG) (fun F' G' u => ∃ (T' : Tb) (GG' : List Grp) (nm' : List UInt8) (ao : Option Addr) (q' c' : Nat), u = .tuple ⟨[.agg ⟨[.string (bs nm'), .slice ao q' c']⟩, .bool (wholeT ar d q).1]⟩ ∧ G' = [(lb, .cells ⟨[.int .i64 (wholeT ar d q).2]⟩ 3 (0, 0))] :: GG' ∧ RdP F' tb mb n nd A T T' GG' ∧ WR F' (wholeT ar d q).1 nm ar nm' ao q' c')
set_option maxRecDepth 20000 in
set_option maxHeartbeats 16000000 in
theorem wholeCt (tb mb n : Nat) (nd : Nds) (A : Ab) (hnn : nd.length = n) (hn : n ≤ 10000000) (hW : AbW nd A) : ∀ m, WholeCt tb mb n nd A m := by
  intro m
  induction m with
  | zero => intro F T GG i lb d q nm ar hm; omega
  | succ m ih =>
  intro F T GG i lb d q nm ar hm hnd hTab hA hi hR hd hd2 hq hq2
  obtain ⟨ka, hka⟩ := hA.rt i hi
  have hWa := hW.rr i (by omega)
  have hcn : A.rt i < n := by omega
  have hst := hA.st _ hcn
  have hle9 := hA.le _ hcn
  have hsvx := hW.sv _ (show A.rt i < nd.length by omega)
  refine Ct.enter Tryd.func45 rfl Tryd.ntmps45 rfl fun w0 a S => ?_
  (refine wp_seq_k ?_; intro Kq1 hKq1)
  refine wp_region_lit ?_
  (refine wpl_alloc S rfl rfl rfl rfl ?_; clear S a; intro b8 a w S)
  (refine wpl_v S rfl rfl rfl (sv_pure S rfl) ?_; clear S a; intro a S)
  refine wpList_nil ?_
  (refine hKq1 _ _ ?_; try (clear hKq1 Kq1))
  (refine wp_seq_k ?_; intro Kq2 hKq2)
  refine wp_region_lit ?_
  (refine wpl_v S rfl rfl rfl (sv_pure S rfl) ?_; clear S a; intro a S)
  (refine wpl_v S rfl rfl rfl (sv_nilCheck S rfl rfl) ?_; clear S a; intro a S)
  first | (refine wpl_v S rfl rfl rfl (sv_loadO S rfl rfl (by rfl)) ?_; clear S a; intro a S) | (refine wpl_v S rfl rfl rfl (sv_loadF S rfl rfl (by assumption)) ?_; clear S a; intro a S) | (refine wpl_v S rfl rfl rfl (sv_loadO S rfl rfl (ini hst)) ?_; clear S a; intro a S) | (refine wpl_v S rfl rfl rfl (sv_loadO S rfl rfl (ins hle9)) ?_; clear S a; intro a S) | (refine wpl_v S rfl rfl rfl (sv_loadO S rfl rfl (hg1 0 _ rfl)) ?_; clear S a; intro a S) | (refine wpl_v S rfl rfl rfl (sv_loadO S rfl rfl (hg1 1 _ rfl)) ?_; clear S a; intro a S) | (refine wpl_v S rfl rfl rfl (sv_loadF S rfl rfl hck1) ?_; clear S a; intro a S)
  (refine wpl_v S rfl rfl rfl (sv_sub S rfl rfl rfl (by first | omega | (simp only [List.length_append, List.length_cons, List.length_nil]; omega))) ?_; clear S a; intro a S)
  (refine wpl_v S rfl rfl rfl (sv_nilCheck S rfl rfl) ?_; clear S a; intro a S)
  (refine wpl_store1 S rfl rfl rfl rfl rfl rfl (by first | (simp; done) | (simp [Value.cells]; done) | exact Nat.le_of_ble_eq_true rfl) ?_; clear S; intro w S)
  refine wpList_nil ?_
  (refine hKq2 _ _ ?_; try (clear hKq2 Kq2))
  (refine wp_seq_k ?_; intro Kq3 hKq3)
  (refine wp_seq_k ?_; intro Kq4 hKq4)
  refine wp_region_lit ?_
  (refine wpl_v S rfl rfl rfl (sv_pure S rfl) ?_; clear S a; intro a S)
  (refine wpl_v S rfl rfl rfl (sv_nilCheck S rfl rfl) ?_; clear S a; intro a S)
  first | (refine wpl_v S rfl rfl rfl (sv_loadO S rfl rfl (by rfl)) ?_; clear S a; intro a S) | (refine wpl_v S rfl rfl rfl (sv_loadF S rfl rfl (by assumption)) ?_; clear S a; intro a S) | (refine wpl_v S rfl rfl rfl (sv_loadO S rfl rfl (ini hst)) ?_; clear S a; intro a S) | (refine wpl_v S rfl rfl rfl (sv_loadO S rfl rfl (ins hle9)) ?_; clear S a; intro a S) | (refine wpl_v S rfl rfl rfl (sv_loadO S rfl rfl (hg1 0 _ rfl)) ?_; clear S a; intro a S) | (refine wpl_v S rfl rfl rfl (sv_loadO S rfl rfl (hg1 1 _ rfl)) ?_; clear S a; intro a S) | (refine wpl_v S rfl rfl rfl (sv_loadF S rfl rfl hck1) ?_; clear S a; intro a S)
  (refine wpl_v S rfl rfl rfl (sv_pure S rfl) ?_; clear S a; intro a S)
  (refine wpl_v S rfl rfl rfl (sv_pure S rfl) ?_; clear S a; intro a S)
  refine wpl_guard S rfl rfl rfl rfl rfl ?_ ?_
  · (intro h S'; clear S; have S := S'; clear S'; (try simp only [decide_eq_true_eq, decide_eq_false_iff_not, beq_iff_eq, bne_iff_ne, bne_eq_false_iff_eq, beq_eq_false_iff_ne, ne_eq, Bool.not_eq_true', Bool.not_eq_false', Bool.not_eq_true, Bool.not_eq_false, Bool.not_true, Bool.not_false, Int.ofNat_lt, Int.ofNat_le, Nat.not_lt, Nat.not_le] at h))
    (refine wpl_v S rfl rfl rfl (sv_pure S rfl) ?_; clear S a; intro a S)
    refine wpl_take S rfl rfl rfl ?_
    (refine wpl_v S rfl rfl rfl (sv_pure S rfl) ?_; clear S a; intro a S)
    first | (refine wpl_v S rfl rfl rfl (sv_pure S rfl) ?_; clear S a; intro a S) | (refine wpl_v S rfl rfl rfl (sv_pickB S rfl rfl rfl rfl) ?_; clear S a; intro a S)
    refine wpList_nil ?_
    (refine hKq4 _ _ ?_; try (clear hKq4 Kq4))
    refine wpc_split S rfl (fun h => ?_) (fun h => ?_)
    · (skip; (try simp only [decide_eq_true_eq, decide_eq_false_iff_not, beq_iff_eq, bne_iff_ne, bne_eq_false_iff_eq, beq_eq_false_iff_ne, ne_eq, Bool.not_eq_true', Bool.not_eq_false', Bool.not_eq_true, Bool.not_eq_false, Bool.not_true, Bool.not_false, Int.ofNat_lt, Int.ofNat_le, Nat.not_lt, Nat.not_le] at h))
      (refine wp_seq_k ?_; intro Kq5 hKq5)
      refine wp_region_lit ?_
      (refine wpl_v S rfl rfl rfl (sv_build S rfl rfl rfl) ?_; clear S a; intro a S)
      (refine wpl_storeO S rfl rfl rfl rfl rfl (by rfl) (by simp [Value.cells, Value.oneCell', splice]) (by rfl) ?_; clear S; intro w S)
      (refine wpl_v S rfl rfl rfl (sv_pure S rfl) ?_; clear S a; intro a S)
      refine wpList_nil ?_
      (refine hKq5 _ _ ?_; try (clear hKq5 Kq5))
      refine wp_ret ?_
      (have S0 := S; (first | (have h9 := hWR; replace S := S.drop1.drop1.drop1.drop1) | (have hkn : k = ar.len := (by omega); have h9 := hown; replace S := S.drop1; have hle := add_le (G1 := []) S; replace S := St.freeze (G1 := []) S; (simp only [List.nil_append] at S hle); replace S := S.drop1) | (replace S := S.drop1)))
      
      refine fin_ret S (results2 Tryd.results45 (RV.cellO S0 rfl (by rfl)) (RV.tmp S0 rfl)) ?_
      (first | (have hk9 := hWR; have hbad : (wholeT x.2 (d + 1) p).1 = false := (by simpa using h); have e9 : wholeT ar d q = (false, (wholeT x.2 (d + 1) p).2) := (by rw [wholeT_in (by omega), hwl, hdr, wholeL_cons, if_neg (by rw [hbad]; simp)]); rw [e9]; exact ⟨T3, GG3, [], none, 0, 0, rfl, rfl, ⟨hR3.nd.trans hR2.nd, hR3.vs.trans hR2.vs, hR3.tab, hR3.abr⟩, (fun h => by cases h), (fun _ => ⟨rfl, rfl, rfl, rfl⟩)⟩) | (have hk9 := hkn; have e9 : wholeT ar d q = (true, p) := (by rw [wholeT_in (by omega), hwl, Fo.drop_len (by omega)]; rfl); rw [e9]; rw [Fo.drop_len (by omega), Fo.app_nil] at happ; rw [happ] at hfc hpre; exact ⟨T2, GG2, nm, _, _, _, rfl, rfl, ⟨hR2.nd, hR2.vs, TabM.mono hle hR2.tab, hR2.abr⟩, (fun _ => ⟨rfl, FoC.slf hown hfc (by omega) hle (by omega)⟩), (fun h => by cases h)⟩) | (have hneg : A.st (A.rt i) < 0 := (by assumption); obtain ⟨rfl, rfl⟩ : nm = A.le (A.rt i) ∧ ar = .nil := (by rcases hR with ⟨_, h2, h3⟩ | ⟨_, h2, _⟩; exact ⟨h2, h3⟩; omega); have e9 : wholeT .nil d q = (true, q - 1) := (by rw [wholeT_in (by omega)]; rfl); rw [e9]; exact ⟨{ T with pa := pa1 }, _, _, none, 0, 0, rfl, rfl, ⟨rfl, rfl, hTab9, hA1⟩, (fun _ => ⟨rfl, SlF.nil F⟩), (fun h => by cases h)⟩) | (have e9 : wholeT ar d q = (false, q - 1) := wholeT_out (by omega); rw [e9]; exact ⟨T, GG, [], none, 0, 0, rfl, rfl, ⟨rfl, rfl, hTab, hA⟩, (fun h => by cases h), (fun _ => ⟨rfl, rfl, rfl, rfl⟩)⟩) | trace_state)
    · (skip; (try simp only [decide_eq_true_eq, decide_eq_false_iff_not, beq_iff_eq, bne_iff_ne, bne_eq_false_iff_eq, beq_eq_false_iff_ne, ne_eq, Bool.not_eq_true', Bool.not_eq_false', Bool.not_eq_true, Bool.not_eq_false, Bool.not_true, Bool.not_false, Int.ofNat_lt, Int.ofNat_le, Nat.not_lt, Nat.not_le] at h))
      refine wp_skip ?_
      (refine hKq3 _ _ ?_; try (clear hKq3 Kq3))
      (refine wp_seq_k ?_; intro Kq5 hKq5)
      refine wp_region_lit ?_
      (refine wpl_v S rfl rfl rfl (sv_pure S rfl) ?_; clear S a; intro a S)
      (refine wpl_v S rfl rfl rfl (sv_pure S rfl) ?_; clear S a; intro a S)
      (refine wpl_callOwn (Gs := GG) (Gr := [[(b8, _)], [(lb, _)]]) S rfl rfl rfl rfl rfl rfl (findCt F tb mb T n GG i (A.rt i) ka (by omega) hTab hka) rfl (grp_perm (A := [[(b8, _)], [(lb, _)]])) ?_; clear S a; intro u9 GG1 a w hv S; obtain ⟨rfl, pa1, hpa1, hTab1⟩ := hv; have hA1 : AbR n pa1 T.st T.le A := hA.find hpa1; have hpl := hA1.pl; have hsl0 := hA1.sl; have hll0 := hA1.ll; have hTab9 := hTab1; obtain ⟨vn, vp, vt, vl, told, gn, gp, gs, gl, rfl, ⟨xsn, hN, hNd⟩, hP, hS, hL⟩ := hTab1; replace hNd : NdC F xsn T.nd := hNd; replace hP : OwnS _ _ vp n (intsN pa1) gp := hP; replace hS : OwnS _ _ vt n (intsI T.st) gs := hS; replace hL : OwnS _ _ vl n (strs T.le) gl := hL; obtain ⟨bn, cn, exn, rfl, rfl, hcn1, hcn2, hcn3, hcn4⟩ := ownS_blkN hN (by omega); obtain ⟨bp, cp, exp, rfl, rfl, hcp1, hcp2, hcp3, hcp4⟩ := ownS_blkN hP (by omega); obtain ⟨bs1, cs, exs, rfl, rfl, hcs1, hcs2, hcs3, hcs4⟩ := ownS_blkN hS (by omega); obtain ⟨bl, cl, exl, rfl, rfl, hcl1, hcl2, hcl3, hcl4⟩ := ownS_blkN hL (by omega); replace S : St _ _ _ _ _ F [[(b8, _)], [(lb, _)], [(tb, .cells ⟨[.slice (some ⟨bn, 0, none⟩) n cn, .map (some mb), .slice (some ⟨bp, 0, none⟩) n cp, .slice (some ⟨bs1, 0, none⟩) n cs, .slice (some ⟨bl, 0, none⟩) n cl, .int .i64 told]⟩ 47 (0, 0))], [(mb, mObj kS (mapV T.vs))], [(bn, .cells ⟨xsn ++ exn⟩ 66 (0, 0))], [(bp, .cells ⟨intsN pa1 ++ exp⟩ 3 (0, 0))], [(bs1, .cells ⟨intsI T.st ++ exs⟩ 3 (0, 0))], [(bl, .cells ⟨strs T.le ++ exl⟩ 9 (0, 0))]] _ _ := St.rotL S)
      (refine wpl_v S rfl rfl rfl (sv_pure S rfl) ?_; clear S a; intro a S)
      refine wpList_nil ?_
      (refine hKq5 _ _ ?_; try (clear hKq5 Kq5))
      (refine wp_seq_k ?_; intro Kq6 hKq6)
      refine wp_region_lit ?_
      (refine wpl_v S rfl rfl rfl (sv_pure S rfl) ?_; clear S a; intro a S)
      (refine wpl_v S rfl rfl rfl (sv_nilCheck S rfl rfl) ?_; clear S a; intro a S)
      (refine wpl_v S rfl rfl rfl (sv_fieldAddr S rfl rfl rfl inferInstance rfl) ?_; clear S a; intro a S)
      first | (refine wpl_v S rfl rfl rfl (sv_loadO S rfl rfl (by rfl)) ?_; clear S a; intro a S) | (refine wpl_v S rfl rfl rfl (sv_loadF S rfl rfl (by assumption)) ?_; clear S a; intro a S) | (refine wpl_v S rfl rfl rfl (sv_loadO S rfl rfl (ini hst)) ?_; clear S a; intro a S) | (refine wpl_v S rfl rfl rfl (sv_loadO S rfl rfl (ins hle9)) ?_; clear S a; intro a S) | (refine wpl_v S rfl rfl rfl (sv_loadO S rfl rfl (hg1 0 _ rfl)) ?_; clear S a; intro a S) | (refine wpl_v S rfl rfl rfl (sv_loadO S rfl rfl (hg1 1 _ rfl)) ?_; clear S a; intro a S) | (refine wpl_v S rfl rfl rfl (sv_loadF S rfl rfl hck1) ?_; clear S a; intro a S)
      (refine wpl_v S rfl rfl rfl (sv_pure S rfl) ?_; clear S a; intro a S)
      (refine wpl_v S rfl rfl rfl (sv_indexAddrSl S rfl rfl rfl (by first | omega | (simp only [List.length_append, List.length_cons, List.length_nil]; omega))) ?_; clear S a; intro a S)
      first | (refine wpl_v S rfl rfl rfl (sv_loadO S rfl rfl (by rfl)) ?_; clear S a; intro a S) | (refine wpl_v S rfl rfl rfl (sv_loadF S rfl rfl (by assumption)) ?_; clear S a; intro a S) | (refine wpl_v S rfl rfl rfl (sv_loadO S rfl rfl (ini hst)) ?_; clear S a; intro a S) | (refine wpl_v S rfl rfl rfl (sv_loadO S rfl rfl (ins hle9)) ?_; clear S a; intro a S) | (refine wpl_v S rfl rfl rfl (sv_loadO S rfl rfl (hg1 0 _ rfl)) ?_; clear S a; intro a S) | (refine wpl_v S rfl rfl rfl (sv_loadO S rfl rfl (hg1 1 _ rfl)) ?_; clear S a; intro a S) | (refine wpl_v S rfl rfl rfl (sv_loadF S rfl rfl hck1) ?_; clear S a; intro a S)
      (refine wpl_v S rfl rfl rfl (sv_pure S rfl) ?_; clear S a; intro a S)
      refine wpList_nil ?_
      (refine hKq6 _ _ ?_; try (clear hKq6 Kq6))
      (refine wp_seq_k ?_; intro Kq7 hKq7)
      (refine wp_seq_k ?_; intro Kq8 hKq8)
      refine wp_region_lit ?_
      (refine wpl_v S rfl rfl rfl (sv_pure S rfl) ?_; clear S a; intro a S)
      (refine wpl_v S rfl rfl rfl (sv_pure S rfl) ?_; clear S a; intro a S)
      refine wpList_nil ?_
      (refine hKq8 _ _ ?_; try (clear hKq8 Kq8))
      refine wpc_split S rfl (fun h => ?_) (fun h => ?_)
      · (skip; (try simp only [decide_eq_true_eq, decide_eq_false_iff_not, beq_iff_eq, bne_iff_ne, bne_eq_false_iff_eq, beq_eq_false_iff_ne, ne_eq, Bool.not_eq_true', Bool.not_eq_false', Bool.not_eq_true, Bool.not_eq_false, Bool.not_true, Bool.not_false, Int.ofNat_lt, Int.ofNat_le, Nat.not_lt, Nat.not_le] at h))
        (refine wp_seq_k ?_; intro Kq9 hKq9)
        refine wp_region_lit ?_
        (refine wpl_v S rfl rfl rfl (sv_pure S rfl) ?_; clear S a; intro a S)
        (refine wpl_v S rfl rfl rfl (sv_nilCheck S rfl rfl) ?_; clear S a; intro a S)
        (refine wpl_v S rfl rfl rfl (sv_fieldAddr S rfl rfl rfl inferInstance rfl) ?_; clear S a; intro a S)
        first | (refine wpl_v S rfl rfl rfl (sv_loadO S rfl rfl (by rfl)) ?_; clear S a; intro a S) | (refine wpl_v S rfl rfl rfl (sv_loadF S rfl rfl (by assumption)) ?_; clear S a; intro a S) | (refine wpl_v S rfl rfl rfl (sv_loadO S rfl rfl (ini hst)) ?_; clear S a; intro a S) | (refine wpl_v S rfl rfl rfl (sv_loadO S rfl rfl (ins hle9)) ?_; clear S a; intro a S) | (refine wpl_v S rfl rfl rfl (sv_loadO S rfl rfl (hg1 0 _ rfl)) ?_; clear S a; intro a S) | (refine wpl_v S rfl rfl rfl (sv_loadO S rfl rfl (hg1 1 _ rfl)) ?_; clear S a; intro a S) | (refine wpl_v S rfl rfl rfl (sv_loadF S rfl rfl hck1) ?_; clear S a; intro a S)
        (refine wpl_v S rfl rfl rfl (sv_pure S rfl) ?_; clear S a; intro a S)
        (refine wpl_v S rfl rfl rfl (sv_indexAddrSl S rfl rfl rfl (by first | omega | (simp only [List.length_append, List.length_cons, List.length_nil]; omega))) ?_; clear S a; intro a S)
        first | (refine wpl_v S rfl rfl rfl (sv_loadO S rfl rfl (by rfl)) ?_; clear S a; intro a S) | (refine wpl_v S rfl rfl rfl (sv_loadF S rfl rfl (by assumption)) ?_; clear S a; intro a S) | (refine wpl_v S rfl rfl rfl (sv_loadO S rfl rfl (ini hst)) ?_; clear S a; intro a S) | (refine wpl_v S rfl rfl rfl (sv_loadO S rfl rfl (ins hle9)) ?_; clear S a; intro a S) | (refine wpl_v S rfl rfl rfl (sv_loadO S rfl rfl (hg1 0 _ rfl)) ?_; clear S a; intro a S) | (refine wpl_v S rfl rfl rfl (sv_loadO S rfl rfl (hg1 1 _ rfl)) ?_; clear S a; intro a S) | (refine wpl_v S rfl rfl rfl (sv_loadF S rfl rfl hck1) ?_; clear S a; intro a S)
        (refine wpl_v S rfl rfl rfl (sv_build S rfl rfl rfl) ?_; clear S a; intro a S)
        (refine wpl_storeO S rfl rfl rfl rfl rfl (by rfl) (by simp [Value.cells, Value.oneCell', splice]) (by rfl) ?_; clear S; intro w S)
        (refine wpl_v S rfl rfl rfl (sv_pure S rfl) ?_; clear S a; intro a S)
        refine wpList_nil ?_
        (refine hKq9 _ _ ?_; try (clear hKq9 Kq9))
        refine wp_ret ?_
        (have S0 := S; (first | (have h9 := hWR; replace S := S.drop1.drop1.drop1.drop1) | (have hkn : k = ar.len := (by omega); have h9 := hown; replace S := S.drop1; have hle := add_le (G1 := []) S; replace S := St.freeze (G1 := []) S; (simp only [List.nil_append] at S hle); replace S := S.drop1) | (replace S := S.drop1)))
        
        refine fin_ret S (results2 Tryd.results45 (RV.cellO S0 rfl (by rfl)) (RV.tmp S0 rfl)) ?_
        (first | (have hk9 := hWR; have hbad : (wholeT x.2 (d + 1) p).1 = false := (by simpa using h); have e9 : wholeT ar d q = (false, (wholeT x.2 (d + 1) p).2) := (by rw [wholeT_in (by omega), hwl, hdr, wholeL_cons, if_neg (by rw [hbad]; simp)]); rw [e9]; exact ⟨T3, GG3, [], none, 0, 0, rfl, rfl, ⟨hR3.nd.trans hR2.nd, hR3.vs.trans hR2.vs, hR3.tab, hR3.abr⟩, (fun h => by cases h), (fun _ => ⟨rfl, rfl, rfl, rfl⟩)⟩) | (have hk9 := hkn; have e9 : wholeT ar d q = (true, p) := (by rw [wholeT_in (by omega), hwl, Fo.drop_len (by omega)]; rfl); rw [e9]; rw [Fo.drop_len (by omega), Fo.app_nil] at happ; rw [happ] at hfc hpre; exact ⟨T2, GG2, nm, _, _, _, rfl, rfl, ⟨hR2.nd, hR2.vs, TabM.mono hle hR2.tab, hR2.abr⟩, (fun _ => ⟨rfl, FoC.slf hown hfc (by omega) hle (by omega)⟩), (fun h => by cases h)⟩) | (have hneg : A.st (A.rt i) < 0 := (by assumption); obtain ⟨rfl, rfl⟩ : nm = A.le (A.rt i) ∧ ar = .nil := (by rcases hR with ⟨_, h2, h3⟩ | ⟨_, h2, _⟩; exact ⟨h2, h3⟩; omega); have e9 : wholeT .nil d q = (true, q - 1) := (by rw [wholeT_in (by omega)]; rfl); rw [e9]; exact ⟨{ T with pa := pa1 }, _, _, none, 0, 0, rfl, rfl, ⟨rfl, rfl, hTab9, hA1⟩, (fun _ => ⟨rfl, SlF.nil F⟩), (fun h => by cases h)⟩) | (have e9 : wholeT ar d q = (false, q - 1) := wholeT_out (by omega); rw [e9]; exact ⟨T, GG, [], none, 0, 0, rfl, rfl, ⟨rfl, rfl, hTab, hA⟩, (fun h => by cases h), (fun _ => ⟨rfl, rfl, rfl, rfl⟩)⟩) | trace_state)
      · (skip; (try simp only [decide_eq_true_eq, decide_eq_false_iff_not, beq_iff_eq, bne_iff_ne, bne_eq_false_iff_eq, beq_eq_false_iff_ne, ne_eq, Bool.not_eq_true', Bool.not_eq_false', Bool.not_eq_true, Bool.not_eq_false, Bool.not_true, Bool.not_false, Int.ofNat_lt, Int.ofNat_le, Nat.not_lt, Nat.not_le] at h))
        refine wp_skip ?_
        (refine hKq7 _ _ ?_; try (clear hKq7 Kq7))
        (refine wp_seq_k ?_; intro Kq9 hKq9)
        (obtain ⟨u, hu9⟩ : ∃ u : Nat, A.st (A.rt i) = (u : Int) := ⟨_, (Int.toNat_of_nonneg (by omega)).symm⟩; rw [hu9] at S hst hsvx; obtain ⟨ks1, hk1, hRL⟩ : ∃ ks, nd[u]? = some (nm, ks) ∧ ResL nd A ar ks := (by rcases hR with h9 | ⟨ks, h9, h8, h7⟩; omega; rw [hu9, Int.toNat_natCast] at h8; exact ⟨ks, h8, h7⟩); obtain ⟨vk1, hg1, hsl1⟩ := ndc_get (ex := exn) hNd (by rw [hnd]; exact hk1); (simp only at hg1 hsl1); have hch1 := hW.ch _ _ _ hk1; have hkl1 := hRL.len; obtain ⟨aoA, cA, rfl, -, -⟩ := id hsl1)
        refine wp_region_lit ?_
        (refine wpl_v S rfl rfl rfl (sv_pure S rfl) ?_; clear S a; intro a S)
        (refine wpl_v S rfl rfl rfl (sv_nilCheck S rfl rfl) ?_; clear S a; intro a S)
        (refine wpl_v S rfl rfl rfl (sv_fieldAddr S rfl rfl rfl inferInstance rfl) ?_; clear S a; intro a S)
        first | (refine wpl_v S rfl rfl rfl (sv_loadO S rfl rfl (by rfl)) ?_; clear S a; intro a S) | (refine wpl_v S rfl rfl rfl (sv_loadF S rfl rfl (by assumption)) ?_; clear S a; intro a S) | (refine wpl_v S rfl rfl rfl (sv_loadO S rfl rfl (ini hst)) ?_; clear S a; intro a S) | (refine wpl_v S rfl rfl rfl (sv_loadO S rfl rfl (ins hle9)) ?_; clear S a; intro a S) | (refine wpl_v S rfl rfl rfl (sv_loadO S rfl rfl (hg1 0 _ rfl)) ?_; clear S a; intro a S) | (refine wpl_v S rfl rfl rfl (sv_loadO S rfl rfl (hg1 1 _ rfl)) ?_; clear S a; intro a S) | (refine wpl_v S rfl rfl rfl (sv_loadF S rfl rfl hck1) ?_; clear S a; intro a S)
        (refine wpl_v S rfl rfl rfl (sv_pure S rfl) ?_; clear S a; intro a S)
        (refine wpl_v S rfl rfl rfl (sv_indexAddrSl S rfl rfl rfl (by first | omega | (simp only [List.length_append, List.length_cons, List.length_nil]; omega))) ?_; clear S a; intro a S)
        (refine wpl_v S rfl rfl rfl (sv_fieldAddr S rfl rfl rfl inferInstance rfl) ?_; clear S a; intro a S)
        first | (refine wpl_v S rfl rfl rfl (sv_loadO S rfl rfl (by rfl)) ?_; clear S a; intro a S) | (refine wpl_v S rfl rfl rfl (sv_loadF S rfl rfl (by assumption)) ?_; clear S a; intro a S) | (refine wpl_v S rfl rfl rfl (sv_loadO S rfl rfl (ini hst)) ?_; clear S a; intro a S) | (refine wpl_v S rfl rfl rfl (sv_loadO S rfl rfl (ins hle9)) ?_; clear S a; intro a S) | (refine wpl_v S rfl rfl rfl (sv_loadO S rfl rfl (hg1 0 _ rfl)) ?_; clear S a; intro a S) | (refine wpl_v S rfl rfl rfl (sv_loadO S rfl rfl (hg1 1 _ rfl)) ?_; clear S a; intro a S) | (refine wpl_v S rfl rfl rfl (sv_loadF S rfl rfl hck1) ?_; clear S a; intro a S)
        (refine wpl_v S rfl rfl rfl (sv_build S rfl rfl rfl) ?_; clear S a; intro a S)
        (refine wpl_alloc S rfl rfl rfl rfl ?_; clear S a; intro b11 a w S)
        (refine wpl_storeO S rfl rfl rfl rfl rfl (by rfl) (by simp [Value.cells, Value.oneCell', splice]) (by rfl) ?_; clear S; intro w S)
        refine wpList_nil ?_
        (refine hKq9 _ _ ?_; try (clear hKq9 Kq9))
        (refine wp_seq_k ?_; intro Kq10 hKq10)
        (refine wp_seq_k ?_; intro Kq11 hKq11)
        refine wp_region_lit ?_
        (refine wpl_v S rfl rfl rfl (sv_pure S rfl) ?_; clear S a; intro a S)
        (refine wpl_v S rfl rfl rfl (sv_nilCheck S rfl rfl) ?_; clear S a; intro a S)
        (refine wpl_v S rfl rfl rfl (sv_fieldAddr S rfl rfl rfl inferInstance rfl) ?_; clear S a; intro a S)
        first | (refine wpl_v S rfl rfl rfl (sv_loadO S rfl rfl (by rfl)) ?_; clear S a; intro a S) | (refine wpl_v S rfl rfl rfl (sv_loadF S rfl rfl (by assumption)) ?_; clear S a; intro a S) | (refine wpl_v S rfl rfl rfl (sv_loadO S rfl rfl (ini hst)) ?_; clear S a; intro a S) | (refine wpl_v S rfl rfl rfl (sv_loadO S rfl rfl (ins hle9)) ?_; clear S a; intro a S) | (refine wpl_v S rfl rfl rfl (sv_loadO S rfl rfl (hg1 0 _ rfl)) ?_; clear S a; intro a S) | (refine wpl_v S rfl rfl rfl (sv_loadO S rfl rfl (hg1 1 _ rfl)) ?_; clear S a; intro a S) | (refine wpl_v S rfl rfl rfl (sv_loadF S rfl rfl hck1) ?_; clear S a; intro a S)
        (refine wpl_v S rfl rfl rfl (sv_pure S rfl) ?_; clear S a; intro a S)
        (refine wpl_v S rfl rfl rfl (sv_indexAddrSl S rfl rfl rfl (by first | omega | (simp only [List.length_append, List.length_cons, List.length_nil]; omega))) ?_; clear S a; intro a S)
        (refine wpl_v S rfl rfl rfl (sv_fieldAddr S rfl rfl rfl inferInstance rfl) ?_; clear S a; intro a S)
        first | (refine wpl_v S rfl rfl rfl (sv_loadO S rfl rfl (by rfl)) ?_; clear S a; intro a S) | (refine wpl_v S rfl rfl rfl (sv_loadF S rfl rfl (by assumption)) ?_; clear S a; intro a S) | (refine wpl_v S rfl rfl rfl (sv_loadO S rfl rfl (ini hst)) ?_; clear S a; intro a S) | (refine wpl_v S rfl rfl rfl (sv_loadO S rfl rfl (ins hle9)) ?_; clear S a; intro a S) | (refine wpl_v S rfl rfl rfl (sv_loadO S rfl rfl (hg1 0 _ rfl)) ?_; clear S a; intro a S) | (refine wpl_v S rfl rfl rfl (sv_loadO S rfl rfl (hg1 1 _ rfl)) ?_; clear S a; intro a S) | (refine wpl_v S rfl rfl rfl (sv_loadF S rfl rfl hck1) ?_; clear S a; intro a S)
        (refine wpl_v S rfl rfl rfl (sv_lenSl S rfl rfl) ?_; clear S a; intro a S)
        (refine wpl_v S rfl rfl rfl (sv_pure S rfl) ?_; clear S a; intro a S)
        refine wpList_nil ?_
        (refine hKq11 _ _ ?_; try (clear hKq11 Kq11))
        refine wp_block ?_
        refine wpc_loop (fun m a w' => ∃ (k : Nat) (v : Value) (g : Grp) (xs : List Value) (F2 : Heap) (T2 : Tb) (GG2 : List Grp) (p : Int) (pre : Fo), m = ar.len - k ∧ k ≤ ar.len ∧ (∀ b o, F b = some o → F2 b = some o) ∧ OwnS 36 2 v k xs g ∧ FoC F2 xs pre ∧ pre.len = k ∧ pre.app (ar.drop k) = ar ∧ RdP F2 tb mb n nd A T T2 GG2 ∧ 0 ≤ p ∧ p ≤ 100000 ∧ wholeL ar (d + 1) (q - 1) = wholeL (ar.drop k) (d + 1) p ∧ St 92 [(0, ptr tb), (2, .int .i64 d), (3, ptr lb), (8, ptr b8), (11, ptr b11), (66, .slice aoA ks1.length cA), (67, .int .i64 ks1.length), (68, .int .i64 k)] w0 F (keys ([(lb, .cells ⟨[.int .i64 q]⟩ 3 (0, 0))] :: GG)) F2 ([(b11, .cells ⟨[.string (bs nm), v]⟩ 36 (0, 0))] :: g :: [(b8, .cells ⟨[.string (bs []), .slice none 0 0]⟩ 36 (0, 0))] :: [(lb, .cells ⟨[.int .i64 p]⟩ 3 (0, 0))] :: GG2) a w') ?_ ?_
        · (replace S := S.nilg; replace S := St.permI S 10 rfl [1, 0, 2, 3, 4, 5, 6, 7, 8, 9] (by decide); refine ⟨ar.len, 0, .slice none 0 0, [], [], F, { T with pa := pa1 }, _, q - 1, .nil, by omega, Nat.zero_le _, fun _ _ h => h, OwnS.nil _ _, trivial, rfl, rfl, ⟨rfl, rfl, hTab9, hA1⟩, by omega, by omega, rfl, ?_⟩; refine S.keep ?_; repeat (first | exact trivial | refine ⟨rfl, ?_⟩))
        · (clear S; rintro m a w ⟨k, v, g, xs, F2, T2, GG2, p, pre, rfl, hkl, hF2, hown, hfc, hpre, happ, hR2, hp0, hp2, hwl, S⟩)
          (refine wp_seq_k ?_; intro Kq12 hKq12)
          refine wp_region_lit ?_
          (refine wpl_v S rfl rfl rfl (sv_pure S rfl) ?_; clear S a; intro a S)
          refine wpList_nil ?_
          (refine hKq12 _ _ ?_; try (clear hKq12 Kq12))
          (refine wp_seq_k ?_; intro Kq13 hKq13)
          refine wpc_split S rfl (fun h => ?_) (fun h => ?_)
          · (skip; (try simp only [decide_eq_true_eq, decide_eq_false_iff_not, beq_iff_eq, bne_iff_ne, bne_eq_false_iff_eq, beq_eq_false_iff_ne, ne_eq, Bool.not_eq_true', Bool.not_eq_false', Bool.not_eq_true, Bool.not_eq_false, Bool.not_true, Bool.not_false, Int.ofNat_lt, Int.ofNat_le, Nat.not_lt, Nat.not_le] at h))
            refine wp_skip ?_
            (refine hKq13 _ _ ?_; try (clear hKq13 Kq13))
            (refine wp_seq_k ?_; intro Kq14 hKq14)
            refine wp_block ?_
            (refine wp_seq_k ?_; intro Kq15 hKq15)
            (obtain ⟨x, hx⟩ := Fo.get_lt (l := ar) (k := k) (by omega); obtain ⟨j, hjk, hRj⟩ := hRL.get hx; obtain ⟨b9x, o9x, hao, hck1⟩ := ks_cel (hsl1.mono hF2) hjk; rw [hao] at S; have hjn := hch1.1 j (List.mem_of_getElem? hjk); have hxs := Fo.size_get hx; have hdr := Fo.drop_get hx)
            refine wp_region_lit ?_
            (refine wpl_v S rfl rfl rfl (sv_indexAddrSl S rfl rfl rfl (by first | omega | (simp only [List.length_append, List.length_cons, List.length_nil]; omega))) ?_; clear S a; intro a S)
            first | (refine wpl_v S rfl rfl rfl (sv_loadO S rfl rfl (by rfl)) ?_; clear S a; intro a S) | (refine wpl_v S rfl rfl rfl (sv_loadF S rfl rfl (by assumption)) ?_; clear S a; intro a S) | (refine wpl_v S rfl rfl rfl (sv_loadO S rfl rfl (ini hst)) ?_; clear S a; intro a S) | (refine wpl_v S rfl rfl rfl (sv_loadO S rfl rfl (ins hle9)) ?_; clear S a; intro a S) | (refine wpl_v S rfl rfl rfl (sv_loadO S rfl rfl (hg1 0 _ rfl)) ?_; clear S a; intro a S) | (refine wpl_v S rfl rfl rfl (sv_loadO S rfl rfl (hg1 1 _ rfl)) ?_; clear S a; intro a S) | (refine wpl_v S rfl rfl rfl (sv_loadF S rfl rfl hck1) ?_; clear S a; intro a S)
            (refine wpl_v S rfl rfl rfl (sv_pure S rfl) ?_; clear S a; intro a S)
            refine wpList_nil ?_
            (refine hKq15 _ _ ?_; try (clear hKq15 Kq15))
            (refine wp_seq_k ?_; intro Kq16 hKq16)
            refine wp_region_lit ?_
            (refine wpl_v S rfl rfl rfl (sv_pure S rfl) ?_; clear S a; intro a S)
            (refine wpl_v S rfl rfl rfl (sv_pure S rfl) ?_; clear S a; intro a S)
            (refine wpl_v S rfl rfl rfl (sv_pure S rfl) ?_; clear S a; intro a S)
            (refine wpl_v S rfl rfl rfl (sv_add S rfl rfl rfl (by first | omega | (simp only [List.length_append, List.length_cons, List.length_nil]; omega))) ?_; clear S a; intro a S)
            (refine wpl_v S rfl rfl rfl (sv_pure S rfl) ?_; clear S a; intro a S)
            (refine wpl_call (Gs := [(lb, .cells ⟨[.int .i64 p]⟩ 3 (0, 0))] :: GG2) (Gr := [[(b11, .cells ⟨[.string (bs nm), v]⟩ 36 (0, 0))], g, [(b8, .cells ⟨[.string (bs []), .slice none 0 0]⟩ 36 (0, 0))]]) S rfl rfl rfl rfl rfl rfl (ih F2 T2 GG2 j lb (d + 1) p x.1 x.2 (by omega) (hR2.nd.trans hnd) hR2.tab hR2.abr (by omega) hRj (by omega) (by omega) hp0 hp2) rfl (grp_perm (A := [[(b11, .cells ⟨[.string (bs nm), v]⟩ 36 (0, 0))], g, [(b8, .cells ⟨[.string (bs []), .slice none 0 0]⟩ 36 (0, 0))]])) ?_; clear S a; intro u9 F3 G9 a w hv hF3 S; obtain ⟨T3, GG3, nm3, ao3, q3, c3, rfl, rfl, hR3, hWR⟩ := hv; replace S : St _ _ _ _ _ F3 ([(b11, .cells ⟨[.string (bs nm), v]⟩ 36 (0, 0))] :: g :: [(b8, .cells ⟨[.string (bs []), .slice none 0 0]⟩ 36 (0, 0))] :: [(lb, .cells ⟨[.int .i64 (wholeT x.2 (d + 1) p).2]⟩ 3 (0, 0))] :: GG3) _ _ := St.rotL S)
            (refine wpl_v S rfl rfl rfl (sv_pure S rfl) ?_; clear S a; intro a S)
            (refine wpl_v S rfl rfl rfl (sv_pure S rfl) ?_; clear S a; intro a S)
            (refine wpl_v S rfl rfl rfl (sv_pure S rfl) ?_; clear S a; intro a S)
            (refine wpl_alloc S rfl rfl rfl rfl ?_; clear S a; intro b14 a w S)
            (refine wpl_storeO S rfl rfl rfl rfl rfl (by rfl) (by simp [Value.cells, Value.oneCell', splice]) (by rfl) ?_; clear S; intro w S)
            (refine wpl_v S rfl rfl rfl (sv_pure S rfl) ?_; clear S a; intro a S)
            refine wpList_nil ?_
            (refine hKq16 _ _ ?_; try (clear hKq16 Kq16))
            (refine wp_seq_k ?_; intro Kq17 hKq17)
            (refine wp_seq_k ?_; intro Kq18 hKq18)
            refine wp_region_lit ?_
            (refine wpl_v S rfl rfl rfl (sv_pure S rfl) ?_; clear S a; intro a S)
            (refine wpl_v S rfl rfl rfl (sv_pure S rfl) ?_; clear S a; intro a S)
            refine wpList_nil ?_
            (refine hKq18 _ _ ?_; try (clear hKq18 Kq18))
            refine wpc_split S rfl (fun h => ?_) (fun h => ?_)
            · (skip; (try simp only [decide_eq_true_eq, decide_eq_false_iff_not, beq_iff_eq, bne_iff_ne, bne_eq_false_iff_eq, beq_eq_false_iff_ne, ne_eq, Bool.not_eq_true', Bool.not_eq_false', Bool.not_eq_true, Bool.not_eq_false, Bool.not_true, Bool.not_false, Int.ofNat_lt, Int.ofNat_le, Nat.not_lt, Nat.not_le] at h))
              (refine wp_seq_k ?_; intro Kq19 hKq19)
              refine wp_region_lit ?_
              (refine wpl_v S rfl rfl rfl (sv_build S rfl rfl rfl) ?_; clear S a; intro a S)
              (refine wpl_storeO S rfl rfl rfl rfl rfl (by rfl) (by simp [Value.cells, Value.oneCell', splice]) (by rfl) ?_; clear S; intro w S)
              (refine wpl_v S rfl rfl rfl (sv_pure S rfl) ?_; clear S a; intro a S)
              refine wpList_nil ?_
              (refine hKq19 _ _ ?_; try (clear hKq19 Kq19))
              refine wp_ret ?_
              (have S0 := S; (first | (have h9 := hWR; replace S := S.drop1.drop1.drop1.drop1) | (have hkn : k = ar.len := (by omega); have h9 := hown; replace S := S.drop1; have hle := add_le (G1 := []) S; replace S := St.freeze (G1 := []) S; (simp only [List.nil_append] at S hle); replace S := S.drop1) | (replace S := S.drop1)))
              
              refine fin_ret S (results2 Tryd.results45 (RV.cellO S0 rfl (by rfl)) (RV.tmp S0 rfl)) ?_
              (first | (have hk9 := hWR; have hbad : (wholeT x.2 (d + 1) p).1 = false := (by simpa using h); have e9 : wholeT ar d q = (false, (wholeT x.2 (d + 1) p).2) := (by rw [wholeT_in (by omega), hwl, hdr, wholeL_cons, if_neg (by rw [hbad]; simp)]); rw [e9]; exact ⟨T3, GG3, [], none, 0, 0, rfl, rfl, ⟨hR3.nd.trans hR2.nd, hR3.vs.trans hR2.vs, hR3.tab, hR3.abr⟩, (fun h => by cases h), (fun _ => ⟨rfl, rfl, rfl, rfl⟩)⟩) | (have hk9 := hkn; have e9 : wholeT ar d q = (true, p) := (by rw [wholeT_in (by omega), hwl, Fo.drop_len (by omega)]; rfl); rw [e9]; rw [Fo.drop_len (by omega), Fo.app_nil] at happ; rw [happ] at hfc hpre; exact ⟨T2, GG2, nm, _, _, _, rfl, rfl, ⟨hR2.nd, hR2.vs, TabM.mono hle hR2.tab, hR2.abr⟩, (fun _ => ⟨rfl, FoC.slf hown hfc (by omega) hle (by omega)⟩), (fun h => by cases h)⟩) | (have hneg : A.st (A.rt i) < 0 := (by assumption); obtain ⟨rfl, rfl⟩ : nm = A.le (A.rt i) ∧ ar = .nil := (by rcases hR with ⟨_, h2, h3⟩ | ⟨_, h2, _⟩; exact ⟨h2, h3⟩; omega); have e9 : wholeT .nil d q = (true, q - 1) := (by rw [wholeT_in (by omega)]; rfl); rw [e9]; exact ⟨{ T with pa := pa1 }, _, _, none, 0, 0, rfl, rfl, ⟨rfl, rfl, hTab9, hA1⟩, (fun _ => ⟨rfl, SlF.nil F⟩), (fun h => by cases h)⟩) | (have e9 : wholeT ar d q = (false, q - 1) := wholeT_out (by omega); rw [e9]; exact ⟨T, GG, [], none, 0, 0, rfl, rfl, ⟨rfl, rfl, hTab, hA⟩, (fun h => by cases h), (fun _ => ⟨rfl, rfl, rfl, rfl⟩)⟩) | trace_state)
            · (skip; (try simp only [decide_eq_true_eq, decide_eq_false_iff_not, beq_iff_eq, bne_iff_ne, bne_eq_false_iff_eq, beq_eq_false_iff_ne, ne_eq, Bool.not_eq_true', Bool.not_eq_false', Bool.not_eq_true, Bool.not_eq_false, Bool.not_true, Bool.not_false, Int.ofNat_lt, Int.ofNat_le, Nat.not_lt, Nat.not_le] at h))
              refine wp_skip ?_
              (refine hKq17 _ _ ?_; try (clear hKq17 Kq17))
              refine wp_region_lit ?_
              (refine wpl_v S rfl rfl rfl (sv_fieldAddr S rfl rfl rfl inferInstance rfl) ?_; clear S a; intro a S)
              first | (refine wpl_v S rfl rfl rfl (sv_loadO S rfl rfl (by rfl)) ?_; clear S a; intro a S) | (refine wpl_v S rfl rfl rfl (sv_loadF S rfl rfl (by assumption)) ?_; clear S a; intro a S) | (refine wpl_v S rfl rfl rfl (sv_loadO S rfl rfl (ini hst)) ?_; clear S a; intro a S) | (refine wpl_v S rfl rfl rfl (sv_loadO S rfl rfl (ins hle9)) ?_; clear S a; intro a S) | (refine wpl_v S rfl rfl rfl (sv_loadO S rfl rfl (hg1 0 _ rfl)) ?_; clear S a; intro a S) | (refine wpl_v S rfl rfl rfl (sv_loadO S rfl rfl (hg1 1 _ rfl)) ?_; clear S a; intro a S) | (refine wpl_v S rfl rfl rfl (sv_loadF S rfl rfl hck1) ?_; clear S a; intro a S)
              first | (refine wpl_v S rfl rfl rfl (sv_loadAO S rfl rfl (by rfl)) ?_; clear S a; intro a S) | (refine wpl_v S rfl rfl rfl (sv_loadAF S rfl rfl (by assumption) (by rfl)) ?_; clear S a; intro a S)
              (refine wpl_append S rfl rfl rfl rfl rfl rfl rfl rfl rfl rfl rfl (fun _ => rfl) hown (by rfl) (by simp [Value.cells, splice, splice]) (by simp [Value.cells, Value.oneCell', splice, splice]) rfl (by rfl) (by rfl) rfl (by omega) (by omega) ?_; clear hown S a; intro v u g a w hown S)
              (refine wpl_v S rfl rfl rfl (sv_fieldAddr S rfl rfl rfl inferInstance rfl) ?_; clear S a; intro a S)
              (refine wpl_store1 S rfl rfl rfl rfl rfl hown.oneCell (by first | (simp; done) | (simp [Value.cells]; done) | exact Nat.le_of_ble_eq_true rfl) ?_; clear S; intro w S)
              refine wpList_nil ?_
              (refine hKq14 _ _ ?_; try (clear hKq14 Kq14))
              refine wp_region_lit ?_
              (refine wpl_v S rfl rfl rfl (sv_add S rfl rfl rfl (by first | omega | (simp only [List.length_append, List.length_cons, List.length_nil]; omega))) ?_; clear S a; intro a S)
              (refine wpl_v S rfl rfl rfl (sv_pure S rfl) ?_; clear S a; intro a S)
              refine wpList_nil ?_
              change ∃ m', _ ∧ _
              (have hok : (wholeT x.2 (d + 1) p).1 = true := (by simpa using h); obtain ⟨rfl, hsl3⟩ := hWR.1 hok; have hpp := wholeT_pos hok; have hpl3 := wholeT_le x.2 (d + 1) p; rw [← hao] at S; replace S := S.drop1; refine ⟨ar.len - (k + 1), by omega, k + 1, _, _, _, F3, T3, GG3, _, pre.app (.cons x.1 x.2 .nil), rfl, by omega, fun b o h => hF3 _ _ (hF2 _ _ h), hown, FoC.app (hfc.mono hF3) (FoC.one hsl3), by rw [Fo.len_app, hpre]; rfl, by rw [Fo.app_assoc]; show pre.app (.cons x.1 x.2 (ar.drop (k + 1))) = ar; rw [← hdr]; exact happ, ⟨hR3.nd.trans hR2.nd, hR3.vs.trans hR2.vs, hR3.tab, hR3.abr⟩, hpp, by omega, ?_, ?_⟩; rotate_left 1; (refine S.keep ?_; repeat (first | exact trivial | refine ⟨rfl, ?_⟩)); (rw [hwl, hdr, wholeL_cons, if_pos hok]))
          · (skip; (try simp only [decide_eq_true_eq, decide_eq_false_iff_not, beq_iff_eq, bne_iff_ne, bne_eq_false_iff_eq, beq_eq_false_iff_ne, ne_eq, Bool.not_eq_true', Bool.not_eq_false', Bool.not_eq_true, Bool.not_eq_false, Bool.not_true, Bool.not_false, Int.ofNat_lt, Int.ofNat_le, Nat.not_lt, Nat.not_le] at h))
            refine wp_exit ?_
            (refine hKq10 _ _ ?_; try (clear hKq10 Kq10))
            (refine wp_seq_k ?_; intro Kq14 hKq14)
            (obtain ⟨aoK, capK, rfl, -⟩ := hown.at)
            refine wp_region_lit ?_
            first | (refine wpl_v S rfl rfl rfl (sv_loadAO S rfl rfl (by rfl)) ?_; clear S a; intro a S) | (refine wpl_v S rfl rfl rfl (sv_loadAF S rfl rfl (by assumption) (by rfl)) ?_; clear S a; intro a S)
            (refine wpl_storeO S rfl rfl rfl rfl rfl (by rfl) (by simp [Value.cells, Value.oneCell', splice]) (by rfl) ?_; clear S; intro w S)
            (refine wpl_v S rfl rfl rfl (sv_pure S rfl) ?_; clear S a; intro a S)
            refine wpList_nil ?_
            (refine hKq14 _ _ ?_; try (clear hKq14 Kq14))
            refine wp_ret ?_
            (have S0 := S; (first | (have h9 := hWR; replace S := S.drop1.drop1.drop1.drop1) | (have hkn : k = ar.len := (by omega); have h9 := hown; replace S := S.drop1; have hle := add_le (G1 := []) S; replace S := St.freeze (G1 := []) S; (simp only [List.nil_append] at S hle); replace S := S.drop1) | (replace S := S.drop1)))
            
            refine fin_ret S (results2 Tryd.results45 (RV.cellO S0 rfl (by rfl)) (RV.tmp S0 rfl)) ?_
            (first | (have hk9 := hWR; have hbad : (wholeT x.2 (d + 1) p).1 = false := (by simpa using h); have e9 : wholeT ar d q = (false, (wholeT x.2 (d + 1) p).2) := (by rw [wholeT_in (by omega), hwl, hdr, wholeL_cons, if_neg (by rw [hbad]; simp)]); rw [e9]; exact ⟨T3, GG3, [], none, 0, 0, rfl, rfl, ⟨hR3.nd.trans hR2.nd, hR3.vs.trans hR2.vs, hR3.tab, hR3.abr⟩, (fun h => by cases h), (fun _ => ⟨rfl, rfl, rfl, rfl⟩)⟩) | (have hk9 := hkn; have e9 : wholeT ar d q = (true, p) := (by rw [wholeT_in (by omega), hwl, Fo.drop_len (by omega)]; rfl); rw [e9]; rw [Fo.drop_len (by omega), Fo.app_nil] at happ; rw [happ] at hfc hpre; exact ⟨T2, GG2, nm, _, _, _, rfl, rfl, ⟨hR2.nd, hR2.vs, TabM.mono hle hR2.tab, hR2.abr⟩, (fun _ => ⟨rfl, FoC.slf hown hfc (by omega) hle (by omega)⟩), (fun h => by cases h)⟩) | (have hneg : A.st (A.rt i) < 0 := (by assumption); obtain ⟨rfl, rfl⟩ : nm = A.le (A.rt i) ∧ ar = .nil := (by rcases hR with ⟨_, h2, h3⟩ | ⟨_, h2, _⟩; exact ⟨h2, h3⟩; omega); have e9 : wholeT .nil d q = (true, q - 1) := (by rw [wholeT_in (by omega)]; rfl); rw [e9]; exact ⟨{ T with pa := pa1 }, _, _, none, 0, 0, rfl, rfl, ⟨rfl, rfl, hTab9, hA1⟩, (fun _ => ⟨rfl, SlF.nil F⟩), (fun h => by cases h)⟩) | (have e9 : wholeT ar d q = (false, q - 1) := wholeT_out (by omega); rw [e9]; exact ⟨T, GG, [], none, 0, 0, rfl, rfl, ⟨rfl, rfl, hTab, hA⟩, (fun h => by cases h), (fun _ => ⟨rfl, rfl, rfl, rfl⟩)⟩) | trace_state)
  · (intro h; clear S a; intro a S; (try simp only [decide_eq_true_eq, decide_eq_false_iff_not, beq_iff_eq, bne_iff_ne, bne_eq_false_iff_eq, beq_eq_false_iff_ne, ne_eq, Bool.not_eq_true', Bool.not_eq_false', Bool.not_eq_true, Bool.not_eq_false, Bool.not_true, Bool.not_false, Int.ofNat_lt, Int.ofNat_le, Nat.not_lt, Nat.not_le] at h))
    (refine wpl_skip S rfl rfl rfl rfl rfl ?_; clear S a; intro a S)
    first | (refine wpl_v S rfl rfl rfl (sv_pure S rfl) ?_; clear S a; intro a S) | (refine wpl_v S rfl rfl rfl (sv_pickB S rfl rfl rfl rfl) ?_; clear S a; intro a S)
    refine wpList_nil ?_
    (refine hKq4 _ _ ?_; try (clear hKq4 Kq4))
    refine wpc_true S rfl ?_
    (refine wp_seq_k ?_; intro Kq5 hKq5)
    refine wp_region_lit ?_
    (refine wpl_v S rfl rfl rfl (sv_build S rfl rfl rfl) ?_; clear S a; intro a S)
    (refine wpl_storeO S rfl rfl rfl rfl rfl (by rfl) (by simp [Value.cells, Value.oneCell', splice]) (by rfl) ?_; clear S; intro w S)
    (refine wpl_v S rfl rfl rfl (sv_pure S rfl) ?_; clear S a; intro a S)
    refine wpList_nil ?_
    (refine hKq5 _ _ ?_; try (clear hKq5 Kq5))
    refine wp_ret ?_
    (have S0 := S; (first | (have h9 := hWR; replace S := S.drop1.drop1.drop1.drop1) | (have hkn : k = ar.len := (by omega); have h9 := hown; replace S := S.drop1; have hle := add_le (G1 := []) S; replace S := St.freeze (G1 := []) S; (simp only [List.nil_append] at S hle); replace S := S.drop1) | (replace S := S.drop1)))
    
    refine fin_ret S (results2 Tryd.results45 (RV.cellO S0 rfl (by rfl)) (RV.tmp S0 rfl)) ?_
    (first | (have hk9 := hWR; have hbad : (wholeT x.2 (d + 1) p).1 = false := (by simpa using h); have e9 : wholeT ar d q = (false, (wholeT x.2 (d + 1) p).2) := (by rw [wholeT_in (by omega), hwl, hdr, wholeL_cons, if_neg (by rw [hbad]; simp)]); rw [e9]; exact ⟨T3, GG3, [], none, 0, 0, rfl, rfl, ⟨hR3.nd.trans hR2.nd, hR3.vs.trans hR2.vs, hR3.tab, hR3.abr⟩, (fun h => by cases h), (fun _ => ⟨rfl, rfl, rfl, rfl⟩)⟩) | (have hk9 := hkn; have e9 : wholeT ar d q = (true, p) := (by rw [wholeT_in (by omega), hwl, Fo.drop_len (by omega)]; rfl); rw [e9]; rw [Fo.drop_len (by omega), Fo.app_nil] at happ; rw [happ] at hfc hpre; exact ⟨T2, GG2, nm, _, _, _, rfl, rfl, ⟨hR2.nd, hR2.vs, TabM.mono hle hR2.tab, hR2.abr⟩, (fun _ => ⟨rfl, FoC.slf hown hfc (by omega) hle (by omega)⟩), (fun h => by cases h)⟩) | (have hneg : A.st (A.rt i) < 0 := (by assumption); obtain ⟨rfl, rfl⟩ : nm = A.le (A.rt i) ∧ ar = .nil := (by rcases hR with ⟨_, h2, h3⟩ | ⟨_, h2, _⟩; exact ⟨h2, h3⟩; omega); have e9 : wholeT .nil d q = (true, q - 1) := (by rw [wholeT_in (by omega)]; rfl); rw [e9]; exact ⟨{ T with pa := pa1 }, _, _, none, 0, 0, rfl, rfl, ⟨rfl, rfl, hTab9, hA1⟩, (fun _ => ⟨rfl, SlF.nil F⟩), (fun h => by cases h)⟩) | (have e9 : wholeT ar d q = (false, q - 1) := wholeT_out (by omega); rw [e9]; exact ⟨T, GG, [], none, 0, 0, rfl, rfl, ⟨rfl, rfl, hTab, hA⟩, (fun h => by cases h), (fun _ => ⟨rfl, rfl, rfl, rfl⟩)⟩) | trace_state)
end Go.Proofs.YtcjnmehpkcblfaaDoor
