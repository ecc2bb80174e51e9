/- CoiExtends: the run of any circuit by any run of what is reduced is as the document says, and breaks the property if that does. No conditions. -/
import Derived.Test.YteidpnpbfagaeaaGreatRows
import Derived.Lib.SmallJoins
import Derived.KernelRfl
import Derived.WalkKit
import Derived.ProofKit
import Derived.Deep.Quiet
import Derived.Deep.LoopGhost
import Derived.StillTail
import Derived.Test.YteidpnpbfagaeaaGreatProg
import Derived.OpenShut
import Derived.ShutString
import Derived.ChangeOld
import Derived.Deep.Slices
import Derived.SizedLaws
import Derived.Laws.StructEq
import Derived.Laws.Externs
import Derived.MapKept
import Derived.Laws.CopyRow
import Derived.Laws.IdiomCopy
import Derived.Test.YteidpnpbfagaeaaGreatCoiExtendsP6
set_option linter.unusedVariables false
set_option linter.unusedSimpArgs false
set_option maxRecDepth 20000
set_option maxHeartbeats 32000000
namespace Go.Proofs.YteidpnpbfagaeaaGreat
open Go Go.Lt Go.RowKit

theorem r42_to (c : CirT) (Y : Int) (hg : GoodC' c) (hz : SzC c 100000) (l : Int) (hl : KnL c l) (aO : Option Addr) (cO : Nat) (w : World) (R : Row 1 encI w aO (outF c (redF c Y).1)) :
  Still Tryz.prog 36 [.slice aO (outF c (redF c Y).1).length cO, .int .i64 l] w (.int .i64 (redL c Y l)) := by
 obtain ⟨z, h1, h2, h3, h4⟩ := out_lit hg (red_ownOk (Y := Y) hg hz) hl
 have h5 := r42_at aO cO (outF c (redF c Y).1) l z w R hl.1 (by have h6 := knL_max hg hl; have h7 := hg.max; omega) h1 ⟨h2, by omega⟩
 rw [h4] at h5
 exact h5
theorem r42_now (c : CirT) (Y : Int) (hg : GoodC' c) (hz : SzC c 100000) (x : Int) (hx : x ∈ wantW c Y) (a : Option Addr) (cap : Nat) (w : World) (R : Row 1 encI w a (atT (redF c Y).2 (keepP c Y) ((redF c Y).2.length + 1))) :
  Still Tryz.prog 36 [.slice a (atT (redF c Y).2 (keepP c Y) ((redF c Y).2.length + 1)).length cap, .int .i64 x] w (.int .i64 (nowL c Y x)) := by
 have hh := want_has hg hx
 have hc := keepL hh hx
 have hl := red_len (prop := Y) hg hz
 unfold hasL at hh
 have hev := atv_even (keepP c Y) hc (by omega)
 have hget := atT_get (P := keepP c Y) (n := (redF c Y).2) (k := (redF c Y).2.length + 1) (u := (x / 2).toNat) (by omega) (by omega)
 have h5 := r42_at a cap _ x _ w R hh.1 (by omega) hget ⟨hev.1, by omega⟩
 have e : litI (atT (redF c Y).2 (keepP c Y) ((redF c Y).2.length + 1)) x = nowL c Y x := by
  rw [litI_some hget, xor_two hev.1 hev.2.1 (by omega)]; rfl
 rw [e] at h5; exact h5
theorem r42_Reduce (c : Circ) (Y : Int) (w : World) (hC : CAt w c) (hg : GoodC' c.t) (hz : SzC c.t 100000) :
  Lt.Spec Tryz.prog 12 [c.val, .int .i64 Y] w (fun v w' => Ext w w' /\ ∃ (d : Circ) (v1 v2 : Value), v = .tuple #[d.val, v1, v2] /\ d.t = redC c.t Y /\ CAt w' d) := by
 have z1 : c.ins.2.2.length <= 100000 := hz.1
 have z2 : c.lat.2.2.length <= 100000 := hz.2.1
 have z5 : c.cons.2.2.length <= 100000 := hz.2.2.2.2.1
 have hlaL : (laV c.t Y).length <= c.lat.2.2.length := sel_le _ _
 have hinL : (inV c.t Y).length <= c.ins.2.2.length := sel_le _ _
 obtain ⟨V, hV⟩ : ∃ V, V = redF c.t Y := ⟨_, rfl⟩
 refine Spec.of _ Tryz.func12 rfl Tryz.ntmps12 (by kernel_rfl) rfl ?_
 repeat' (first | (show W _ _ (.region 2 _ _) _ _ _; apply W.regionGX (.fl true 3 (.fl true 4 (.fl false 0 (.fl false 1 (.br 2 (.br 5 (.fl true 6 (.fl true 7 (.fl true 8 (.fl true 9 (.fl true 10 .done))))) .stop) .stop))))) [1, 2, 5, 6, 7, 8] tMix; kernel_rfl) | (apply WL.box; (iterate 3 exact rfl); intro gc wc hb hge hc hxc; have hcc := hc; obtain ⟨h1, h2, h3, _⟩ := hc; (have hcells := hcc)) | (show WL _ _ _ (⟨some 4, .alloc _, _, _, _, _⟩ :: _) _ _ _; apply WL.alloc tOk; (iterate 3 exact rfl); intro g4 w2 hb4 hge4 hx2; have hc2 := Cells.ext hx2 hcells) | (apply WL.call (f := 33); (iterate 4 exact rfl); exact r42_Needs c Y _ (hC.ext extA) hg hz; rintro v' w3 ⟨hx3, aL, cL, aI, cI, rfl, hOL, hOI⟩; have hc3 : Cells w3 gc 0 c.vals := Cells.ext hx3 hc2; have RL3 := hOL.row eIk; have RI3 := hOI.row eIk; have hC3 := hC.ext ((hxc.trans hx2).trans hx3)) | (apply WL.call (f := 35); (iterate 4 exact rfl); exact r42_Stuck c _ (hC3.ext extA) hg hz; rintro v' w4 ⟨hx4, aS, cS, rfl, hOS⟩) | (apply WL.call (f := 34); (iterate 4 exact rfl); exact r42_Fold c (skV c.t) (laV c.t Y) (inV c.t Y) aS aL aI cS cL cI _ (hC3.ext extA) hg hz (need_ok hg Y) (by omega) (by omega) ((hOS.row eIk).ext extA) (RL3.ext extA) (RI3.ext extA); rintro v' w5 ⟨hx5, gs, ar, caps, aO, cO, rfl, ⟨w0s, hX0s, hSs⟩, hOO⟩; have RO5 := hOO.row eIk) | (apply WL.lit (len := 0) tOk; (iterate 6 exact rfl); kernel_rfl; exact rfl; intro gb w' hb hge hc hx; have hO0 := Own.ofB0 (enc := encI) (s := 1) hb hge) | (first | (apply SX.done; intro w' hx) | (apply SX.fl0; exact rfl) | (apply SX.fl1; exact rfl; exact extA) | (apply SX.br1; exact rfl; intro w' hx)) | (first | apply FL.nilX | (apply FL.loadAE tOk; (iterate 5 exact rfl); assumption; exact rfl)) | refine FL.au (k := ?_) | (apply Z.sxE; exact extA) | (first | apply WL.nil | refine WL.au (k := ?_)) | apply Z.tn | (first | apply W.seq | apply W.region | apply W.block))
 obtain ⟨w6, rfl⟩ : ∃ x, x = w' := ⟨_, rfl⟩; obtain ⟨hx6, rfl⟩ : ∃ x, x = hx := ⟨_, rfl⟩
 have hX35 : Ext w3 w5 := extA
 have hXw3 : Ext w w3 := (hxc.trans hx2).trans hx3
 have hXw5 : Ext w w5 := hXw3.trans hX35
 have hc5 := Cells.ext hX35 hc3
 have hC5 := hC3.ext hX35
 have RL5 := RL3.ext hX35
 have RI5 := RI3.ext hX35
 have hX56 : Ext w5 w6 := extA
 have hO6 : Own 1 encI 3 w5.heap.size w6 (some ⟨gb, 0, none⟩) 0 ((nextW c.t Y).take 0) := hO0.base (Below.size (show Ext w5 _ from extA))
 have hnwl : (nextW c.t Y).length = (laV c.t Y).length := nextW_len
 refine W.loopO (laV c.t Y).length (fun k b cp w' => k <= (laV c.t Y).length /\ Ext w5 w' /\ Own 1 encI 3 w5.heap.size w' b cp ((nextW c.t Y).take k))
  (fun k b cp => [(1, .int .i64 Y), (2, .pointer (some ⟨gc, 0, none⟩)), (4, .pointer (some ⟨g4, 0, none⟩)), (7, .slice aL (laV c.t Y).length cL), (8, .slice aI (inV c.t Y).length cI), (9, .pointer (some ⟨gs, 0, none⟩)), (10, .slice aO (outF c.t (redF c.t Y).1).length cO), (12, .int .i64 (((inV c.t Y).length : Int) + ((laV c.t Y).length : Int))), (11, .slice b ((nextW c.t Y).take k).length cp), (13, .int .i64 k)]) (some ⟨gb, 0, none⟩) 0 ⟨Nat.zero_le _, hX56, hO6⟩ (fun k a cp w' h => h.1) (by repeat' first | exact trivial | (refine And.intro ?_ ?_) | exact rfl) ?_
 clear hO0 hO6 hc2 hcells hc3 RL3 RI3
 rintro k bW cW wk ⟨hk, hXk, hOk⟩
 have htl : ((nextW c.t Y).take k).length = k := by rw [List.length_take]; omega
 by_cases hlt : k < (laV c.t Y).length
 ·obtain ⟨j, hj⟩ := getI (laV c.t Y) hlt
  have hjb := sel_bd j (List.mem_of_getElem? hj)
  have hjb2 : j < (c.lat.2.2.length : Int) := hjb.2
  obtain ⟨t, ht⟩ := getI c.lat.2.2 (show j.toNat < c.lat.2.2.length by omega)
  have eD : latD c.t j = t := gDo ht
  have hkn := kLu hg (used_next (c := c.t) (List.mem_of_getElem? ht))
  have esk : (nextW c.t Y)[k]? = some (redL c.t Y t.2.1) := by unfold nextW; rw [List.getElem?_map, hj, <- eD]; rfl
  have eT := tkS esk
  have RLt := hC5.lat.row
  obtain ⟨_, u1, u2, _⟩ := id hc5
  repeat' (first | (apply W.cKT; exact rfl; exact dTt (by omega)) | (show W _ _ (.region 7 _ _) _ _ _; apply W.regionG (.fl true 0 (.fl true 1 (.fl true 2 (.fl true 4 (.fl true 5 (.fl true 6 (.fl false 3 (.fl false 7 (.fl true 8 (.fl true 9 (.fl false 10 (.br 11 (.br 12 (.br 13 (.fl true 14 .done) .stop) .stop) .stop)))))))))))) [7, 9, 10, 11, 12, 13] (Ext w5) tMix; kernel_rfl) | (apply WL.callS (f := 36); (iterate 4 exact rfl); exact r42_to c.t Y hg hz t.2.1 hkn aO cO _ (RO5.ext extA)) | (apply WL.lit tOk; (iterate 6 exact rfl); kernel_rfl; exact rfl; intro gb wL hb hge hc hxL) | (apply WL.ap1 (z := (redL c.t Y t.2.1)) tOk eIk; (iterate 10 exact rfl); assumption; exact extA; exact rfl; assumption; exact rfl; exact rfl; exact extA; omega; intro a' cap' w' hO hX' hU hF) | (first | apply WL.nil | refine WL.au (k := ?_)) | (first | apply SG.done | (apply SG.fl0; exact rfl) | (apply SG.fl1; exact rfl; (focus ((intro m; first | assumption | (apply Ext.at; exact extA) | apply But.of_at; first | exact But.upd (by assumption) | exact But.ext extA | (refine But.trans ?_ (But.upd (by assumption)); exact But.ext extA) | exact But.at _ _ _); done))) | (apply SG.br1; exact rfl)) | (first | (apply FL.loadE tOk; (iterate 5 exact rfl); assumption) | (apply FL.indexE tOk; (iterate 8 exact rfl); assumption; exact rfl; omega; assumption; intro b off h; have hcc := h; first | (obtain ⟨h1, h2, h3, h4, h5, h6, _⟩ := h) | (obtain ⟨h1, h2, h3, _⟩ := h) | (obtain ⟨h1, h2, _⟩ := h) | (obtain ⟨h1, _⟩ := h))) | (first | apply FL.nilS | refine FL.au (k := ?_)) | (apply Z.sgE; (focus ((intro m; first | assumption | (apply Ext.at; exact extA) | apply But.of_at; first | exact But.upd (by assumption) | exact But.ext extA | (refine But.trans ?_ (But.upd (by assumption)); exact But.ext extA) | exact But.at _ _ _); done))) | (first | apply Z.tn | apply Z.bkn) | (first | apply W.seq | apply W.region | apply W.block | apply W.skip))
  all_goals exact Z.agO a' cap' ⟨by omega, extA, by rw [eT]; exact hO.ext extA⟩ (by repeat' first | exact trivial | (refine And.intro ?_ ?_) | exact rfl | (rw [eT]; exact rfl))
 obtain rfl : k = (laV c.t Y).length := by omega
 have e1 : (nextW c.t Y).take (laV c.t Y).length = nextW c.t Y := by rw [<- hnwl, List.take_length]
 rw [e1] at hOk htl ⊢
 have hkb := bad_kn (c := c.t) hg Y
 repeat' (first | (apply W.cKF; exact rfl; exact dFf (by omega)) | (apply WL.callP (f := 37); (iterate 4 exact rfl); exact r42_bad c Y _ (hC5.ext (hXk.trans extA)); intro w' hx) | (apply WL.callS (f := 36); (iterate 4 exact rfl); exact r42_to c.t Y hg hz _ hkb aO cO _ (RO5.ext (hXk.trans extA))) | (apply WL.lit tOk; (iterate 6 exact rfl); kernel_rfl; exact rfl; intro gb wL hb hge hc hxL) | (apply WL.ap1 (z := (redL c.t Y (badL c.t Y))) tOk eIk; (iterate 10 exact rfl); assumption; exact extA; exact rfl; assumption; exact rfl; exact rfl; exact extA; omega; intro a' cap' w' hO hX' hU hF) | (first | apply WL.nil | refine WL.au (k := ?_)) | (first | apply Z.tn | apply Z.tnx | apply Z.bkx) | (first | apply W.seq | apply W.region | apply W.block | apply W.exit))
 obtain ⟨wb, rfl⟩ : ∃ x, x = w' := ⟨_, rfl⟩; obtain ⟨hOb, rfl⟩ : ∃ x, x = hO := ⟨_, rfl⟩; obtain ⟨hXb, rfl⟩ : ∃ x, x = hX' := ⟨_, rfl⟩; obtain ⟨bB, rfl⟩ : ∃ x, x = a' := ⟨_, rfl⟩; obtain ⟨cB, rfl⟩ : ∃ x, x = cap' := ⟨_, rfl⟩
 have hXb' : Ext w5 wb := hXb
 have hOb0 : Own 1 encI 3 w5.heap.size wb bB cB (nextW c.t Y ++ redL c.t Y (badL c.t Y) :: (c.cons.2.2.take 0).map (redL c.t Y)) := hOb
 have hlb : (nextW c.t Y ++ [redL c.t Y (badL c.t Y)]).length = (laV c.t Y).length + 1 := by rw [List.length_append, hnwl]; rfl
 have hlb2 : (nextW c.t Y ++ redL c.t Y (badL c.t Y) :: (c.cons.2.2.take 0).map (redL c.t Y)).length = (nextW c.t Y ++ [redL c.t Y (badL c.t Y)]).length := rfl
 refine W.loopO c.cons.2.2.length (fun k b cp w' => k <= c.cons.2.2.length /\ Ext w5 w' /\ Own 1 encI 3 w5.heap.size w' b cp (nextW c.t Y ++ redL c.t Y (badL c.t Y) :: (c.cons.2.2.take k).map (redL c.t Y)))
  (fun k b cp => [(2, .pointer (some ⟨gc, 0, none⟩)), (4, .pointer (some ⟨g4, 0, none⟩)), (7, .slice aL (laV c.t Y).length cL), (8, .slice aI (inV c.t Y).length cI), (9, .pointer (some ⟨gs, 0, none⟩)), (10, .slice aO (outF c.t (redF c.t Y).1).length cO), (12, .int .i64 (((inV c.t Y).length : Int) + ((laV c.t Y).length : Int))), (11, .slice b (nextW c.t Y ++ redL c.t Y (badL c.t Y) :: (c.cons.2.2.take k).map (redL c.t Y)).length cp), (14, .int .i64 k)]) bB cB ⟨Nat.zero_le _, hXb', hOb0⟩ (fun k a cp w' h => h.1) (by repeat' first | exact trivial | (refine And.intro ?_ ?_) | exact rfl | (rw [hlb2]; exact rfl)) ?_
 clear hOb0 hOb hOk htl
 rintro k bW cW wk ⟨hk, hXk, hOk⟩
 have htl : (nextW c.t Y ++ redL c.t Y (badL c.t Y) :: (c.cons.2.2.take k).map (redL c.t Y)).length = (laV c.t Y).length + 1 + k := by rw [List.length_append, hnwl, List.length_cons, List.length_map, List.length_take]; omega
 obtain ⟨_, u1, u2, _, _, u5, _⟩ := Cells.ext hXk hc5
 by_cases hlt : k < c.cons.2.2.length
 ·obtain ⟨l, hl⟩ := getI c.cons.2.2 hlt
  have RCk := (hC5.ext hXk).cons.row
  have hkl := kLu hg (used_con (c := c.t) (List.mem_of_getElem? hl))
  have eT : (nextW c.t Y ++ redL c.t Y (badL c.t Y) :: (c.cons.2.2.take (k + 1)).map (redL c.t Y)) = (nextW c.t Y ++ redL c.t Y (badL c.t Y) :: (c.cons.2.2.take k).map (redL c.t Y)) ++ [redL c.t Y l] := by rw [tkS hl, List.map_append]; simp
  repeat' (first | (apply W.cKT; exact rfl; exact dTt (by omega)) | (apply WL.callS (f := 36); (iterate 4 exact rfl); exact r42_to c.t Y hg hz l hkl aO cO _ (RO5.ext hXk)) | (apply WL.lit tOk; (iterate 6 exact rfl); kernel_rfl; exact rfl; intro gb w' hb hge hc hx) | (apply WL.ap1 (z := (redL c.t Y l)) tOk eIk; (iterate 10 exact rfl); assumption; exact extA; exact rfl; assumption; exact rfl; exact rfl; exact extA; omega; intro a' cap' w' hO hX' hU hF) | (first | apply WL.nil | refine WL.au (k := ?_) | (apply WL.index tOk; (iterate 8 exact rfl); assumption; exact extA; exact rfl; omega; assumption; intro b off h; have hcc := h; first | (obtain ⟨h1, h2, h3, h4, h5, h6, _⟩ := h) | (obtain ⟨h1, h2, h3, _⟩ := h) | (obtain ⟨h1, h2, _⟩ := h) | (obtain ⟨h1, _⟩ := h))) | (first | apply Z.tn | apply Z.bkn) | (first | apply W.seq | apply W.region | apply W.block | apply W.skip))
  exact Z.agO a' cap' ⟨by omega, hX', by rw [eT]; exact hO⟩ (by repeat' first | exact trivial | (refine And.intro ?_ ?_) | exact rfl | (rw [eT]; exact rfl))
 obtain rfl : k = c.cons.2.2.length := by omega
 obtain ⟨wt, hwt⟩ : ∃ wt, wt = wantW c.t Y := ⟨_, rfl⟩
 have ewt : (nextW c.t Y ++ redL c.t Y (badL c.t Y) :: (c.cons.2.2.take c.cons.2.2.length).map (redL c.t Y)) = wt := by rw [List.take_length, hwt]; rfl
 rw [ewt] at hOk htl ⊢
 have Rw := hOk.row eIk
 have nw := hOk.nCp
 repeat' (first | (apply W.cKF; exact rfl; exact dFf (by omega)) | (show WL _ _ _ (⟨some 93, _, _, _, _, _⟩ :: _) _ _ _; apply WL.lit (len := 0) tOk; (iterate 6 exact rfl); kernel_rfl; exact rfl; intro gL wL hbL hgeL hcL hxL) | (show WL _ _ _ (⟨some 95, _, _, _, _, _⟩ :: _) _ _ _; apply WL.append0 (B := wk.heap.size) tOk eIk; (iterate 10 exact rfl); exact hbL; exact hgeL; exact Ext.refl _; exact Rw; exact hxL; exact rfl; exact nw; omega; intro aK cK wK hOK hxK hfK) | (first | apply WL.nil | refine WL.au (k := ?_)) | (first | apply Z.tn | apply Z.tnx | apply Z.bkx) | (first | apply W.seq | apply W.region | apply W.block | apply W.exit))
 have hX5K : Ext w5 wK := hXk.trans (hxL.trans hxK)
 have hXkK : Ext wk wK := hxL.trans hxK
 have hfirst : firstW c.t Y = (inV c.t Y).length + (laV c.t Y).length := rfl
 have hev0 : wt ++ evenL 0 0 = wt := by simp [evenL]
 have hOK0 : Own 1 encI 3 wk.heap.size wK aK cK (wt ++ evenL 0 0) := by rw [hev0]; exact hOK
 have one0 : (1 : Int) = ((0 : Nat) : Int) + 1 := rfl
 refine W.loopO (firstW c.t Y) (fun k b cp w' => k <= firstW c.t Y /\ Ext wk w' /\ Own 1 encI 3 wk.heap.size w' b cp (wt ++ evenL 0 k))
  (fun k b cp => [(2, .pointer (some ⟨gc, 0, none⟩)), (4, .pointer (some ⟨g4, 0, none⟩)), (7, .slice aL (laV c.t Y).length cL), (8, .slice aI (inV c.t Y).length cI), (9, .pointer (some ⟨gs, 0, none⟩)), (10, .slice aO (outF c.t (redF c.t Y).1).length cO), (12, .int .i64 (((inV c.t Y).length : Int) + ((laV c.t Y).length : Int))), (11, .slice bW wt.length cW), (15, .slice b (wt ++ evenL 0 k).length cp), (16, .int .i64 ((k : Int) + 1))]) aK cK ⟨Nat.zero_le _, hXkK, hOK0⟩ (fun k a cp w' h => h.1) (by repeat' first | exact trivial | (refine And.intro ?_ ?_) | exact rfl | (rw [hev0]; exact rfl)) ?_
 clear hOK0 hOK u1 u2 u5
 rintro k bK cK2 wm ⟨hk, hXm, hOm⟩
 have hkl : (wt ++ evenL 0 k).length = wt.length + k := by rw [List.length_append, evenL_len]
 by_cases hlt : k < firstW c.t Y
 ·have eT : wt ++ evenL 0 (k + 1) = wt ++ evenL 0 k ++ [2 * ((k : Int) + 1)] := by rw [evenL_succ, Nat.zero_add, List.append_assoc]
  have es : (k : Int) + 1 + 1 = ((k + 1 : Nat) : Int) + 1 := by omega
  repeat' (first | (apply W.cKT; exact rfl; exact dTt (by omega)) | (apply WL.lit tOk; (iterate 6 exact rfl); kernel_rfl; exact rfl; intro gb w' hb hge hc hx) | (apply WL.ap1 (z := (2 * ((k : Int) + 1))) tOk eIk; (iterate 10 exact rfl); assumption; exact extA; exact rfl; assumption; exact rfl; exact rfl; exact extA; omega; intro a' cap' w' hO hX' hU hF) | (first | apply WL.nil | refine WL.au (k := ?_)) | (first | apply Z.tn | apply Z.bkn) | (first | apply W.seq | apply W.region | apply W.block | apply W.skip))
  exact Z.agO a' cap' ⟨by omega, hX', by rw [eT]; exact hO⟩ (by repeat' first | exact trivial | (refine And.intro ?_ ?_) | exact rfl | (rw [eT]; exact rfl) | (rw [es]; exact rfl))
 obtain rfl : k = firstW c.t Y := by omega
 have eK : wt ++ evenL 0 (firstW c.t Y) = keepW c.t Y := by rw [hwt]; rfl
 rw [eK] at hOm hkl ⊢
 have RKI := hOm.row eIk
 have hX5m : Ext w5 wm := hXk.trans hXm
 have hSw := hSs.ext hX5m
 obtain ⟨s0, _⟩ := cHp (hSw.cell (i := 0) (gb := gs) rfl)
 have RNm : Row 2 encN wm ar (redF c.t Y).2 := Own.row encN_ok (hSw.row (i := 1) rfl)
 have hgn : GNt (redF c.t Y).2 := (fold_inv hg (need_ok hg Y)).2.2.2.2.good
 have hrl := red_len (prop := Y) hg hz
 have hli : ∀ x ∈ keepW c.t Y, inI64 x := fun x hx => by
  rcases List.mem_append.1 hx with h | h
  ·have h9 := want_has hg h
   unfold hasL at h9; unfold inI64; omega
  ·have h9 := evenL_mem.1 h
   have h10 : firstW c.t Y <= 200000 := by omega
   unfold inI64; omega
 obtain ⟨CW, hCW⟩ : ∃ CW, CW = cutW c.t Y := ⟨_, rfl⟩
 obtain ⟨AT, hAT⟩ : ∃ AT, AT = atT (redF c.t Y).2 (keepP c.t Y) ((redF c.t Y).2.length + 1) := ⟨_, rfl⟩
 have hcut : Lt.Spec Tryz.prog 38 [.slice ar (redF c.t Y).2.length caps, .slice bK (keepW c.t Y).length cK2] wm (IsFresh2 2 encN 84 1 encI 3 wm CW AT) := by
  rw [hCW, hAT]; exact ref08_Cut ar bK caps cK2 _ _ wm RNm RKI hgn (by omega) hli
 repeat' (first | (apply W.cKF; exact rfl; exact dFf (by omega)) | (apply WL.nilc; (iterate 3 exact rfl)) | (apply WL.call (f := 38); (iterate 4 exact rfl); exact hcut; rintro v' w7 ⟨hx7, aN, cN, aT, cT, rfl, hON, hOT⟩) | (apply WL.alloc tOk; (iterate 3 exact rfl); intro gd w8 hb8 hge8 hx8) | (show WL _ _ _ (⟨_, .build 27 _, _, _, _, _⟩ :: _) _ _ _; apply WL.build (cs := [.int .i64 (CW.length : Nat), .slice none 0 0, .slice none 0 0, .slice none 0 0, .slice none 0 0, .slice none 0 0, .slice none 0 0, .slice none 0 0, .string ⟨#[]⟩]) tOk; (iterate 6 exact rfl); kernel_rfl; kernel_rfl) | (apply WL.storeB (w0 := w7) tOk; (iterate 4 exact rfl); assumption; exact extA; (iterate 3 exact rfl); exact extA; assumption; intro w9 hb9 hc hX9 hU; have hcc := hc; obtain ⟨h1, h2, _⟩ := hc) | (first | apply WL.nil | refine WL.au (k := ?_)) | (first | apply Z.tn | apply Z.tnx | apply Z.bkx) | (first | apply W.seq | apply W.region | apply W.block | apply W.exit))
 have hX5w7 : Ext w5 w7 := hX5m.trans hx7
 have RN7 : Row 2 encN w7 aN CW := hON.row encN_ok
 have RT7 : Row 1 encI w7 aT AT := hOT.row eIk
 have RW7 : Row 1 encI w7 bW wt := Rw.ext (hXm.trans hx7)
 have RL7 := RL5.ext hX5w7
 have RI7 := RI5.ext hX5w7
 have hc7 : Cells w7 gc 0 c.vals := Cells.ext hX5w7 hc5
 have hC7 := hC5.ext hX5w7
 have hXww7 : Ext w w7 := hXw5.trans hX5w7
 have nilO : ∀ {α : Type} (s : Nat) (enc : α -> List Value) (el : TypeId) (v : World), Own s enc el w7.heap.size v none 0 [] := fun _ _ _ _ => Own.nil
 have hS0 : Lt.Sep w7.heap.size w9 (dP w7.heap.size gd (CW.length : Nat) none 0 (evenL 0 0) none 0 [] none 0 0 none 0 [] none 0 []) :=
  Sep.newRow (Sep.newRow (Sep.newRow (Sep.newRow (Sep.newCell (Sep.none' (B := w7.heap.size) (w := w7)) hX9 hb9 hge8 (Nat.le_refl _)) (Ext.refl _) Own.nil (fun k hk => by cases hk) (Below.size hX9)) (Ext.refl _) Own.nil (fun k hk => by cases hk) (Below.size hX9)) (Ext.refl _) Own.nil (fun k hk => by cases hk) (Below.size hX9)) (Ext.refl _) Own.nil (fun k hk => by cases hk) (Below.size hX9)
 have hgd : w7.heap.size <= gd := (hS0.lt (i := 4) rfl rfl).1
 have hX79 : Ext w7 w9 := hX9
 clear hU hcc h1 h2 hb8 hb9 hb
 refine W.loopW (inV c.t Y).length (fun k w' => k <= (inV c.t Y).length /\ Ext w7 w' /\ ∃ ai ci, Lt.Sep w7.heap.size w' (dP w7.heap.size gd (CW.length : Nat) ai ci (evenL 0 k) none 0 [] none 0 0 none 0 [] none 0 []))
  (fun k => [(2, .pointer (some ⟨gc, 0, none⟩)), (4, .pointer (some ⟨g4, 0, none⟩)), (7, .slice aL (laV c.t Y).length cL), (8, .slice aI (inV c.t Y).length cI), (11, .slice bW wt.length cW), (12, .int .i64 (((inV c.t Y).length : Int) + ((laV c.t Y).length : Int))), (17, .slice aN CW.length cN), (18, .slice aT AT.length cT), (19, .pointer (some ⟨gd, 0, none⟩)), (20, .int .i64 ((k : Int) + 1))]) ⟨Nat.zero_le _, hX79, none, 0, hS0⟩ (fun k w' h => h.1) (by repeat' first | exact trivial | (refine And.intro ?_ ?_) | exact rfl) ?_
 clear hS0 hX79
 rintro k wq ⟨hk, hXq, ai, ci, hS⟩
 have hel := evenL_len 0 k
 by_cases hlt : k < (inV c.t Y).length
 ·have eT : evenL 0 (k + 1) = evenL 0 k ++ [2 * ((k : Int) + 1)] := by rw [evenL_succ, Nat.zero_add]
  have es : (k : Int) + 1 + 1 = ((k + 1 : Nat) : Int) + 1 := by omega
  have hRg := hS.row (i := 0) rfl
  have hC4 := hS.cell (i := 4) rfl
  obtain ⟨n0, n1, n2, _⟩ := cHp (hS.cell (i := 4) rfl)
  repeat' (first | (apply W.cKT; exact rfl; exact dTt (by omega)) | (apply WL.lit tOk; (iterate 6 exact rfl); kernel_rfl; exact rfl; intro gb w' hb hge hc hx) | (apply WL.ap1 (z := (2 * ((k : Int) + 1))) tOk eIk; (iterate 10 exact rfl); assumption; exact extA; exact rfl; assumption; exact rfl; exact rfl; exact extA; omega; intro aZ cZ wA hO hXA hU hF; (have hSA := Sep.uRw (i := 0) rfl hU hO hF hS extA (Below.size (hXq.trans extA)); have hCA := hSA.cell (i := 4) rfl)) | (apply WL.storeF (w0 := w7) tOk; (iterate 4 exact rfl); exact hCA; exact Ext.refl _; (iterate 4 exact rfl); exact hXA; exact hgd; intro w' hb hX' hU; have hSB := Sep.uCl (i := 4) rfl hU hb hSA (Ext.refl _) (Below.size hXA)) | (first | apply WL.nil | refine WL.au (k := ?_)) | (first | apply Z.tn | apply Z.bkn) | (first | apply W.seq | apply W.region | apply W.block | apply W.skip))
  exact Z.agW ⟨by omega, hX', aZ, cZ, by rw [eT]; exact hSB⟩ (by repeat' first | exact trivial | (refine And.intro ?_ ?_) | exact rfl | (rw [eT]; exact rfl) | (rw [es]; exact rfl))
 obtain rfl : k = (inV c.t Y).length := by omega
 have hnow : ∀ x ∈ wt, ∀ w9 : World, Ext w7 w9 -> Still Tryz.prog 36 [.slice aT AT.length cT, .int .i64 x] w9 (.int .i64 (nowL c.t Y x)) := fun x hx w9 h9 => by
  have h := r42_now c.t Y hg hz x (by rw [<- hwt]; exact hx) aT cT w9 (by rw [<- hAT]; exact RT7.ext h9)
  rw [<- hAT] at h; exact h
 obtain ⟨LL, hLL⟩ : ∃ LL, LL = latsG (inV c.t Y).length ((nextW c.t Y).map (nowL c.t Y)) (resW c.t Y) := ⟨_, rfl⟩
 have hLLl : LL.length = (laV c.t Y).length := by rw [hLL, latsG_len, List.length_map, hnwl]
 repeat' (first | (apply W.cKF; exact rfl; exact dFf (by omega)) | (first | apply WL.nil | refine WL.au (k := ?_)) | (first | apply Z.tn | apply Z.tnx | apply Z.bkx) | (first | apply W.seq | apply W.region | apply W.block | apply W.exit))
 refine W.loopW (laV c.t Y).length (fun k w' => k <= (laV c.t Y).length /\ Ext w7 w' /\ ∃ al cl, Lt.Sep w7.heap.size w' (dP w7.heap.size gd (CW.length : Nat) ai ci (evenL 0 (inV c.t Y).length) al cl (LL.take k) none 0 0 none 0 [] none 0 []))
  (fun k => [(2, .pointer (some ⟨gc, 0, none⟩)), (4, .pointer (some ⟨g4, 0, none⟩)), (7, .slice aL (laV c.t Y).length cL), (8, .slice aI (inV c.t Y).length cI), (11, .slice bW wt.length cW), (12, .int .i64 (((inV c.t Y).length : Int) + ((laV c.t Y).length : Int))), (17, .slice aN CW.length cN), (18, .slice aT AT.length cT), (19, .pointer (some ⟨gd, 0, none⟩)), (21, .int .i64 k)]) ⟨Nat.zero_le _, hXq, none, 0, hS⟩ (fun k w' h => h.1) (by repeat' first | exact trivial | (refine And.intro ?_ ?_) | exact rfl) ?_
 clear hS hXq hel
 rintro k wq ⟨hk, hXq, al, cl, hS⟩
 have hel := evenL_len 0 (inV c.t Y).length
 have htl : (LL.take k).length = k := by rw [List.length_take]; omega
 by_cases hlt : k < (laV c.t Y).length
 ·obtain ⟨j, hj⟩ := getI (laV c.t Y) hlt
  have hjb := sel_bd j (List.mem_of_getElem? hj)
  have hjb2 : j < (c.lat.2.2.length : Int) := hjb.2
  obtain ⟨t, ht⟩ := getI c.lat.2.2 (show j.toNat < c.lat.2.2.length by omega)
  have eD : latD c.t j = t := gDo ht
  obtain ⟨x, hx⟩ := getI (nextW c.t Y) (show k < (nextW c.t Y).length by omega)
  have hxw : wt[k]? = some x := by rw [hwt]; unfold wantW; rw [List.getElem?_append_left (by omega)]; exact hx
  have hxm : x ∈ wt := List.mem_of_getElem? hxw
  have hwl : k < wt.length := lGt hxw
  obtain ⟨r, hr⟩ : ∃ r, r = if 1 < t.2.2 then 2 * ((((inV c.t Y).length + k : Nat) : Int) + 1) else t.2.2 := ⟨_, rfl⟩
  have hLk : LL[k]? = some (2 * (((inV c.t Y).length : Int) + (k : Int) + 1), nowL c.t Y x, r) := by
   rw [hLL, latsG_get (by rw [List.length_map]; omega)]
   have e2 : ((nextW c.t Y).map (nowL c.t Y)).getD k 0 = nowL c.t Y x := gDo (by rw [List.getElem?_map, hx]; rfl)
   have e3 : (resW c.t Y).getD k 0 = r := gDo (by unfold resW; rw [tab_get _ hlt, gDo hj, eD, hr])
   rw [e2, e3, show (((inV c.t Y).length + k : Nat) : Int) = ((inV c.t Y).length : Int) + (k : Int) by omega]
  have eT := tkS hLk
  have RLt := (hC7.ext hXq).lat.row
  have RWq := RW7.ext hXq
  have RLq := RL7.ext hXq
  have RIq := RI7.ext hXq
  obtain ⟨_, u1, u2, _⟩ := Cells.ext hXq hc7
  repeat' (first | (apply W.cKT; exact rfl; exact dTt (by omega)) | (first | apply WL.nil | refine WL.au (k := ?_)) | apply Z.tn | (first | apply W.seq | apply W.region | apply W.block | apply W.skip))
  refine W.cutT (σ := Nat × World) (fun s => Ext w7 s.2 /\ Lt.Sep w7.heap.size s.2 (pcell s.1 #[.int .i64 (2 * (((inV c.t Y).length : Int) + (k : Int) + 1)), .int .i64 (nowL c.t Y x), .int .i64 t.2.2] 69 :: dP w7.heap.size gd (CW.length : Nat) ai ci (evenL 0 (inV c.t Y).length) al cl (LL.take k) none 0 0 none 0 [] none 0 [])) (fun s => [(2, .pointer (some ⟨gc, 0, none⟩)), (4, .pointer (some ⟨g4, 0, none⟩)), (7, .slice aL (laV c.t Y).length cL), (8, .slice aI (inV c.t Y).length cI), (11, .slice bW wt.length cW), (12, .int .i64 (((inV c.t Y).length : Int) + ((laV c.t Y).length : Int))), (17, .slice aN CW.length cN), (18, .slice aT AT.length cT), (19, .pointer (some ⟨gd, 0, none⟩)), (21, .int .i64 k), (22, .pointer (some ⟨s.1, 0, none⟩))]) (fun s => s.2) ?_ ?_
  ·repeat' (first | (show W _ _ (.region 27 _ _) _ _ _; apply W.regionG (.fl true 0 (.fl true 1 (.fl true 2 (.fl true 3 (.fl true 4 (.fl true 5 (.fl true 6 (.fl true 7 (.fl true 8 (.fl true 9 (.fl true 12 (.fl true 14 (.fl true 15 (.fl true 16 (.fl false 10 (.fl false 13 (.fl false 17 (.fl true 18 (.fl true 19 (.fl false 20 (.br 11 (.fl true 21 (.br 22 (.br 23 .done .stop) .stop)) (.br 22 (.br 11 (.fl true 21 (.br 23 .done .stop)) .stop) .stop)))))))))))))))))))))) [11, 13, 17, 18, 19, 20, 21, 22] (Ext wq) tMix; kernel_rfl) | (apply WL.alloc tOk; (iterate 3 exact rfl); intro g22 wa hb hge22 hxa) | (apply WL.callS (f := 36); (iterate 4 exact rfl); exact hnow x hxm _ (hXq.trans extA)) | (show FL _ _ _ _ (⟨_, .build 69 _, _, _, _, _⟩ :: _) _ _ _; apply FL.build (cs := [.int .i64 (2 * (((inV c.t Y).length : Int) + (k : Int) + 1)), .int .i64 (nowL c.t Y x), .int .i64 t.2.2]) tOk; (iterate 6 exact rfl); kernel_rfl; kernel_rfl) | (apply WL.storeB (w0 := wq) tOk; (iterate 4 exact rfl); assumption; exact extA; (iterate 3 exact rfl); exact extA; assumption; intro wb hb22 hc hX22 hU; have hcc := hc; obtain ⟨h1, h2, _⟩ := hc) | apply WL.nil | (first | apply SG.done | (apply SG.fl0; exact rfl) | (apply SG.fl1; exact rfl; (focus ((intro m; first | assumption | (apply Ext.at; exact extA) | apply But.of_at; first | exact But.upd (by assumption) | exact But.ext extA | (refine But.trans ?_ (But.upd (by assumption)); exact But.ext extA) | exact But.at _ _ _); done))) | (apply SG.br1; exact rfl) | (apply SG.br; exact rfl)) | (first | (apply FL.loadE tOk; (iterate 5 exact rfl); assumption) | (apply FL.indexE tOk; (iterate 8 exact rfl); assumption; exact rfl; omega; assumption; intro b off h; have hcc := h; first | (obtain ⟨h1, h2, h3, h4, h5, h6, _⟩ := h) | (obtain ⟨h1, h2, h3, _⟩ := h) | (obtain ⟨h1, h2, _⟩ := h) | (obtain ⟨h1, _⟩ := h))) | (first | apply FL.nilS | refine FL.au (k := ?_)) | (first | (apply Z.sgL; exact rfl) | (apply Z.sgE; (focus ((intro m; first | assumption | (apply Ext.at; exact extA) | apply But.of_at; first | exact But.upd (by assumption) | exact But.ext extA | (refine But.trans ?_ (But.upd (by assumption)); exact But.ext extA) | exact But.at _ _ _); done)))))
   all_goals exact Z.cut (g22, wb) ⟨hXq.trans hX22, Sep.newCell hS hX22 hb22 hge22 (Below.size hXq)⟩ ⟨rfl, rfl, rfl, rfl, rfl, rfl, rfl, rfl, rfl, rfl, rfl, trivial⟩ rfl
  rintro ⟨g22, wa⟩ ⟨hXa, hSa⟩
  dsimp only at hXa hSa ⊢
  have hg22 : w7.heap.size <= g22 := (hSa.lt (i := 0) rfl rfl).1
  apply W.seq
  refine W.cutT (σ := World) (fun s => Ext w7 s /\ Lt.Sep w7.heap.size s (pcell g22 #[.int .i64 (2 * (((inV c.t Y).length : Int) + (k : Int) + 1)), .int .i64 (nowL c.t Y x), .int .i64 r] 69 :: dP w7.heap.size gd (CW.length : Nat) ai ci (evenL 0 (inV c.t Y).length) al cl (LL.take k) none 0 0 none 0 [] none 0 [])) (fun s => [(2, .pointer (some ⟨gc, 0, none⟩)), (4, .pointer (some ⟨g4, 0, none⟩)), (7, .slice aL (laV c.t Y).length cL), (8, .slice aI (inV c.t Y).length cI), (11, .slice bW wt.length cW), (12, .int .i64 (((inV c.t Y).length : Int) + ((laV c.t Y).length : Int))), (17, .slice aN CW.length cN), (18, .slice aT AT.length cT), (19, .pointer (some ⟨gd, 0, none⟩)), (21, .int .i64 k), (22, .pointer (some ⟨g22, 0, none⟩))]) (fun s => s) ?_ ?_
  ·have hC0 := hSa.cell (i := 0) rfl
   obtain ⟨i0, i1, i2, _⟩ := cHp (hSa.cell (i := 0) rfl)
   by_cases h1 : 1 < t.2.2
   ·rw [if_pos h1, show (((inV c.t Y).length + k : Nat) : Int) = ((inV c.t Y).length : Int) + (k : Int) by omega] at hr
    have hS := hSa
    repeat' (first | (apply W.cKT; exact rfl; exact dTt (by omega)) | (apply WL.storeF (w0 := w7) tOk; (iterate 4 exact rfl); assumption; exact extA; (iterate 4 exact rfl); exact extA; assumption; intro w' hb hX' hU; replace hS := Sep.uCl (i := 0) rfl hU hb hS extA (by (exact Below.size extA)); (try simp only [List.set_cons_zero, List.set_cons_succ] at hS); (try have hR1 := hS.row (i := 1) rfl); (try have hR2 := hS.row (i := 2) rfl); (try have hR3 := hS.row (i := 3) rfl); (try have hR4 := hS.row (i := 4) rfl); (try have hC0 := hS.cell (i := 0) rfl); (try have hD0 := (cHp hC0).1); (try have hE0 := (cHp hC0).2.1); (try have hF0 := (cHp hC0).2.2.1)) | (first | apply WL.nil | refine WL.au (k := ?_)) | apply Z.tn | (first | apply W.seq | apply W.region))
    exact Z.cut w' ⟨extA, by rw [hr]; exact hS⟩ ⟨rfl, rfl, rfl, rfl, rfl, rfl, rfl, rfl, rfl, rfl, rfl, trivial⟩ rfl
   ·rw [if_neg h1] at hr
    repeat' (first | (apply W.cKF; exact rfl; exact dFf (by omega)) | (first | apply WL.nil | refine WL.au (k := ?_)) | apply Z.tn | (first | apply W.seq | apply W.region | apply W.skip))
    exact Z.cut wa ⟨hXa, by rw [hr]; exact hSa⟩ ⟨rfl, rfl, rfl, rfl, rfl, rfl, rfl, rfl, rfl, rfl, rfl, trivial⟩ rfl
  clear hS hSa hXa
  rintro wa ⟨hXa, hS⟩
  have hR2 := hS.row (i := 2) rfl
  have hC0 := hS.cell (i := 0) rfl
  have hC5 := hS.cell (i := 5) rfl
  have hC0' := cHp (hS.cell (i := 0) rfl)
  obtain ⟨n0, n1, n2, n3, _⟩ := cHp (hS.cell (i := 5) rfl)
  repeat' (first | (apply WL.lit tOk; (iterate 6 exact rfl); kernel_rfl; exact rfl; intro gb w' hb hge hc hx) | (apply WL.ap1 (z := (((2 * (((inV c.t Y).length : Int) + (k : Int) + 1), nowL c.t Y x, r) : T3))) tOk enc3_ok; (iterate 10 exact rfl); assumption; exact extA; exact rfl; assumption; exact rfl; exact rfl; exact extA; omega; intro aZ cZ wA hO hXA hU hF; (have hSA := Sep.uRw (i := 2) rfl hU hO hF hS extA (Below.size (hXa.trans extA)); have hCA := hSA.cell (i := 5) rfl)) | (apply WL.storeF (w0 := w7) tOk; (iterate 4 exact rfl); exact hCA; exact Ext.refl _; (iterate 4 exact rfl); exact hXA; exact hgd; intro w' hb hX' hU; have hSB := Sep.uCl (i := 5) rfl hU hb hSA (Ext.refl _) (Below.size hXA)) | (first | apply WL.nil | refine WL.au (k := ?_)) | (first | apply Z.tn | apply Z.bkn) | apply W.region)
  exact Z.agW ⟨by omega, hX', aZ, cZ, by rw [eT]; exact hSB.drop 1⟩ (by repeat' first | exact trivial | (refine And.intro ?_ ?_) | exact rfl | (rw [eT]; exact rfl))
 obtain rfl : k = (laV c.t Y).length := by omega
 rw [show LL.take (laV c.t Y).length = LL from by rw [<- hLLl, List.take_length]] at hS
 clear htl
 have hro := red_ok (prop := Y) hg hz
 have hfo : (inV c.t Y).length + ((nextW c.t Y).map (nowL c.t Y)).length = firstW c.t Y := by rw [List.length_map, hnwl]; rfl
 have hle : firstW c.t Y <= CW.length := by have h9 := hro.only.le; rw [hfo] at h9; rw [hCW]; exact h9
 obtain ⟨GG, hGG⟩ : ∃ GG, GG = gatesG CW (firstW c.t Y) (CW.length - firstW c.t Y) := ⟨_, rfl⟩
 have hGGl : GG.length = CW.length - firstW c.t Y := by rw [hGG, gatesG_len]
 have hCl : CW.length <= 1048576 := by have h9 := cutW_len (prop := Y) hg hz; rw [hCW]; omega
 have e0 : ((inV c.t Y).length : Int) + ((laV c.t Y).length : Int) = ((inV c.t Y).length : Int) + ((laV c.t Y).length : Int) + ((0 : Nat) : Int) := by omega
 repeat' (first | (apply W.cKF; exact rfl; exact dFf (by omega)) | (first | apply WL.nil | refine WL.au (k := ?_)) | (first | apply Z.tn | apply Z.tnx | apply Z.bkx) | (first | apply W.seq | apply W.region | apply W.block | apply W.exit))
 refine W.loopW (CW.length - firstW c.t Y) (fun k w' => k <= CW.length - firstW c.t Y /\ Ext w7 w' /\ ∃ ag cg, Lt.Sep w7.heap.size w' (dP w7.heap.size gd (CW.length : Nat) ai ci (evenL 0 (inV c.t Y).length) al cl LL none 0 0 none 0 [] ag cg (GG.take k)))
  (fun k => [(2, .pointer (some ⟨gc, 0, none⟩)), (4, .pointer (some ⟨g4, 0, none⟩)), (7, .slice aL (laV c.t Y).length cL), (8, .slice aI (inV c.t Y).length cI), (11, .slice bW wt.length cW), (17, .slice aN CW.length cN), (18, .slice aT AT.length cT), (19, .pointer (some ⟨gd, 0, none⟩)), (23, .int .i64 (((inV c.t Y).length : Int) + ((laV c.t Y).length : Int) + (k : Int)))]) ⟨Nat.zero_le _, hXq, none, 0, hS⟩ (fun k w' h => h.1) (by repeat' first | exact trivial | (refine And.intro ?_ ?_) | exact rfl | (rw [e0]; exact rfl)) ?_
 clear hS hXq
 rintro k wq ⟨hk, hXq, ag, cg, hS⟩
 have htl : (GG.take k).length = k := by rw [List.length_take]; omega
 by_cases hlt : k < CW.length - firstW c.t Y
 ·obtain ⟨x, hx⟩ := getI CW (show firstW c.t Y + k < CW.length by omega)
  have hGk : GG[k]? = some (2 * (((inV c.t Y).length : Int) + ((laV c.t Y).length : Int) + (k : Int)) + 2, max x.1 x.2, min x.1 x.2) := by
   rw [hGG, gatesG_get hlt hx]
   show some (2 * (((firstW c.t Y + k : Nat) : Int) + 1), _, _) = _
   rw [show 2 * (((firstW c.t Y + k : Nat) : Int) + 1) = 2 * (((inV c.t Y).length : Int) + ((laV c.t Y).length : Int) + (k : Int)) + 2 by omega]
  have eT := tkS hGk
  have es : ((inV c.t Y).length : Int) + ((laV c.t Y).length : Int) + (k : Int) + 1 = ((inV c.t Y).length : Int) + ((laV c.t Y).length : Int) + ((k + 1 : Nat) : Int) := by omega
  have hgx : CW[(((inV c.t Y).length : Int) + ((laV c.t Y).length : Int) + (k : Int)).toNat]? = some x := by rw [show (((inV c.t Y).length : Int) + ((laV c.t Y).length : Int) + (k : Int)).toNat = firstW c.t Y + k by omega]; exact hx
  have RNq := RN7.ext hXq
  have hR2 := hS.row (i := 2) rfl
  have hC4 := hS.cell (i := 4) rfl
  obtain ⟨n0, n1, n2, n3, n4, n5, n6, _⟩ := cHp (hS.cell (i := 4) rfl)
  by_cases hab : x.1 < x.2
  ·rw [Int.max_eq_right (by omega), Int.min_eq_left (by omega)] at eT
   repeat' (first | (apply W.cKT; exact rfl; (focus (exact dTt (by omega)))) | (show W _ _ (.region 34 _ _) _ _ _; apply W.regionG (.fl true 0 (.fl true 1 (.fl true 2 (.fl true 3 (.fl true 5 (.fl true 6 (.fl true 7 (.fl true 8 (.fl false 4 (.fl true 10 (.fl false 9 (.fl true 11 .done)))))))))))) [9] (Ext wq) tMix; kernel_rfl) | (show WL _ _ _ (⟨_, .build 86 _, _, _, _, _⟩ :: _) _ _ _; apply WL.build (cs := [.int .i64 (2 * (((inV c.t Y).length : Int) + ((laV c.t Y).length : Int) + (k : Int)) + 2), .int .i64 x.2, .int .i64 x.1]) tOk; (iterate 6 exact rfl); kernel_rfl; kernel_rfl) | (apply WL.lit tOk; (iterate 6 exact rfl); kernel_rfl; exact rfl; intro gb w' hb hge hc hx) | (apply WL.ap1 (z := (((2 * (((inV c.t Y).length : Int) + ((laV c.t Y).length : Int) + (k : Int)) + 2, x.2, x.1) : T3))) tOk enc3_ok; (iterate 10 exact rfl); assumption; exact extA; exact rfl; assumption; exact rfl; exact rfl; exact extA; omega; intro aZ cZ wA hO hXA hU hF; (have hSA := Sep.uRw (i := 2) rfl hU hO hF hS extA (Below.size (hXq.trans extA)); have hCA := hSA.cell (i := 4) rfl)) | (apply WL.storeF (w0 := w7) tOk; (iterate 4 exact rfl); exact hCA; exact Ext.refl _; (iterate 4 exact rfl); exact hXA; exact hgd; intro w' hb hX' hU; have hSB := Sep.uCl (i := 4) rfl hU hb hSA (Ext.refl _) (Below.size hXA)) | (first | apply WL.nil | refine WL.au (k := ?_)) | (first | apply SG.done | (apply SG.fl0; exact rfl) | (apply SG.fl1; exact rfl; (focus ((intro m; first | assumption | (apply Ext.at; exact extA) | apply But.of_at; first | exact But.upd (by assumption) | exact But.ext extA | (refine But.trans ?_ (But.upd (by assumption)); exact But.ext extA) | exact But.at _ _ _); done)))) | (first | (apply FL.loadE tOk; (iterate 5 exact rfl); assumption) | (apply FL.indexE tOk; (iterate 8 exact rfl); assumption; exact rfl; omega; assumption; intro b off h; have hcc := h; first | (obtain ⟨h1, h2, h3, h4, h5, h6, _⟩ := h) | (obtain ⟨h1, h2, h3, _⟩ := h) | (obtain ⟨h1, h2, _⟩ := h) | (obtain ⟨h1, _⟩ := h))) | (first | apply FL.nilS | refine FL.au (k := ?_)) | (first | apply Z.tn | apply Z.bkn) | (first | apply W.seq | apply W.region | apply W.block | apply W.skip))
   all_goals exact Z.agW ⟨by omega, hX', aZ, cZ, by rw [eT]; exact hSB⟩ (by repeat' first | exact trivial | (refine And.intro ?_ ?_) | exact rfl | (rw [eT]; exact rfl) | (rw [es]; exact rfl))
  ·rw [Int.max_eq_left (by omega), Int.min_eq_right (by omega)] at eT
   repeat' (first | (apply W.cKT; exact rfl; (focus (exact dTt (by omega)))) | (apply W.cKF; exact rfl; exact dFf hab) | (show W _ _ (.region 34 _ _) _ _ _; apply W.regionG (.fl true 0 (.fl true 1 (.fl true 2 (.fl true 3 (.fl true 5 (.fl true 6 (.fl true 7 (.fl true 8 (.fl false 4 (.fl true 10 (.fl false 9 (.fl true 11 .done)))))))))))) [9] (Ext wq) tMix; kernel_rfl) | (show WL _ _ _ (⟨_, .build 86 _, _, _, _, _⟩ :: _) _ _ _; apply WL.build (cs := [.int .i64 (2 * (((inV c.t Y).length : Int) + ((laV c.t Y).length : Int) + (k : Int)) + 2), .int .i64 x.1, .int .i64 x.2]) tOk; (iterate 6 exact rfl); kernel_rfl; kernel_rfl) | (apply WL.lit tOk; (iterate 6 exact rfl); kernel_rfl; exact rfl; intro gb w' hb hge hc hx) | (apply WL.ap1 (z := (((2 * (((inV c.t Y).length : Int) + ((laV c.t Y).length : Int) + (k : Int)) + 2, x.1, x.2) : T3))) tOk enc3_ok; (iterate 10 exact rfl); assumption; exact extA; exact rfl; assumption; exact rfl; exact rfl; exact extA; omega; intro aZ cZ wA hO hXA hU hF; (have hSA := Sep.uRw (i := 2) rfl hU hO hF hS extA (Below.size (hXq.trans extA)); have hCA := hSA.cell (i := 4) rfl)) | (apply WL.storeF (w0 := w7) tOk; (iterate 4 exact rfl); exact hCA; exact Ext.refl _; (iterate 4 exact rfl); exact hXA; exact hgd; intro w' hb hX' hU; have hSB := Sep.uCl (i := 4) rfl hU hb hSA (Ext.refl _) (Below.size hXA)) | (first | apply WL.nil | refine WL.au (k := ?_)) | (first | apply SG.done | (apply SG.fl0; exact rfl) | (apply SG.fl1; exact rfl; (focus ((intro m; first | assumption | (apply Ext.at; exact extA) | apply But.of_at; first | exact But.upd (by assumption) | exact But.ext extA | (refine But.trans ?_ (But.upd (by assumption)); exact But.ext extA) | exact But.at _ _ _); done)))) | (first | (apply FL.loadE tOk; (iterate 5 exact rfl); assumption) | (apply FL.indexE tOk; (iterate 8 exact rfl); assumption; exact rfl; omega; assumption; intro b off h; have hcc := h; first | (obtain ⟨h1, h2, h3, h4, h5, h6, _⟩ := h) | (obtain ⟨h1, h2, h3, _⟩ := h) | (obtain ⟨h1, h2, _⟩ := h) | (obtain ⟨h1, _⟩ := h))) | (first | apply FL.nilS | refine FL.au (k := ?_)) | (first | apply Z.tn | apply Z.bkn) | (first | apply W.seq | apply W.region | apply W.block | apply W.skip))
   all_goals exact Z.agW ⟨by omega, hX', aZ, cZ, by rw [eT]; exact hSB⟩ (by repeat' first | exact trivial | (refine And.intro ?_ ?_) | exact rfl | (rw [eT]; exact rfl) | (rw [es]; exact rfl))
 obtain rfl : k = CW.length - firstW c.t Y := by omega
 rw [show GG.take (CW.length - firstW c.t Y) = GG from by rw [<- hGGl, List.take_length]] at hS
 clear htl
 obtain ⟨xb, hxb⟩ : ∃ xb, xb = redL c.t Y (badL c.t Y) := ⟨_, rfl⟩
 have hwb : wt[(laV c.t Y).length]? = some xb := by rw [hwt, hxb]; unfold wantW; rw [List.getElem?_append_right (by omega), show (laV c.t Y).length - (nextW c.t Y).length = 0 by omega]; rfl
 have hwbm : xb ∈ wt := List.mem_of_getElem? hwb
 have hwl : wt.length = (laV c.t Y).length + 1 + c.cons.2.2.length := by rw [hwt]; unfold wantW; rw [List.length_append, hnwl, List.length_cons, List.length_map]; have h9 : c.t.cons.length = c.cons.2.2.length := rfl; omega
 have RWq := RW7.ext hXq
 have hC4 := hS.cell (i := 4) rfl
 obtain ⟨CC, hCC⟩ : ∃ CC, CC = (c.cons.2.2.map (redL c.t Y)).map (nowL c.t Y) := ⟨_, rfl⟩
 have hCCl : CC.length = c.cons.2.2.length := by rw [hCC, List.length_map, List.length_map]
 have e0 : ((laV c.t Y).length : Int) + 1 = ((laV c.t Y).length : Int) + 1 + ((0 : Nat) : Int) := by omega
 repeat' (first | (apply W.cKF; exact rfl; exact dFf (by omega)) | (apply WL.callS (f := 36); (iterate 4 exact rfl); exact hnow xb hwbm _ (hXq.trans extA)) | (apply WL.lit tOk; (iterate 6 exact rfl); kernel_rfl; exact rfl; intro gB wB hb hge hc hxB; have hO := Own.of_block ([nowL c.t Y xb]) eIk hb hge rfl; (replace hS := Sep.newRow' (Sep.ext hS extA) hxB hO (Below.size (show Ext w7 _ from hXq.trans extA)); have hC5 := hS.cell (i := 5) rfl)) | (apply WL.storeF (w0 := w7) tOk; (iterate 4 exact rfl); assumption; exact extA; (iterate 4 exact rfl); exact extA; assumption; intro w' hb hX' hU; replace hS := Sep.uCl (i := 5) rfl hU hb hS extA (by (exact Below.size extA)); (try simp only [List.set_cons_zero, List.set_cons_succ] at hS); (try have hR0 := hS.row (i := 0) rfl); (try have hR1 := hS.row (i := 1) rfl); (try have hR2 := hS.row (i := 2) rfl); (try have hR3 := hS.row (i := 3) rfl); (try have hR4 := hS.row (i := 4) rfl); (try have hD4 := (cHp hC4).1); (try have hE4 := (cHp hC4).2.1); (try have hF4 := (cHp hC4).2.2.1); (try have hG4 := (cHp hC4).2.2.2.1)) | (first | apply WL.nil | refine WL.au (k := ?_) | (apply WL.index tOk; (iterate 8 exact rfl); assumption; exact extA; exact rfl; omega; assumption; intro b off h; have hcc := h; first | (obtain ⟨h1, h2, h3, h4, h5, h6, _⟩ := h) | (obtain ⟨h1, h2, h3, _⟩ := h) | (obtain ⟨h1, h2, _⟩ := h) | (obtain ⟨h1, _⟩ := h))) | (first | apply Z.tn | apply Z.tnx | apply Z.bkx) | (first | apply W.seq | apply W.region | apply W.block | apply W.exit))
 have hXS : Ext w7 w' := extA
 refine W.loopW c.cons.2.2.length (fun k w' => k <= c.cons.2.2.length /\ Ext w7 w' /\ ∃ ac cc, Lt.Sep w7.heap.size w' (prow 1 encI 3 w7.heap.size (some ⟨gB, 0, none⟩) 1 [nowL c.t Y xb] :: dP w7.heap.size gd (CW.length : Nat) ai ci (evenL 0 (inV c.t Y).length) al cl LL (some ⟨gB, 0, none⟩) 1 1 ac cc (CC.take k) ag cg GG))
  (fun k => [(2, .pointer (some ⟨gc, 0, none⟩)), (4, .pointer (some ⟨g4, 0, none⟩)), (7, .slice aL (laV c.t Y).length cL), (8, .slice aI (inV c.t Y).length cI), (11, .slice bW wt.length cW), (18, .slice aT AT.length cT), (19, .pointer (some ⟨gd, 0, none⟩)), (26, .int .i64 (((laV c.t Y).length : Int) + 1 + (k : Int)))]) ⟨Nat.zero_le _, hXS, none, 0, hS⟩ (fun k w' h => h.1) (by repeat' first | exact trivial | (refine And.intro ?_ ?_) | exact rfl | (rw [e0]; exact rfl)) ?_
 clear hS hXq hXS
 rintro k wq ⟨hk, hXq, ac, cc, hS⟩
 have htl : (CC.take k).length = k := by rw [List.length_take]; omega
 by_cases hlt : k < c.cons.2.2.length
 ·obtain ⟨l, hl⟩ := getI c.cons.2.2 hlt
  have hwk : wt[(laV c.t Y).length + 1 + k]? = some (redL c.t Y l) := by
   rw [hwt]; unfold wantW
   rw [List.getElem?_append_right (by omega), show (laV c.t Y).length + 1 + k - (nextW c.t Y).length = k + 1 by omega, List.getElem?_cons_succ, List.getElem?_map]
   show (c.cons.2.2[k]?).map _ = _
   rw [hl]; rfl
  have hwm : redL c.t Y l ∈ wt := List.mem_of_getElem? hwk
  have hCk : CC[k]? = some (nowL c.t Y (redL c.t Y l)) := by rw [hCC, List.getElem?_map, List.getElem?_map, hl]; rfl
  have eT := tkS hCk
  have es : ((laV c.t Y).length : Int) + 1 + (k : Int) + 1 = ((laV c.t Y).length : Int) + 1 + ((k + 1 : Nat) : Int) := by omega
  have hgx : wt[(((laV c.t Y).length : Int) + 1 + (k : Int)).toNat]? = some (redL c.t Y l) := by rw [show (((laV c.t Y).length : Int) + 1 + (k : Int)).toNat = (laV c.t Y).length + 1 + k by omega]; exact hwk
  have RWq := RW7.ext hXq
  have hR4 := hS.row (i := 4) rfl
  have hC5 := hS.cell (i := 5) rfl
  obtain ⟨n0, n1, n2, n3, n4, n5, n6, _⟩ := cHp (hS.cell (i := 5) rfl)
  repeat' (first | (apply W.cKT; exact rfl; exact dTt (by omega)) | (first | apply WL.nil | refine WL.au (k := ?_)) | apply Z.tn | (first | apply W.seq | apply W.region | apply W.block | apply W.skip))
  repeat' (first | (show W _ _ (.region 42 _ _) _ _ _; apply W.regionG (.fl true 0 (.fl true 2 (.fl true 3 (.fl true 4 (.fl true 5 (.br 1 (.br 6 (.br 7 (.br 8 (.br 9 (.fl true 10 (.br 11 .done .stop)) .stop) .stop) .stop) .stop) (.br 6 (.br 1 (.br 7 (.br 8 (.br 9 (.fl true 10 (.br 11 .done .stop)) .stop) .stop) .stop) (.br 7 (.br 1 (.br 8 (.br 9 (.fl true 10 (.br 11 .done .stop)) .stop) .stop) (.br 8 (.br 1 (.br 9 (.fl true 10 (.br 11 .done .stop)) .stop) .stop) .stop)) .stop)) .stop))))))) [] (Ext wq) tMix; kernel_rfl) | (apply WL.callS (f := 36); (iterate 4 exact rfl); exact hnow _ hwm _ (hXq.trans extA)) | (apply WL.lit tOk; (iterate 6 exact rfl); kernel_rfl; exact rfl; intro gb w' hb hge hc hx) | (apply WL.ap1 (z := (nowL c.t Y (redL c.t Y l))) tOk eIk; (iterate 10 exact rfl); assumption; exact extA; exact rfl; assumption; exact rfl; exact rfl; exact extA; omega; intro aZ cZ wA hO hXA hU hF; (have hSA := Sep.uRw (i := 4) rfl hU hO hF hS extA (Below.size (hXq.trans extA)); have hC5A := hSA.cell (i := 5) rfl; have hXAq : Ext w7 wA := hXA)) | (apply WL.storeF (w0 := w7) tOk; (iterate 4 exact rfl); exact hC5A; exact Ext.refl _; (iterate 4 exact rfl); exact hXAq; exact hgd; intro w' hb hX' hU; have hSB := Sep.uCl (i := 5) rfl hU hb hSA (Ext.refl _) (Below.size hXAq)) | (first | apply WL.nil | refine WL.au (k := ?_)) | (first | apply SG.done | (apply SG.fl0; exact rfl) | (apply SG.br1; exact rfl) | (apply SG.br; exact rfl)) | (apply FL.indexE tOk; (iterate 8 exact rfl); assumption; exact rfl; omega; assumption; intro b off h; have hcc := h; first | (obtain ⟨h1, h2, h3, h4, h5, h6, _⟩ := h) | (obtain ⟨h1, h2, h3, _⟩ := h) | (obtain ⟨h1, h2, _⟩ := h) | (obtain ⟨h1, _⟩ := h)) | (first | apply FL.nilS | refine FL.au (k := ?_)) | (apply Z.sgL; exact rfl) | (first | apply Z.tn | apply Z.bkn) | apply W.region)
  all_goals exact Z.agW ⟨by omega, hX', aZ, cZ, by rw [eT]; exact hSB⟩ (by repeat' first | exact trivial | (refine And.intro ?_ ?_) | exact rfl | (rw [eT]; exact rfl) | (rw [es]; exact rfl))
 obtain rfl : k = c.cons.2.2.length := by omega
 rw [show CC.take c.cons.2.2.length = CC from by rw [<- hCCl, List.take_length]] at hS
 clear htl
 obtain ⟨dd, hdd⟩ : ∃ dd : Circ, dd = ⟨(CW.length : Nat), (ai, ci, evenL 0 (inV c.t Y).length), (al, cl, LL), (none, 0, []), (some ⟨gB, 0, none⟩, 1, [nowL c.t Y xb]), (ac, cc, CC), (ag, cg, GG), (none, 0, []), ⟨#[]⟩⟩ := ⟨_, rfl⟩
 have hcd : Cells wq gd 0 dd.vals := by rw [hdd]; exact cHp (hS.cell (i := 5) rfl)
 have hX2q : Ext w2 wq := hx3.trans (hX35.trans (hX5w7.trans hXq))
 have hg47 : g4 < w7.heap.size := Nat.lt_of_lt_of_le (heap_lt hb4) (Below.size (hx3.trans (hX35.trans hX5w7)))
 have hg4w : w.heap.size <= g4 := Nat.le_trans (Below.size hxc) hge4
 have hXwq : Ext w wq := hXww7.trans hXq
 repeat' (first | (apply W.cKF; exact rfl; exact dFf (by omega)) | (apply WL.storeB (w0 := w) tOk; (iterate 4 exact rfl); assumption; exact extA; (iterate 3 exact rfl); exact extA; assumption; intro wz hbz hc hXz hUz; have hcc := hc; obtain ⟨h1, h2, _⟩ := hc) | (first | apply WL.nil | refine WL.au (k := ?_)) | (first | apply Z.tn | apply Z.tnx | apply Z.bkx) | (first | apply W.seq | apply W.region | apply W.ret | apply W.exit))
 have hSz := Sep.updOldS hS hUz hg47
 have hdt : dd.t = redC c.t Y := by
  have hCW2 := hro.only.le
  rw [hdd]
  show (⟨(CW.length : Nat), evenL 0 (inV c.t Y).length, LL, [], [nowL c.t Y xb], CC, GG, [], ⟨#[]⟩⟩ : CirT) = genC (inV c.t Y).length ((nextW c.t Y).map (nowL c.t Y)) (resW c.t Y) (restW c.t Y) (cutW c.t Y)
  unfold genC restW
  rw [hfo, <- hCW, <- hLL, <- hGG, <- hxb, hCC]
 have nilK : ∀ {α : Type} (w0 : World) (s : Nat) (enc : α -> List Value), RowK s enc w0 ((none, 0, []) : RowV α) := fun w0 s enc => ⟨Row.nil _ _ _ _, Nat.le_refl _, fun _ => rfl⟩
 have o0 := hSz.row (i := 0) rfl
 have o1 := hSz.row (i := 1) rfl
 have o2 := hSz.row (i := 2) rfl
 have o3 := hSz.row (i := 3) rfl
 have o4 := hSz.row (i := 4) rfl
 have hCd : CAt wz dd := by
  rw [hdd]
  exact ⟨⟨o1.row eIk, o1.capLe, o1.nCp⟩, ⟨o2.row enc3_ok, o2.capLe, o2.nCp⟩, nilK _ _ _, ⟨o0.row eIk, o0.capLe, o0.nCp⟩, ⟨o4.row eIk, o4.capLe, o4.nCp⟩, ⟨o3.row enc3_ok, o3.capLe, o3.nCp⟩, nilK _ _ _⟩
 have hcz : Cells wz g4 0 dd.vals := cHp hbz
 exact Z.bodyCTT tOk Tryz.results12 rfl rfl rfl rfl rfl rfl hcz fun m => ⟨hXz.at m, dd, _, _, rfl, hdt, hCd.ext ((Ext.refl _).at m)⟩

theorem coi_Reduce1 (g cT : Nat) (aT : Option Addr) (c : CirT) (Y : Int) (hg : GoodC' c) (hz : SzC c 100000) (x : Int) (hx : x ∈ wantW c Y) (w : World) (hc : w.cell? ⟨g, 0, none⟩ = some (.slice aT (atT (redF c Y).2 (keepP c Y) ((redF c Y).2.length + 1)).length cT)) (R : Row 1 encI w aT (atT (redF c Y).2 (keepP c Y) ((redF c Y).2.length + 1))) :
  Still Tryz.prog 80 ([.int .i64 x] ++ [.pointer (some ⟨g, 0, none⟩)]) w (.int .i64 (nowL c Y x)) := by
 obtain ⟨z, hz1, hz2, hz3, hz4, hz5, hz6⟩ := now_at hg hz hx
 rw [hz4]
 refine Spec.of _ Tryz.func80 rfl Tryz.ntmps80 (by kernel_rfl) rfl ?_
 repeat' (first | (apply WL.andA; (iterate 4 exact rfl)) | (apply WL.xorI; (iterate 4 exact rfl); omega; omega) | (first | apply WL.nil | refine WL.au (k := ?_) | (apply WL.index tOk; (iterate 8 exact rfl); assumption; exact extA; exact rfl; omega; assumption; intro b off h; have hcc := h; first | (obtain ⟨h1, h2, h3, h4, h5, h6, _⟩ := h) | (obtain ⟨h1, h2, h3, _⟩ := h) | (obtain ⟨h1, h2, _⟩ := h) | (obtain ⟨h1, _⟩ := h))) | apply Z.tn | (first | apply W.seq | apply W.region | apply W.ret))
 exact Z.bd1 Tryz.results80 rfl fun m => ⟨rfl, m, rfl⟩
theorem coi_Reduce0 (c : Circ) (Y : Int) (w : World) (hC : CAt w c) (hg : GoodC' c.t) (hz : SzC c.t 100000) (n1 : (laV c.t Y).length = 0) (n2 : (inV c.t Y).length = 0) (n3 : c.cons.2.2.length = 0) (n4 : (cutW c.t Y).length = 0) :
  Lt.Spec Tryz.prog 26 [c.val, .int .i64 Y] w (fun v w' => Ext w w' /\ ∃ (d : Circ) (aL aI : Option Addr) (cL cI : Nat), v = .tuple #[d.val, .slice aL (laV c.t Y).length cL, .slice aI (inV c.t Y).length cI] /\ d.t = redC c.t Y /\ CAt w' d) := by
 have z1 : c.ins.2.2.length <= 100000 := hz.1
 have z2 : c.lat.2.2.length <= 100000 := hz.2.1
 have z5 : c.cons.2.2.length <= 100000 := hz.2.2.2.2.1
 have hlaL : (laV c.t Y).length <= c.lat.2.2.length := sel_le _ _
 have hinL : (inV c.t Y).length <= c.ins.2.2.length := sel_le _ _
 refine Spec.of _ Tryz.func26 rfl Tryz.ntmps26 (by kernel_rfl) rfl ?_
 repeat' (first | (apply WL.box; (iterate 3 exact rfl); intro gc wc hb hge hc hxc; have hcc := hc; obtain ⟨h1, h2, h3, _⟩ := hc; (have hcells := hcc)) | (show WL _ _ _ (⟨some 4, .alloc _, _, _, _, _⟩ :: _) _ _ _; apply WL.alloc tOk; (iterate 3 exact rfl); intro g4 w2 hb4 hge4 hx2; have hc2 := Cells.ext hx2 hcells) | (apply WL.call (f := 30); (iterate 4 exact rfl); exact coi_Needs c Y _ (hC.ext extA) hg hz; rintro v' w3 ⟨hx3, aL, cL, aI, cI, rfl, hOL, hOI⟩; have hc3 : Cells w3 gc 0 c.vals := Cells.ext hx3 hc2; have RL3 := hOL.row eIk; have RI3 := hOI.row eIk; have hC3 := hC.ext ((hxc.trans hx2).trans hx3)) | (first | apply WL.nil | refine WL.au (k := ?_)) | apply Z.tn | (first | apply W.seq | apply W.region))
 have hXw3 : Ext w w3 := (hxc.trans hx2).trans hx3
 obtain ⟨O, hO⟩ : ∃ O, O = redF c.t Y := ⟨_, rfl⟩
 refine W.cutT (σ := Nat × World) (fun s => Ext w3 s.2 /\ ∃ (gs r caps cN cA cO cS : Nat) (ar aN aA aO aS : Option Addr), Cells s.2 s.1 0 (foldW c aN cN aA cA (.slice aS (skV c.t).length cS) (.pointer (some ⟨gs, 0, none⟩)) (.slice aO O.1.length cO)) /\ Row 1 encI s.2 aA (cNet c.t).2 /\ Row 1 encI s.2 aO O.1 /\ ∃ w0 : World, Lt.Sep w0.heap.size s.2 (stN w0.heap.size gs ar caps r O.2))
  (fun s => [(1, .int .i64 Y), (2, .pointer (some ⟨gc, 0, none⟩)), (4, .pointer (some ⟨g4, 0, none⟩)), (7, .slice aL (laV c.t Y).length cL), (8, .slice aI (inV c.t Y).length cI), (9, .pointer (some ⟨s.1, 0, none⟩))]) (fun s => s.2) ?_ ?_
 ·skip
  repeat' (first | (show W _ _ (.region 2 _ _) _ _ _; apply W.regionGX (.fl true 3 (.fl true 4 (.fl false 0 (.fl false 1 (.br 2 (.br 5 (.br 6 (.br 7 .done .stop) .stop) (.br 6 (.br 5 (.br 7 .done .stop) .stop) .stop)) (.br 6 (.br 2 (.br 5 (.br 7 .done .stop) .stop) .stop) .stop)))))) [1, 2, 5, 6] tMix; kernel_rfl) | (apply FL.loadAE (vs := c.vals) tOk; (iterate 5 exact rfl); exact hc3; exact rfl) | (apply WL.call (f := 28); (iterate 4 exact rfl); exact coi_Stuck c _ (hC3.ext extA) hg hz; rintro v' wU ⟨hxU, aS, cS, rfl, hOS⟩) | (show WL _ _ _ (⟨some 9, .alloc _, _, _, _, _⟩ :: _) _ _ _; apply WL.alloc tOk; (iterate 3 exact rfl); intro g9 wA hbA hgeA hxA) | (apply WL.call (f := 74); (iterate 4 exact rfl); exact coi_fold c (skV c.t) (laV c.t Y) (inV c.t Y) aS aL aI cS cL cI _ (hC3.ext extA) hg hz (need_ok hg Y) (by omega) (by omega) ((hOS.row eIk).ext extA) (RL3.ext extA) (RI3.ext extA); rintro v' wF ⟨hxF, aN, cN, aA, cA, gs, r, ar, caps, aO, cO, rfl, RNf, RAf, ROf, hSf, hbf⟩; replace RAf : Row 1 encI wF aA (cNet c.t).2 := RAf; have eO : foldV c.t (skV c.t) (laV c.t Y) (inV c.t Y) = O := hO.symm; rw [eO] at ROf hSf ⊢) | (show WL _ _ _ (⟨none, .store _ (.tmp 9) _, _, _, _, _⟩ :: _) _ _ _; apply WL.storeB (w0 := w3) tOk; (iterate 4 exact rfl); exact hbA; exact extA; kernel_rfl; kernel_rfl; kernel_rfl; exact extA; exact Nat.le_trans (Below.size extA) hgeA; intro w6 hb9 hc9 hX9 hU9; have hA9 : ∀ k, (blk aN = some k ∨ blk aA = some k ∨ blk aO = some k) -> k < wF.heap.size /\ k ≠ g9 := (fun k hk => by have e1 := hbf k hk; refine ⟨e1.2, fun he => ?_⟩; first | (have e2 := Nat.lt_of_lt_of_le (heap_lt hbA) (Nat.le_trans (Below.size (show Ext wA _ from extA)) e1.1); omega) | (have e2 := Nat.lt_of_lt_of_le e1.2 (Nat.le_trans (Below.size (show Ext wF _ from extA)) hgeA); omega)); have RA6 := Row.keepU (RAf.ext extA) hU9 (fun k hk => ⟨Nat.lt_of_lt_of_le (hA9 k (.inr (.inl hk))).1 (Below.size extA), (hA9 k (.inr (.inl hk))).2⟩); have RO6 := Row.keepU (ROf.ext extA) hU9 (fun k hk => ⟨Nat.lt_of_lt_of_le (hA9 k (.inr (.inr hk))).1 (Below.size extA), (hA9 k (.inr (.inr hk))).2⟩); have hS6 : ∃ w0 : World, Lt.Sep w0.heap.size w6 (stN w0.heap.size gs ar caps r O.2) := (by first | exact ⟨_, Sep.updNew hSf extA hU9 (Nat.le_trans (Below.size extA) hgeA)⟩ | exact ⟨_, Sep.oldU (hSf.ext extA) hU9 (Nat.lt_of_lt_of_le (heap_lt hbA) (Below.size extA))⟩)) | (first | (apply SX.done; intro w' hx) | (apply SX.fl0; exact rfl) | (apply SX.fl1; exact rfl; exact extA) | (apply SX.br1; exact rfl; intro w' hx) | (apply SX.br; exact rfl; (intro w' hx))) | apply FL.nilX | refine FL.au (k := ?_) | (first | (apply Z.sxL; exact rfl) | (apply Z.sxE; exact extA)) | apply WL.nil)
  all_goals
   have hXf : Ext w6 _ := (by assumption)
   exact Z.cut (g9, _) ⟨hX9.trans hXf, gs, r, caps, cN, cA, cO, cS, ar, aN, aA, aO, aS, Cells.ext hXf hc9, RA6.ext hXf, RO6.ext hXf, by obtain ⟨w0f, hS6'⟩ := hS6; exact ⟨w0f, hS6'.ext hXf⟩⟩ (by repeat' first | exact trivial | (refine And.intro ?_ ?_) | exact rfl) rfl
 rintro ⟨g9, w7⟩ ⟨hX37, gs, r, caps, cN, cA, cO, cS, ar, aN, aA, aO, aS, hf7, RA7, RO7, w0f, hS7⟩
 dsimp only at hX37 hf7 RA7 RO7 hS7 ⊢
 have hXw7 : Ext w w7 := hXw3.trans hX37
 have hc7 : Cells w7 gc 0 c.vals := Cells.ext hX37 hc3
 have hC7 := hC3.ext hX37
 have RL7 := RL3.ext hX37
 have RI7 := RI3.ext hX37
 have hb4' : ∀ w', Ext w3 w' -> w'.heap[g4]? = _ := fun w' h => (hx3.trans h).heap hb4
 clear hcells hc2 hc3 RL3 RI3
 repeat' (first | (show WL _ _ _ (⟨_, .build 27 _, _, _, _, _⟩ :: _) _ _ _; apply WL.build (cs := [.int .i64 0, .slice none 0 0, .slice none 0 0, .slice none 0 0, .slice none 0 0, .slice none 0 0, .slice none 0 0, .slice none 0 0, .string ⟨#[]⟩]) tOk; (iterate 6 exact rfl); kernel_rfl; kernel_rfl) | (apply WL.alloc tOk; (iterate 3 exact rfl); intro g10 w8 hb8 hge8 hx8) | (apply WL.storeB (w0 := w7) tOk; (iterate 4 exact rfl); assumption; exact extA; (iterate 3 exact rfl); exact extA; assumption; intro w9 hb9 hc hX9 hU; have hcc := hc; obtain ⟨h1, h2, _⟩ := hc) | (first | apply WL.nil | refine WL.au (k := ?_)) | apply Z.tn | (first | apply W.seq | apply W.region | apply W.block))
 have hb9' : w9.heap[g10]? = some (.cells (dV 0 none 0 [] none 0 [] none 0 0 none 0 [] none 0 []).toArray 27 (0, 0)) := hb9
 have hc9 : Cells w9 gc 0 c.vals := Cells.ext hX9 hc7
 have hf9 := Cells.ext hX9 hf7
 have hC9 := hC7.ext hX9
 have RL9 := RL7.ext hX9
 have RA9 := RA7.ext hX9
 have RO9 := RO7.ext hX9
 have hg10 : g10 < w9.heap.size := heap_lt hb9
 have hIO := fold_inv hg (need_ok hg Y)
 have hO1 : OwnOk c.t O.1 := by rw [hO]; exact red_ownOk hg hz
 have hflit : ∀ (l : Int), KnL c.t l -> ∀ w8 : World, Ext w9 w8 -> Pure Tryz.prog 75 [.agg (foldW c aN cN aA cA (.slice aS (skV c.t).length cS) (.pointer (some ⟨gs, 0, none⟩)) (.slice aO O.1.length cO)).toArray, .int .i64 l] w8 (.int .i64 (redL c.t Y l)) := fun l hl w8 h8 => by
  have h := coi_flit c aN aA aO cN cA cO (.slice aS (skV c.t).length cS) (.pointer (some ⟨gs, 0, none⟩)) O.1 hg hz hO1 l hl w8 (RA9.ext h8) (RO9.ext h8) rfl rfl
  rw [show flit c.t O.1 l = redL c.t Y l by rw [hO]; rfl] at h
  exact h
 have hnx : nextW c.t Y = [] := List.eq_nil_of_length_eq_zero (by rw [nextW_len]; exact n1)
 have hcn : c.cons.2.2 = [] := List.eq_nil_of_length_eq_zero n3
 refine W.loop1 0 (fun k => k <= 0) (fun k => [(1, .int .i64 Y), (2, .pointer (some ⟨gc, 0, none⟩)), (4, .pointer (some ⟨g4, 0, none⟩)), (7, .slice aL (laV c.t Y).length cL), (8, .slice aI (inV c.t Y).length cI), (9, .pointer (some ⟨g9, 0, none⟩)), (10, .pointer (some ⟨g10, 0, none⟩)), (11, .slice none ([] : List Int).length 0), (41, .slice aL (laV c.t Y).length cL), (42, .int .i64 (laV c.t Y).length), (43, .int .i64 k)]) (Nat.le_refl _) (fun k h => h) (by repeat' first | exact trivial | (refine And.intro ?_ ?_) | exact rfl) ?_
 rintro k hk
 obtain rfl : k = 0 := by omega
 have hOk : Own 1 encI 3 w9.heap.size w9 none 0 ([] : List Int) := Own.nil
 have hkb := bad_kn (c := c.t) hg Y
 obtain ⟨xb, hxb⟩ : ∃ xb, xb = redL c.t Y (badL c.t Y) := ⟨_, rfl⟩
 obtain ⟨XB, hXB⟩ : ∃ X, X = [xb] := ⟨_, rfl⟩
 have hflb := hflit (badL c.t Y) hkb
 rw [<- hxb] at hflb
 repeat' (first | (apply W.cKF; exact rfl; exact dFf (by omega)) | (first | apply WL.nil | refine WL.au (k := ?_)) | (first | apply Z.tn | apply Z.tnx | apply Z.bkx) | (first | apply W.seq | apply W.region | apply W.exit))
 refine W.cutT (σ := Option Addr × Nat × World) (fun s => Ext w9 s.2.2 /\ Own 1 encI 3 w9.heap.size s.2.2 s.1 s.2.1 XB)
  (fun s => [(2, .pointer (some ⟨gc, 0, none⟩)), (4, .pointer (some ⟨g4, 0, none⟩)), (7, .slice aL (laV c.t Y).length cL), (8, .slice aI (inV c.t Y).length cI), (9, .pointer (some ⟨g9, 0, none⟩)), (10, .pointer (some ⟨g10, 0, none⟩)), (11, .slice s.1 XB.length s.2.1)]) (fun s => s.2.2) ?_ ?_
 ·skip
  repeat' (first | (show W _ _ (.region 10 _ _) _ _ _; apply W.regionG (.fl true 0 (.fl true 3 (.fl false 1 (.fl false 2 (.br 4 (.br 5 (.br 6 (.br 7 (.fl true 8 .done) .stop) .stop) .stop) .stop))))) [2, 4, 5, 6, 7] (Ext w9) tMix; kernel_rfl) | (apply WL.callP (f := 76); (iterate 4 exact rfl); exact coi_bad c Y _ (hC9.ext extA); intro w15 hx15) | (apply WL.callP (f := 75); (iterate 4 exact rfl); exact hflb _ extA; intro w17 hx17) | (apply WL.lit tOk; (iterate 6 exact rfl); kernel_rfl; exact rfl; intro gb wL hb hge hc hxL) | (apply WL.ap1 (xs := ([] : List Int)) (z := xb) tOk eIk; (iterate 10 exact rfl); exact hOk; exact extA; exact rfl; assumption; exact rfl; exact rfl; exact extA; decide; intro a' cap' w' hO hX' hU hF) | apply WL.nil | (first | apply SG.done | (apply SG.fl0; exact rfl) | (apply SG.fl1; exact rfl; (focus ((intro m; first | assumption | (apply Ext.at; exact extA) | apply But.of_at; first | exact But.upd (by assumption) | exact But.ext extA | (refine But.trans ?_ (But.upd (by assumption)); exact But.ext extA) | exact But.at _ _ _); done))) | (apply SG.br1; exact rfl)) | (apply FL.loadAE tOk; (iterate 5 exact rfl); assumption; exact rfl) | (first | apply FL.nilS | refine FL.au (k := ?_)) | (apply Z.sgE; (focus ((intro m; first | assumption | (apply Ext.at; exact extA) | apply But.of_at; first | exact But.upd (by assumption) | exact But.ext extA | (refine But.trans ?_ (But.upd (by assumption)); exact But.ext extA) | exact But.at _ _ _); done))))
  all_goals exact Z.cut (a', cap', _) ⟨extA, by rw [hXB]; exact hO.ext extA⟩ (by repeat' first | exact trivial | (refine And.intro ?_ ?_) | exact rfl | (rw [hXB]; exact rfl)) rfl
 rintro ⟨bB, cB, wb⟩ ⟨hXb, hOb⟩
 dsimp only at hXb hOb ⊢
 have hkc : ∀ l ∈ c.cons.2.2, KnL c.t l := fun l hl => kLu hg (used_con (c := c.t) hl)
 have eSt : c.cons.2.2.map (flit c.t O.1) = c.cons.2.2.map (redL c.t Y) := by rw [hO]; rfl
 obtain ⟨wt, hwt⟩ : ∃ wt, wt = wantW c.t Y := ⟨_, rfl⟩
 have ewt : XB ++ c.cons.2.2.map (redL c.t Y) = wt := by rw [hwt, hXB, hxb]; unfold wantW; rw [hnx]; rfl
 have hwl : wt.length = 1 := by rw [<- ewt, hXB]; simp only [List.length_append, List.length_map, List.length_cons, List.length_nil]; omega
 have hRC := fun (w8 : World) (h8 : Ext w9 w8) => (hC9.ext h8).cons.row
 have hcb := Cells.ext hXb hc9
 have hfb := Cells.ext hXb hf9
 obtain ⟨_, _, _, _, _, u5, _⟩ := id hcb
 repeat' (first | (apply WL.call (f := 77); (iterate 4 exact rfl); exact coi_fall c aN aA aO c.cons.1 cN cA cO c.cons.2.1 (.slice aS (skV c.t).length cS) (.pointer (some ⟨gs, 0, none⟩)) O.1 c.cons.2.2 hg hz hO1 hkc (by omega) _ (RA9.ext (hXb.trans extA)) (RO9.ext (hXb.trans extA)) (hRC _ (hXb.trans extA)) rfl rfl; rintro v' w12 ⟨hx12, aD, cD, rfl, hOD⟩; rw [eSt] at hOD ⊢; have RD := hOD.row eIk; have nD := hOD.nCp) | (show WL _ _ _ (⟨some 72, _, _, _, _, _⟩ :: _) _ _ _; apply WL.appendS (w0 := w9) tOk eIk; (iterate 10 exact rfl); exact hOb; exact extA; exact rfl; exact RD; exact extA; exact rfl; exact nD; exact rfl; exact (hXb.trans extA); (rw [hXB]; simp only [List.length_map, List.length_cons, List.length_nil]; omega); intro aW cW wW hOW hXW hUW hFW; rw [ewt] at hOW ⊢; have RW := hOW.row eIk; have nW := hOW.nCp) | (apply WL.call (f := 78); (iterate 4 exact rfl); exact slices_CloneI aW cW wt _ (RW.ext extA) nW (by omega); rintro v' wK ⟨hxK, aK, cK, rfl, hOK⟩) | (first | apply WL.nil | refine WL.au (k := ?_)) | apply Z.tn | (first | apply W.seq | apply W.region | apply W.block))
 refine W.loop1 0 (fun k => k <= 0) (fun k => [(2, .pointer (some ⟨gc, 0, none⟩)), (4, .pointer (some ⟨g4, 0, none⟩)), (7, .slice aL (laV c.t Y).length cL), (8, .slice aI (inV c.t Y).length cI), (9, .pointer (some ⟨g9, 0, none⟩)), (10, .pointer (some ⟨g10, 0, none⟩)), (11, .slice aW wt.length cW), (14, .int .i64 (((inV c.t Y).length : Int) + ((laV c.t Y).length : Int))), (15, .slice aK wt.length cK), (80, .int .i64 (((inV c.t Y).length : Int) + ((laV c.t Y).length : Int))), (81, .int .i64 k)]) (Nat.le_refl _) (fun k h => h) (by repeat' first | exact trivial | (refine And.intro ?_ ?_) | exact rfl) ?_
 rintro k hk
 obtain rfl : k = 0 := by omega
 have eK : wt = keepW c.t Y := by unfold keepW; rw [<- hwt, show firstW c.t Y = 0 by unfold firstW; omega]; simp [evenL]
 have RKI := hOK.row eIk
 have hX9m : Ext w9 wK := hXW.trans hxK
 have hfm := Cells.ext hX9m hf9
 obtain ⟨_, _, _, _, _, _, _, _, _, _, _, u11, u12, u13, _⟩ := id hfm
 have hSm := hS7.ext (hX9.trans hX9m)
 have hgn : GNt O.2 := by rw [hO]; exact hIO.2.2.2.2.good
 have hrl : O.2.length <= 500000 := by rw [hO]; exact red_len (prop := Y) hg hz
 have hli : ∀ x ∈ wt, inI64 x := fun x hx => by
  rw [eK] at hx
  rcases List.mem_append.1 hx with h | h
  ·have h9 := want_has hg h
   rw [hO] at hrl
   unfold hasL at h9; unfold inI64; omega
  ·have h9 := evenL_mem.1 h
   have h10 : firstW c.t Y = 0 := by unfold firstW; omega
   unfold inI64; omega
 obtain ⟨CW, hCW⟩ : ∃ CW, CW = cutW c.t Y := ⟨_, rfl⟩
 obtain ⟨AT, hAT⟩ : ∃ AT, AT = atT (redF c.t Y).2 (keepP c.t Y) ((redF c.t Y).2.length + 1) := ⟨_, rfl⟩
 have hcut : ∀ (ax : Option Addr) (cx : Nat) (wx : World), Row 2 encN wx ax O.2 -> Row 1 encI wx aK wt -> Lt.Spec Tryz.prog 79 [.slice ax O.2.length cx, .slice aK wt.length cK] wx (IsFresh2 2 encN 84 1 encI 3 wx CW AT) := fun ax cx wx h1 h2 => by
  have h := cone_Cut ax aK cx cK O.2 wt wx h1 h2 hgn (by omega) hli
  have e1 : outTo O.2 (OfP O.2 wt) O.2.length = CW := by rw [eK, hCW, hO]; rfl
  have e2 : atT O.2 (OfP O.2 wt) (O.2.length + 1) = AT := by rw [eK, hAT, hO]; rfl
  rw [e1, e2] at h; exact h
 repeat' (first | (apply W.cKF; exact rfl; exact dFf (by omega)) | (apply WL.call (f := 68); (iterate 4 exact rfl); exact aig_NetV gs r caps ar O.2 [] wK w0f hSm (by omega); rintro v' wn ⟨hxn, aX, cX, rfl, hOX⟩; have RX := hOX.row encN_ok) | (apply WL.call (f := 79); (iterate 4 exact rfl); exact hcut aX cX _ (RX.ext extA) (RKI.ext extA); rintro v' wC ⟨hxC, aM, cM, aT, cT, rfl, hOM, hOT⟩) | (apply WL.alloc tOk; (iterate 3 exact rfl); intro g18 wd hb18 hge18 hx18) | (apply WL.storeB (w0 := wC) tOk; (iterate 4 exact rfl); assumption; exact extA; (iterate 3 exact rfl); exact extA; assumption; intro wl hbl hc hXl hU; have hcc := hc; obtain ⟨h1, h2, _⟩ := hc) | (first | apply WL.nil | refine WL.au (k := ?_)) | (first | apply Z.tn | apply Z.tnx | apply Z.bkx) | (first | apply W.seq | apply W.region | apply W.block | apply W.exit))
 have hX9n : Ext w9 wn := hX9m.trans hxn
 have hX9l : Ext w9 wl := hX9n.trans (show Ext wn wl from extA)
 have hXWl : Ext wW wl := hxK.trans (show Ext wK wl from extA)
 have hXCl : Ext wC wl := extA
 have e1 := Below.size hX9n
 have e2 := Below.size hxC
 have nw : blk aW ≠ some g10 := fun h => by have := (hOW.blk_lt g10 h).1; omega
 have nt : blk aT ≠ some g10 := fun h => by have := (hOT.blk_lt g10 h).1; omega
 have n18 : g18 ≠ g10 := by omega
 have ltW : ∀ k, blk aW = some k -> k < wl.heap.size /\ k ≠ g10 := fun k h => ⟨Nat.lt_of_lt_of_le (hOW.blk_lt k h).2 (Below.size hXWl), fun he => nw (by rw [h, he])⟩
 have ltT : ∀ k, blk aT = some k -> k < wl.heap.size /\ k ≠ g10 := fun k h => ⟨Nat.lt_of_lt_of_le (hOT.blk_lt k h).2 (Below.size hXCl), fun he => nt (by rw [h, he])⟩
 have RWl := RW.ext hXWl
 have RTl := (hOT.row eIk).ext hXCl
 have hout := hX9l.heap hb9'
 have hXwl : Ext w wl := hXw7.trans (hX9.trans hX9l)
 have hg10w : w.heap.size <= g10 := Nat.le_trans (Below.size hXw7) hge8
 have hCl : CW.length = 0 := by rw [hCW]; exact n4
 have hxm : xb ∈ wantW c.t Y := by rw [<- hwt, <- ewt, hXB]; exact List.mem_cons_self ..
 have hwx : wt[(laV c.t Y).length]? = some xb := by rw [n1, <- ewt, hXB]; rfl
 refine W.loop1 0 (fun k => k <= 0) (fun k => [(4, .pointer (some ⟨g4, 0, none⟩)), (7, .slice aL (laV c.t Y).length cL), (8, .slice aI (inV c.t Y).length cI), (10, .pointer (some ⟨g10, 0, none⟩)), (11, .slice aW wt.length cW), (14, .int .i64 (((inV c.t Y).length : Int) + ((laV c.t Y).length : Int))), (17, .slice aM CW.length cM), (19, fnv 80 [.pointer (some ⟨g18, 0, none⟩)]), (101, .int .i64 (inV c.t Y).length), (102, .int .i64 k)]) (Nat.le_refl _) (fun k h => h) (by repeat' first | exact trivial | (refine And.intro ?_ ?_) | exact rfl) ?_
 rintro k hk
 obtain rfl : k = 0 := by omega
 repeat' (first | (apply W.cKF; exact rfl; exact dFf (by omega)) | (first | apply WL.nil | refine WL.au (k := ?_)) | (first | apply Z.tn | apply Z.tnx | apply Z.bkx) | (first | apply W.seq | apply W.region | apply W.block | apply W.exit))
 refine W.loop1 0 (fun k => k <= 0) (fun k => [(4, .pointer (some ⟨g4, 0, none⟩)), (7, .slice aL (laV c.t Y).length cL), (8, .slice aI (inV c.t Y).length cI), (10, .pointer (some ⟨g10, 0, none⟩)), (11, .slice aW wt.length cW), (14, .int .i64 (((inV c.t Y).length : Int) + ((laV c.t Y).length : Int))), (17, .slice aM CW.length cM), (19, fnv 80 [.pointer (some ⟨g18, 0, none⟩)]), (114, .slice aL (laV c.t Y).length cL), (115, .int .i64 (laV c.t Y).length), (116, .int .i64 k)]) (Nat.le_refl _) (fun k h => h) (by repeat' first | exact trivial | (refine And.intro ?_ ?_) | exact rfl) ?_
 rintro k hk
 obtain rfl : k = 0 := by omega
 have hfn : (((inV c.t Y).length : Int) + ((laV c.t Y).length : Int)).toNat = 0 := by omega
 repeat' (first | (apply W.cKF; exact rfl; exact dFf (by omega)) | (apply WL.sliceLO tOk; (iterate 8 exact rfl); omega) | (first | apply WL.nil | refine WL.au (k := ?_)) | (first | apply Z.tn | apply Z.tnx | apply Z.bkx) | (first | apply W.seq | apply W.region | apply W.block | apply W.exit))
 refine W.loop1 0 (fun k => k <= 0) (fun k => [(4, .pointer (some ⟨g4, 0, none⟩)), (7, .slice aL (laV c.t Y).length cL), (8, .slice aI (inV c.t Y).length cI), (10, .pointer (some ⟨g10, 0, none⟩)), (11, .slice aW wt.length cW), (14, .int .i64 (((inV c.t Y).length : Int) + ((laV c.t Y).length : Int))), (17, .slice aM CW.length cM), (19, fnv 80 [.pointer (some ⟨g18, 0, none⟩)]), (156, .int .i64 (CW.length - (((inV c.t Y).length : Int) + ((laV c.t Y).length : Int)).toNat : Nat)), (157, .int .i64 k)]) (Nat.le_refl _) (fun k h => h) (by repeat' first | exact trivial | (refine And.intro ?_ ?_) | exact rfl) ?_
 rintro k hk
 obtain rfl : k = 0 := by omega
 repeat' (first | (apply W.cKF; exact rfl; exact dFf (by omega)) | (show WL _ _ _ (⟨none, .store _ (.tmp 186) _, _, _, _, _⟩ :: _) _ _ _; apply WL.storeF (w0 := w) tOk; (iterate 4 exact rfl); exact hout; exact Ext.refl _; (iterate 4 exact rfl); exact hXwl; exact hg10w; intro wy hby hXy hUy; have RWy := Row.keepU RWl hUy ltW; have RTy := Row.keepU RTl hUy ltT; have hcy : wy.cell? ⟨g18, 0, none⟩ = some (.slice aT AT.length cT) := (by have h9 := (cHp hbl).1; simp only [World.cell?] at h9 ⊢; rw [hUy.grown.block g18 (heap_lt hbl) (fun he => n18 (by simp only [blk, Option.map_some, Option.some.injEq] at he; exact he))]; exact h9)) | (show WL _ _ _ (⟨_, .call ⟨.value (.tmp _), _, _⟩, _, _, _, _⟩ :: _) _ _ _; apply WL.callS; (iterate 4 exact rfl); exact coi_Reduce1 g18 cT aT c.t Y hg hz xb hxm _ (by rw [<- hAT]; exact hcy) (by rw [<- hAT]; exact RTy)) | (apply WL.lit tOk; (iterate 6 exact rfl); kernel_rfl; exact rfl; intro gB wB hb hge hc hxB; have hO := Own.of_block ([nowL c.t Y xb]) eIk hb hge rfl; (obtain ⟨hOB, rfl⟩ : ∃ x, x = hO := ⟨_, rfl⟩)) | (show WL _ _ _ (⟨none, .store _ (.tmp 195) _, _, _, _, _⟩ :: _) _ _ _; apply WL.storeF (w0 := w) tOk; (iterate 4 exact rfl); exact hby; exact hxB; (iterate 4 exact rfl); exact (hXy.trans hxB); exact hg10w; intro wx hbx hXx hUx) | (apply WL.sliceLO tOk; (iterate 8 exact rfl); omega) | (first | apply WL.nil | refine WL.au (k := ?_) | (apply WL.index tOk; (iterate 8 exact rfl); assumption; exact extA; exact rfl; omega; assumption; intro b off h; have hcc := h; first | (obtain ⟨h1, h2, h3, h4, h5, h6, _⟩ := h) | (obtain ⟨h1, h2, h3, _⟩ := h) | (obtain ⟨h1, h2, _⟩ := h) | (obtain ⟨h1, _⟩ := h))) | (first | apply Z.tn | apply Z.tnx | apply Z.bkx) | (first | apply W.seq | apply W.region | apply W.block | apply W.exit))
 refine W.loop1 0 (fun k => k <= 0) (fun k => [(4, .pointer (some ⟨g4, 0, none⟩)), (7, .slice aL (laV c.t Y).length cL), (8, .slice aI (inV c.t Y).length cI), (10, .pointer (some ⟨g10, 0, none⟩)), (201, .int .i64 (wt.length - (((laV c.t Y).length : Int) + 1).toNat : Nat)), (202, .int .i64 k)]) (Nat.le_refl _) (fun k h => h) (by repeat' first | exact trivial | (refine And.intro ?_ ?_) | exact rfl) ?_
 rintro k hk
 obtain rfl : k = 0 := by omega
 obtain ⟨dd, hdd⟩ : ∃ dd : Circ, dd = ⟨(CW.length : Nat), (none, 0, []), (none, 0, []), (none, 0, []), (some ⟨gB, 0, none⟩, 1, [nowL c.t Y xb]), (none, 0, []), (none, 0, []), (none, 0, []), ⟨#[]⟩⟩ := ⟨_, rfl⟩
 have hcd : Cells wx g10 0 dd.vals := by rw [hdd]; exact cHp hbx
 have hb4y : wl.heap[g4]? = _ := hb4' wl (hX37.trans (hX9.trans hX9l))
 have hg4w : w.heap.size <= g4 := Nat.le_trans (Below.size hxc) hge4
 have h410 : g4 < g10 := Nat.lt_of_lt_of_le (heap_lt hb4) (Nat.le_trans (Below.size (hx3.trans hX37)) hge8)
 have h4y := (hUy.grown.block g4 (heap_lt hb4y) (fun he => by simp only [blk, Option.map_some, Option.some.injEq] at he; omega)).trans hb4y
 have h4x := (hUx.grown.block g4 (heap_lt (hxB.heap h4y)) (fun he => by simp only [blk, Option.map_some, Option.some.injEq] at he; omega)).trans (hxB.heap h4y)
 have hgB : wy.heap.size <= gB := (hOB.blk_lt gB rfl).1
 have h10y : g10 < wy.heap.size := heap_lt hby
 have hg4z : g4 < wy.heap.size := heap_lt h4y
 have RBx := Row.keepU (hOB.row eIk) hUx (fun k h => ⟨(hOB.blk_lt k h).2, fun he => by have h2 : gB = k := Option.some.inj h; omega⟩)
 repeat' (first | (apply W.cKF; exact rfl; exact dFf (by omega)) | (show WL _ _ _ (⟨none, .store _ (.tmp 4) _, _, _, _, _⟩ :: _) _ _ _; apply WL.storeB (w0 := w) tOk; (iterate 4 exact rfl); exact h4x; exact Ext.refl _; kernel_rfl; kernel_rfl; kernel_rfl; exact hXx; exact hg4w; intro wz hbz hcz hXz hUz) | (first | apply WL.nil | refine WL.au (k := ?_)) | (first | apply Z.tn | apply Z.tnx | apply Z.bkx) | (first | apply W.seq | apply W.region | apply W.ret | apply W.exit))
 have RBz := Row.keepU RBx hUz (fun k h => ⟨Nat.lt_of_lt_of_le (hOB.blk_lt k h).2 hUx.size, fun he => by have h2 : gB = k := Option.some.inj h; omega⟩)
 have hdt : dd.t = redC c.t Y := by
  have hLL : latsG (inV c.t Y).length ((nextW c.t Y).map (nowL c.t Y)) (resW c.t Y) = [] := by rw [hnx]; rfl
  have hEv : evenL 0 (inV c.t Y).length = [] := by rw [n2]; rfl
  have hGt : gatesG CW ((inV c.t Y).length + ((nextW c.t Y).map (nowL c.t Y)).length) (CW.length - ((inV c.t Y).length + ((nextW c.t Y).map (nowL c.t Y)).length)) = [] := by rw [show CW.length - ((inV c.t Y).length + ((nextW c.t Y).map (nowL c.t Y)).length) = 0 by omega]; rfl
  rw [hdd]
  show (⟨(CW.length : Nat), [], [], [], [nowL c.t Y xb], [], [], [], ⟨#[]⟩⟩ : CirT) = genC (inV c.t Y).length ((nextW c.t Y).map (nowL c.t Y)) (resW c.t Y) (restW c.t Y) (cutW c.t Y)
  unfold genC restW
  rw [<- hCW, hLL, hEv, hGt, <- hxb, show c.t.cons = [] from hcn]
  rfl
 have nilK : ∀ {α : Type} (w0 : World) (s : Nat) (enc : α -> List Value), RowK s enc w0 ((none, 0, []) : RowV α) := fun w0 s enc => ⟨Row.nil _ _ _ _, Nat.le_refl _, fun _ => rfl⟩
 have hCd : CAt wz dd := by
  rw [hdd]
  exact ⟨nilK _ _ _, nilK _ _ _, nilK _ _ _, ⟨RBz, Nat.le_refl _, fun h => by cases h⟩, nilK _ _ _, nilK _ _ _, nilK _ _ _⟩
 have hcz' : Cells wz g4 0 dd.vals := cHp hbz
 exact Z.bodyCTT tOk Tryz.results26 rfl rfl rfl rfl rfl rfl hcz' fun m => ⟨hXz.at m, dd, aL, aI, cL, cI, rfl, hdt, hCd.ext ((Ext.refl _).at m)⟩

abbrev exK : CirT := ⟨2, [], [(2, 2, 0), (4, 4, 1)], [], [2], [], [], [], ⟨#[]⟩⟩
theorem exK_good : GoodC' exK := by
 refine ⟨by decide, fun x hx => ?_, fun x hx => ?_, fun x hx => ?_, by decide, fun x hx h => ?_, ?_⟩
 ·have : x = 2 ∨ x = 4 := by simpa using hx
  rcases this with rfl | rfl <;> decide
 ·have : x = 2 ∨ x = 4 := by simpa using hx
  rcases this with rfl | rfl <;> decide
 ·have : x = (2, 2, 0) ∨ x = (4, 4, 1) := by simpa using hx
  rcases this with rfl | rfl
  ·exact .inl rfl
  ·exact .inr (.inl rfl)
 ·have : x = 2 ∨ x = 4 := by simpa using hx
  rcases this with rfl | rfl <;> decide
 ·show (ordL []).length = 0
  rw [ordL_nil]; rfl
theorem exK_net : cNet exK = ([(-1, 0), (-1, 0)], [0, 2, 4]) := by
 unfold cNet
 rw [show exK.gates = [] from rfl, ordL_nil]
 rfl
theorem exK_cl2 : cl exK 2 = 2 := by show litI (cNet exK).2 2 = 2; rw [exK_net]; rfl
theorem exK_cl4 : cl exK 4 = 4 := by show litI (cNet exK).2 4 = 4; rw [exK_net]; rfl
theorem exK_tin : tvals [((-1 : Int), (0 : Int)), (-1, 0)] [0, 1] = [0, 0, 1] := by
 unfold tvals tto tstep
 simp [tin, val3]
theorem exK_lit2 : lit3 [0, 0, 1] 2 = 0 := by decide
theorem exK_lit4 : lit3 [0, 0, 1] 4 = 1 := by decide
theorem exK_step : stkS exK [0, 1] = [0, 1] := by
 have e : stkE exK [0, 1] = [0, 0, 1] := by
  unfold stkE
  rw [exK_net]
  exact exK_tin
 have f0 : stkF exK [0, 1] 0 = 0 := by
  unfold stkF
  rw [e]
  refine (if_neg fun h => h.2 ?_).trans rfl
  show lit3 [0, 0, 1] (cl exK 2) = 0
  rw [exK_cl2]; exact exK_lit2
 have f1 : stkF exK [0, 1] 1 = 1 := by
  unfold stkF
  rw [e]
  refine (if_neg fun h => h.2 ?_).trans rfl
  show lit3 [0, 0, 1] (cl exK 4) = 1
  rw [exK_cl4]; exact exK_lit4
 show tab 2 (stkF exK [0, 1]) = _
 show [stkF exK [0, 1] 0, stkF exK [0, 1] 1] = _
 rw [f0, f1]
theorem exK_stuck : skV exK = [0, 1] := (stk_done (c := exK) (k := 0) (Nat.zero_le _) exK_step).symm
theorem exK_free : freeV exK = [] := by
 refine List.eq_nil_iff_forall_not_mem.2 fun j hj => ?_
 obtain ⟨h1, h2, h3⟩ := free_mem.1 hj
 rw [exK_stuck] at h3
 have h4 : j < 2 := h2
 rcases (show j = 0 ∨ j = 1 by omega) with rfl | rfl <;> simp at h3
theorem exK_la (p : Int) : laV exK p = [] := List.eq_nil_iff_forall_not_mem.2 fun j hj => by
 have h := la_free hj
 rw [exK_free] at h
 cases h
theorem exK_in (p : Int) : inV exK p = [] := rfl
theorem exK_fold : foldV exK [0, 1] [] [] = ([0, 0, 1], []) := by
 unfold foldV copyV
 rw [exK_net, show fillC exK [0, 1] [] [] = [0, 1] from rfl, dTt (by intro z hz; unfold hasL; simp at hz; rcases hz with rfl | rfl <;> simp)]
 show ((cto [] [(-1, 0), (-1, 0)] [0, 1] 2).1, (cto [] [(-1, 0), (-1, 0)] [0, 1] 2).2.2) = _
 unfold cto cstep
 simp
theorem exK_redF (p : Int) : redF exK p = ([0, 0, 1], []) := by
 show foldV exK (skV exK) (laV exK p) (inV exK p) = _
 rw [exK_stuck, exK_la, exK_in]
 exact exK_fold
theorem exK_redL : redL exK 0 2 = 0 := by
 show litI (redF exK 0).1 (cl exK 2) = 0
 rw [exK_redF, exK_cl2]; rfl
theorem exK_red : redC exK 0 = ⟨0, [], [], [], [0], [], [], [], ⟨#[]⟩⟩ := by
 have e1 : cutW exK 0 = [] := by
  unfold cutW
  rw [show (redF exK 0).2.length = 0 by rw [exK_redF]; rfl]
  rfl
 have e2 : nextW exK 0 = [] := by unfold nextW; rw [exK_la]; rfl
 have e3 : resW exK 0 = [] := by unfold resW; rw [exK_la]; rfl
 have e4 : restW exK 0 = ⟨[], [0], [], [], ⟨#[]⟩⟩ := by
  unfold restW
  rw [show badL exK 0 = 2 from rfl, exK_redL]
  show (⟨[], [atL (keepP exK 0) 0], [], [], ⟨#[]⟩⟩ : Rest) = _
  rw [show atL (keepP exK 0) 0 = 0 by unfold atL atv; rw [if_pos (by decide)]; rfl]
 unfold redC
 rw [e1, e2, e3, e4, exK_in]
 rfl

theorem ref11_Same0 (a b : Circ) (w : World) (hCa : CAt w a) (hCb : CAt w b) (h : a.t = b.t) (hl : a.lat.2.2.length = 0) (hg : a.gates.2.2.length = 0) (hs : a.syms.2.2.length = 0) : Pure Tryz.prog 29 [a.val, b.val] w (.bool true) := by
 have e0 : a.max = b.max := congrArg CirT.max h
 have e1 : a.com = b.com := congrArg CirT.com h
 have e2 : a.ins.2.2 = b.ins.2.2 := congrArg CirT.ins h
 have e3 : a.outs.2.2 = b.outs.2.2 := congrArg CirT.outs h
 have e4 : a.bads.2.2 = b.bads.2.2 := congrArg CirT.bads h
 have e5 : a.cons.2.2 = b.cons.2.2 := congrArg CirT.cons h
 have l0 : b.lat.2.2.length = 0 := by rw [<- hl]; exact (congrArg (fun c : CirT => c.lat.length) h).symm
 have l1 : b.gates.2.2.length = 0 := by rw [<- hg]; exact (congrArg (fun c : CirT => c.gates.length) h).symm
 have l2 : b.syms.2.2.length = 0 := by rw [<- hs]; exact (congrArg (fun c : CirT => c.syms.length) h).symm
 refine Spec.of _ Tryz.func29 rfl Tryz.ntmps29 (by kernel_rfl) rfl ?_
 repeat' (first | (apply WL.box; (iterate 3 exact rfl); intro gb w' hb hge hc hx; have hcc := hc; obtain ⟨h1, h2, h3, _⟩ := hc; (first | (have h_0 := xA0; clear h_0; obtain ⟨xB0, xB1, xB2, xB3, xB4, xB5, xB6, xB7, xB8, _⟩ := id hcc; (obtain ⟨gB, rfl⟩ : ∃ x, x = gb := ⟨_, rfl⟩; obtain ⟨wB, rfl⟩ : ∃ x, x = w' := ⟨_, rfl⟩; obtain ⟨hxB, rfl⟩ : ∃ x, x = hx := ⟨_, rfl⟩)) | (have hA := hcc; obtain ⟨xA0, xA1, xA2, xA3, xA4, xA5, xA6, xA7, xA8, _⟩ := id hcc; (obtain ⟨gA, rfl⟩ : ∃ x, x = gb := ⟨_, rfl⟩; obtain ⟨wA, rfl⟩ : ∃ x, x = w' := ⟨_, rfl⟩; obtain ⟨hxA, rfl⟩ : ∃ x, x = hx := ⟨_, rfl⟩)))) | (apply WL.neStr tOk; (iterate 6 exact rfl)) | (apply WL.gF; exact rfl; exact rfl; (focus (first | exact dFf (fun h => h e0) | exact dFf (fun h => h e1) | (rw [dTt e2]; rfl) | (rw [dTt e3]; rfl) | (rw [dTt e4]; rfl) | exact dFf (by omega); done))) | (apply W.cKF; exact rfl; (focus (first | (rw [dTt e5]; rfl) | exact dFf (by omega); done))) | (apply WL.callS (f := 27); (iterate 4 exact rfl); exact rIn _ _ _ _ _ _ _ (hCa.ins.row.ext extA) (hCb.ins.row.ext extA)) | (apply WL.callS (f := 27); (iterate 4 exact rfl); exact rIn _ _ _ _ _ _ _ (hCa.outs.row.ext extA) (hCb.outs.row.ext extA)) | (apply WL.callS (f := 27); (iterate 4 exact rfl); exact rIn _ _ _ _ _ _ _ (hCa.bads.row.ext extA) (hCb.bads.row.ext extA)) | (apply WL.callS (f := 27); (iterate 4 exact rfl); exact rIn _ _ _ _ _ _ _ (hCa.cons.row.ext extA) (hCb.cons.row.ext extA)) | (first | apply WL.nil | refine WL.au (k := ?_)) | apply Z.tn | (first | apply W.seq | apply W.region | apply W.block | apply W.skip))
 refine W.loop1 0 (fun k => k <= 0) (fun k => [(2, .pointer (some ⟨gA, 0, none⟩)), (3, .pointer (some ⟨gB, 0, none⟩)), (5, .int .i64 k)]) (Nat.le_refl _) (fun k h => h) ⟨rfl, rfl, rfl, trivial⟩ ?_
 rintro k hk
 obtain rfl : k = 0 := by omega
 repeat' (first | (apply W.cKF; exact rfl; exact dFf (by omega)) | (first | apply WL.nil | refine WL.au (k := ?_)) | (first | apply Z.tn | apply Z.tnx | apply Z.bkx) | (first | apply W.seq | apply W.region | apply W.block | apply W.exit))
 refine W.loop1 0 (fun k => k <= 0) (fun k => [(2, .pointer (some ⟨gA, 0, none⟩)), (3, .pointer (some ⟨gB, 0, none⟩)), (6, .int .i64 k)]) (Nat.le_refl _) (fun k h => h) ⟨rfl, rfl, rfl, trivial⟩ ?_
 rintro k hk
 obtain rfl : k = 0 := by omega
 repeat' (first | (apply W.cKF; exact rfl; exact dFf (by omega)) | (first | apply WL.nil | refine WL.au (k := ?_)) | (first | apply Z.tn | apply Z.tnx | apply Z.bkx) | (first | apply W.seq | apply W.region | apply W.block | apply W.exit))
 refine W.loop1 0 (fun k => k <= 0) (fun k => [(2, .pointer (some ⟨gA, 0, none⟩)), (3, .pointer (some ⟨gB, 0, none⟩)), (7, .int .i64 k)]) (Nat.le_refl _) (fun k h => h) ⟨rfl, rfl, rfl, trivial⟩ ?_
 rintro k hk
 obtain rfl : k = 0 := by omega
 repeat' (first | (apply W.cKF; exact rfl; exact dFf (by omega)) | (first | apply WL.nil | refine WL.au (k := ?_)) | (first | apply Z.tn | apply Z.tnx | apply Z.bkx) | (first | apply W.seq | apply W.region | apply W.ret | apply W.exit))
 exact Z.bd1 Tryz.results29 rfl fun m => ⟨rfl, Ext.at extA m⟩

set_option maxRecDepth 20000 in
theorem law42_lives (w : World) : Pure Tryz.prog 7 [] w (.bool true) := by
 refine Spec.of _ Tryz.func7 rfl Tryz.ntmps7 (by kernel_rfl) rfl ?_
 repeat' (first | (show WL _ _ _ (⟨_, .build 27 _, _, _, _, _⟩ :: _) _ _ _; apply WL.build (cs := [.int .i64 2, .slice none 0 0, .slice (some ⟨g1, 0, none⟩) 2 2, .slice none 0 0, .slice (some ⟨g2, 0, none⟩) 1 1, .slice none 0 0, .slice none 0 0, .slice none 0 0, .string ⟨#[]⟩]) tOk; (iterate 6 exact rfl); exact rfl; kernel_rfl) | (apply WL.build tOk; (iterate 7 exact rfl); kernel_rfl) | (apply WL.lit tOk; (iterate 6 exact rfl); kernel_rfl; exact rfl; intro g1 w1 hb hge hc hx1; have hO := Own.of_block ([((2, 2, 0) : T3), (4, 4, 1)]) enc3_ok hb hge rfl; (obtain ⟨hO1, rfl⟩ : ∃ x, x = hO := ⟨_, rfl⟩)) | (apply WL.lit tOk; (iterate 6 exact rfl); kernel_rfl; exact rfl; intro g2 w2 hb hge hc hx2; have hO := Own.of_block ([(2 : Int)]) eIk hb hge rfl; (obtain ⟨hO2, rfl⟩ : ∃ x, x = hO := ⟨_, rfl⟩)) | (apply WL.alloc tOk; (iterate 3 exact rfl); intro gb w' hb hge hx) | (apply WL.storeB (w0 := w2) tOk; (iterate 4 exact rfl); assumption; exact extA; (iterate 3 exact rfl); exact extA; assumption; intro w3 hb3 hc hX3 hU; have hcc := hc; obtain ⟨h1, h2, _⟩ := hc; (have hcs := cHp hb3)) | (first | apply WL.nil | refine WL.au (k := ?_)) | apply Z.tn | (first | apply W.seq | apply W.region))
 obtain ⟨c, hc⟩ : ∃ c : Circ, c = ⟨2, (none, 0, []), (some ⟨g1, 0, none⟩, 2, [(2, 2, 0), (4, 4, 1)]), (none, 0, []), (some ⟨g2, 0, none⟩, 1, [2]), (none, 0, []), (none, 0, []), (none, 0, []), ⟨#[]⟩⟩ := ⟨_, rfl⟩
 have hct : c.t = exK := by rw [hc]
 have hX2 : Ext w1 w3 := extA
 have hX : Ext w w3 := extA
 have nilK : ∀ {α : Type} (w0 : World) (s : Nat) (enc : α -> List Value), RowK s enc w0 ((none, 0, []) : RowV α) := fun w0 s enc => ⟨Row.nil _ _ _ _, Nat.le_refl _, fun _ => rfl⟩
 have hC : CAt w3 c := by
  rw [hc]
  exact ⟨nilK _ _ _, ⟨(hO1.row enc3_ok).ext hX2, Nat.le_refl _, fun h => by cases h⟩, nilK _ _ _, ⟨(hO2.row eIk).ext hX3, Nat.le_refl _, fun h => by cases h⟩, nilK _ _ _, nilK _ _ _, nilK _ _ _⟩
 have hg : GoodC' c.t := by rw [hct]; exact exK_good
 have hz : SzC c.t 100000 := by rw [hct]; unfold SzC; simp
 have hred := fun (w9 : World) (h9 : Ext w3 w9) => coi_Reduce0 c 0 w9 (hC.ext h9) hg hz (by rw [hct, exK_la]; rfl) (by rw [hct]; rfl) (by rw [hc]; rfl) (by rw [hct]; unfold cutW; rw [show (redF exK 0).2.length = 0 by rw [exK_redF]; rfl]; rfl)
 have hstk := fun (w9 : World) (h9 : Ext w3 w9) => coi_Stuck c w9 (hC.ext h9) hg hz
 rw [hct, exK_red, exK_la, exK_in] at hred
 simp only [List.length_nil] at hred
 rw [hct, exK_stuck] at hstk
 have hv : c.val = .agg #[.int .i64 2, .slice none 0 0, .slice (some ⟨g1, 0, none⟩) 2 2, .slice none 0 0, .slice (some ⟨g2, 0, none⟩) 1 1, .slice none 0 0, .slice none 0 0, .slice none 0 0, .string ⟨#[]⟩] := by rw [hc]; rfl
 rw [hv] at hred hstk
 repeat' (first | (apply WL.gT; exact rfl; exact rfl; exact dTt rfl) | (apply WL.call (f := 26); (iterate 4 exact rfl); exact hred _ (Ext.refl _); rintro v' w4 ⟨hx4, d, aL, aI, cL, cI, rfl, hdt, hCd⟩) | (apply WL.alloc tOk; (iterate 3 exact rfl); intro gb w' hb hge hx) | (apply WL.storeB (w0 := w4) tOk; (iterate 4 exact rfl); assumption; exact extA; (iterate 3 exact rfl); exact extA; assumption; intro w5 hb5 hc hX5 hU; have hcc := hc; obtain ⟨h1, h2, _⟩ := hc; (have hcd := cHp hb5)) | (apply WL.call (f := 28); (iterate 4 exact rfl); exact hstk _ extA; rintro v' w6 ⟨hx6, aS, cS, rfl, hOS⟩; have RS := hOS.row eIk) | (apply WL.lit tOk; (iterate 6 exact rfl); kernel_rfl; exact rfl; intro g18 w7 hb hge hc hx7; have hO := Own.of_block ([(0 : Int), 1]) eIk hb hge rfl; (obtain ⟨hO7, rfl⟩ : ∃ x, x = hO := ⟨_, rfl⟩; have R7 := hO7.row eIk)) | (apply WL.callS (f := 27); (iterate 4 exact rfl); exact rIn _ _ _ _ [0, 1] [0, 1] _ (RS.ext extA) R7) | (apply WL.lit tOk; (iterate 6 exact rfl); kernel_rfl; exact rfl; intro g22 w8 hb hge hc hx8; have hO := Own.of_block ([(0 : Int)]) eIk hb hge rfl; (obtain ⟨hO8, rfl⟩ : ∃ x, x = hO := ⟨_, rfl⟩; have hCe : CAt w8 ⟨0, (none, 0, []), (none, 0, []), (none, 0, []), (some ⟨g22, 0, none⟩, 1, [0]), (none, 0, []), (none, 0, []), (none, 0, []), ⟨#[]⟩⟩ := ⟨nilK _ _ _, nilK _ _ _, nilK _ _ _, ⟨hO8.row eIk, Nat.le_refl _, fun h => by cases h⟩, nilK _ _ _, nilK _ _ _, nilK _ _ _⟩; have hsm := fun (w9 : World) (h9 : Ext w8 w9) => ref11_Same0 d _ w9 (hCd.ext (show Ext w4 w9 from extA)) (hCe.ext h9) hdt (congrArg (fun t : CirT => t.lat.length) hdt) (congrArg (fun t : CirT => t.gates.length) hdt) (congrArg (fun t : CirT => t.syms.length) hdt))) | (show WL _ _ _ (⟨_, .build 27 _, _, _, _, _⟩ :: _) _ _ _; apply WL.build (cs := [.int .i64 0, .slice none 0 0, .slice none 0 0, .slice none 0 0, .slice (some ⟨g22, 0, none⟩) 1 1, .slice none 0 0, .slice none 0 0, .slice none 0 0, .string ⟨#[]⟩]) tOk; (iterate 6 exact rfl); exact rfl; kernel_rfl) | (apply WL.callP (f := 29); (iterate 4 exact rfl); exact hsm _ extA; intro w10 hx10) | (first | apply WL.nil | refine WL.au (k := ?_)) | apply Z.tn | (first | apply W.seq | apply W.region | apply W.ret))
 exact Z.bd1 Tryz.results7 rfl fun m => ⟨congrArg Value.bool (dTt rfl), Ext.at extA m⟩

theorem net_len3M {c : CirT} (hg : GoodC' c) : (cNet c).1.length <= c.ins.length + c.lat.length + c.gates.length := by
 rw [(cNet_ok hg).1.len1]
 have h2 := (ordL_is c.gates).1.le
 unfold CirT.seq
 simp only [List.length_append, List.length_map] at *
 omega
theorem outTo_le (n : List (Int × Int)) (P : Nat -> Prop) : ∀ k, (outTo n P k).length <= k
 | 0 => Nat.le_refl _
 | k + 1 => by
  have := outTo_le n P k
  by_cases h : P (k + 1)
  ·rw [outTo_yes h, List.length_append, List.length_singleton]; omega
  ·rw [outTo_no h]; omega
theorem cutW_few {c : CirT} {Y : Int} (hg : GoodC' c) : (cutW c Y).length <= 2 * c.ins.length + 2 * c.lat.length + c.gates.length := by
 have h1 := (fold_inv hg (need_ok hg Y)).2.2.2.1
 have h2 := net_len3M hg
 have h3 : (inV c Y).length <= c.ins.length := sel_le _ _
 have h4 : (laV c Y).length <= c.lat.length := sel_le _ _
 have h6 : (redF c Y).2.length <= 2 * c.ins.length + 2 * c.lat.length + c.gates.length := by
  show (foldV c (skV c) (laV c Y) (inV c Y)).2.length <= _
  omega
 exact Nat.le_trans (outTo_le _ _ _) h6
theorem red_sz {c : CirT} {Y : Int} (hg : GoodC' c) (h1 : c.ins.length <= 1000) (h2 : c.lat.length <= 1000) (h3 : c.gates.length <= 1000) (h4 : c.cons.length <= 1000) : SzC (redC c Y) 100000 := by
 have h5 := cutW_few (Y := Y) hg
 have e1 := red_inslen (c := c) (prop := Y)
 have e2 := red_latlen (c := c) (prop := Y)
 have h6 : (inV c Y).length <= c.ins.length := sel_le _ _
 have h7 : (laV c Y).length <= c.lat.length := sel_le _ _
 have e3 : (redC c Y).gates.length <= 100000 := by
  show (gatesG _ _ _).length <= 100000
  rw [gatesG_len]; omega
 have e4 : (redC c Y).cons.length = c.cons.length := by
  show ((c.cons.map (redL c Y)).map (nowL c Y)).length = _
  rw [List.length_map, List.length_map]
 refine ⟨by omega, by omega, ?_, ?_, by omega, e3⟩
 ·show ([] : List Int).length <= 100000; decide
 ·show (1 : Nat) <= 100000; decide

theorem ref18_SameT (r q : RunV) (w : World) (hr : RAt w r) (hq : RAt w q) (hs : r.st.2.2 = q.st.2.2) (hi : r.i = q.i) :
  Pure Tryz.prog 10 [witV r, witV q] w (.bool true) := by
 have hsm := ref01_Same r.st.1 q.st.1 r.st.2.1 q.st.2.1 r.st.2.2 q.st.2.2
 have hlr := hr.ins.len
 have hlq := hq.ins.len
 have lr : r.i.length = r.ins.2.2.length := List.length_map _
 have lq : q.i.length = q.ins.2.2.length := List.length_map _
 have hl : r.ins.2.2.length = q.ins.2.2.length := by rw [<- lr, <- lq, hi]
 refine Spec.of _ Tryz.func10 rfl Tryz.ntmps10 (by kernel_rfl) rfl ?_
 repeat' (first | (apply WL.box; (iterate 3 exact rfl); intro gb w' hb hge hc hx; have hcc := hc; obtain ⟨h1, h2, h3, _⟩ := hc; (first | (have h_0 := hA; clear h_0; obtain ⟨g3, rfl⟩ : ∃ x, x = gb := ⟨_, rfl⟩; obtain ⟨w3, rfl⟩ : ∃ x, x = w' := ⟨_, rfl⟩; obtain ⟨hx3, rfl⟩ : ∃ x, x = hx := ⟨_, rfl⟩; obtain ⟨y1, y2, y3, y4, _⟩ := hcc) | (obtain ⟨g2, rfl⟩ : ∃ x, x = gb := ⟨_, rfl⟩; obtain ⟨w2, rfl⟩ : ∃ x, x = w' := ⟨_, rfl⟩; obtain ⟨hx2, rfl⟩ : ∃ x, x = hx := ⟨_, rfl⟩; obtain ⟨x1, x2, x3, x4, _⟩ := hcc; have hA := trivial))) | (apply WL.gF; exact rfl; exact rfl; (focus (first | exact dFf (show ¬ (0 : Int) ≠ 0 from fun h => h rfl) | (rw [dTt hs]; rfl)))) | (apply W.cKF; exact rfl; exact dFf (by omega)) | (apply WL.callS (f := 32); (iterate 4 exact rfl); exact hsm _ (hr.st.ext extA) (hq.st.ext extA)) | (first | apply WL.nil | refine WL.au (k := ?_)) | apply Z.tn | (first | apply W.seq | apply W.region | apply W.block | apply W.skip))
 have hX3 : Ext w w3 := hx2.trans hx3
 have z4 := hx3.cell x4
 have Rr := hr.ins.ext hX3
 have Rq := hq.ins.ext hX3
 refine W.loop1 r.ins.2.2.length (fun k => k <= r.ins.2.2.length) (fun k => [(2, .pointer (some ⟨g2, 0, none⟩)), (3, .pointer (some ⟨g3, 0, none⟩)), (5, .int .i64 k)]) (Nat.zero_le _) (fun k h => h) ⟨rfl, rfl, rfl, trivial⟩ ?_
 rintro k hk
 by_cases hlt : k < r.ins.2.2.length
 ·obtain ⟨a, ha⟩ := getI r.ins.2.2 hlt
  obtain ⟨b, hb⟩ := getI q.ins.2.2 (show k < q.ins.2.2.length by omega)
  have ha' : r.i[k]? = some a.2.2 := by show (r.ins.2.2.map (·.2.2))[k]? = _; rw [List.getElem?_map, ha]; rfl
  have hb' : q.i[k]? = some b.2.2 := by show (q.ins.2.2.map (·.2.2))[k]? = _; rw [List.getElem?_map, hb]; rfl
  have he : a.2.2 = b.2.2 := by rw [hi, hb'] at ha'; exact (Option.some.inj ha').symm
  have h2 := ref01_Same a.1 b.1 a.2.1 b.2.1 a.2.2 b.2.2 w3 ((hr.each a (List.mem_of_getElem? ha)).ext hX3) ((hq.each b (List.mem_of_getElem? hb)).ext hX3)
  repeat' (first | (apply W.cKT; exact rfl; (focus (exact dTt (by omega)))) | (apply W.cKF; exact rfl; (focus ((rw [dTt he]; rfl); done))) | (show QL _ _ _ _ (⟨_, .call ⟨.value (.func 32), _, _⟩, _, _, _, _⟩ :: _) _ _; apply QL.callS; (iterate 4 exact rfl); exact h2) | (first | apply WL.nil | refine WL.au (k := ?_)) | (first | apply QL.nil | refine QL.au (k := ?_) | (apply QL.index tOk; (iterate 8 exact rfl); assumption; exact extA; exact rfl; omega; assumption; intro b off h; have hcc := h; first | (obtain ⟨h1, h2, h3, h4, h5, h6, _⟩ := h) | (obtain ⟨h1, h2, h3, _⟩ := h) | (obtain ⟨h1, h2, _⟩ := h) | (obtain ⟨h1, _⟩ := h))) | (first | apply Z.tn | apply Z.bkn) | (first | apply W.seq | apply W.region | apply W.block | apply W.skip | (apply W.rgD tMix; kernel_rfl)))
  exact Z.again1 (by omega) ⟨rfl, rfl, rfl, trivial⟩
 ·obtain rfl : k = r.ins.2.2.length := by omega
  repeat' (first | (apply W.cKF; exact rfl; exact dFf (by omega)) | (first | apply WL.nil | refine WL.au (k := ?_)) | (first | apply Z.tn | apply Z.tnx | apply Z.bkx) | (first | apply W.seq | apply W.region | apply W.ret | apply W.exit))
  exact Z.bd1 Tryz.results10 rfl fun m => ⟨rfl, hX3.at m⟩

def ShortP (r : RunV) (m : Int) : Prop := (r.s.length : Int) <= 60 /\ (r.ins.2.2.length : Int) <= m /\ ∀ x ∈ r.ins.2.2, (x.2.2.length : Int) <= 60
theorem law17_Short (r : RunV) (m : Int) (w : World) (hR : RAt w r) : Pure Tryz.prog 6 [r.val, .int .i64 m] w (.bool (dec (ShortP r m))) := by
 have hil := hR.ins.len
 by_cases q1 : (r.st.2.2.length : Int) <= 60
 rotate_left
 ·have e : dec (ShortP r m) = false := dFf fun h => q1 h.1
  refine Spec.of _ Tryz.func6 rfl Tryz.ntmps6 (by kernel_rfl) rfl ?_
  repeat' (first | (apply WL.box; (iterate 3 exact rfl); intro gb w' hb hge hc hx; have hcc := hc; obtain ⟨h1, h2, h3, _⟩ := hc) | (apply WL.gT; exact rfl; exact rfl; exact dTt (by omega)) | (first | apply WL.nil | refine WL.au (k := ?_) | (apply WL.gdF; exact rfl; exact rfl)) | (first | apply Z.tn | apply Z.tnr) | (first | apply W.seq | apply W.region | apply W.ret | (apply W.condT; exact rfl)))
  exact Z.bd1 Tryz.results6 rfl fun m => ⟨by rw [e], Ext.at extA m⟩
 by_cases q2 : (r.ins.2.2.length : Int) <= m
 rotate_left
 ·have e : dec (ShortP r m) = false := dFf fun h => q2 h.2.1
  refine Spec.of _ Tryz.func6 rfl Tryz.ntmps6 (by kernel_rfl) rfl ?_
  repeat' (first | (apply WL.box; (iterate 3 exact rfl); intro gb w' hb hge hc hx; have hcc := hc; obtain ⟨h1, h2, h3, _⟩ := hc) | (apply WL.gF; exact rfl; exact rfl; exact dFf (by omega)) | (apply W.cKT; exact rfl; (focus (exact dTt (by omega)))) | (first | apply WL.nil | refine WL.au (k := ?_)) | (first | apply Z.tn | apply Z.tnr) | (first | apply W.seq | apply W.region | apply W.ret))
  exact Z.bd1 Tryz.results6 rfl fun m => ⟨by rw [e], Ext.at extA m⟩
 refine Spec.of _ Tryz.func6 rfl Tryz.ntmps6 (by kernel_rfl) rfl ?_
 repeat' (first | (apply WL.box; (iterate 3 exact rfl); intro gr wr hb hge hc hxr; have hcc := hc; obtain ⟨h1, h2, h3, _⟩ := hc; (have hcr : Cells wr gr 0 [rowVal r.st, rowVal r.ins] := hcc)) | (apply WL.gF; exact rfl; exact rfl; exact dFf (by omega)) | (apply W.cKF; exact rfl; exact dFf (by omega)) | (first | apply WL.nil | refine WL.au (k := ?_)) | apply Z.tn | (first | apply W.seq | apply W.region | apply W.block | apply W.skip))
 refine W.loop1 r.ins.2.2.length (fun k => k <= r.ins.2.2.length /\ ∀ j x, j < k -> r.ins.2.2[j]? = some x -> (x.2.2.length : Int) <= 60) (fun k => [(2, .pointer (some ⟨gr, 0, none⟩)), (5, .int .i64 k)]) ⟨Nat.zero_le _, fun j x h => by omega⟩ (fun k h => h.1) ⟨rfl, rfl, trivial⟩ ?_
 rintro k ⟨hk, hall⟩
 obtain ⟨m1, m2, _⟩ := id hcr
 have hRi := hR.ins.ext hxr
 by_cases hlt : k < r.ins.2.2.length
 ·obtain ⟨x, hxx⟩ := getI r.ins.2.2 hlt
  by_cases q3 : (x.2.2.length : Int) <= 60
  ·repeat' (first | (apply W.cKT; exact rfl; (focus (exact dTt (by omega)))) | (apply W.cKF; exact rfl; exact dFf (by omega)) | (first | apply WL.nil | refine WL.au (k := ?_) | (apply WL.index tOk; (iterate 8 exact rfl); assumption; exact extA; exact rfl; omega; assumption; intro b off h; have hcc := h; first | (obtain ⟨h1, h2, h3, h4, h5, h6, _⟩ := h) | (obtain ⟨h1, h2, h3, _⟩ := h) | (obtain ⟨h1, h2, _⟩ := h) | (obtain ⟨h1, _⟩ := h))) | (first | apply Z.tn | apply Z.bkn) | (first | apply W.seq | apply W.region | apply W.block | apply W.skip))
   refine Z.again1 ⟨by omega, fun j y hj hy => ?_⟩ ⟨rfl, rfl, trivial⟩
   by_cases hjk : j = k
   ·subst hjk; rw [hxx] at hy; cases hy; exact q3
   ·exact hall j y (by omega) hy
  ·have e : dec (ShortP r m) = false := dFf fun h => q3 (h.2.2 x (List.mem_of_getElem? hxx))
   repeat' (first | (apply W.cKT; exact rfl; (focus (exact dTt (by omega)))) | (first | apply WL.nil | refine WL.au (k := ?_) | (apply WL.index tOk; (iterate 8 exact rfl); assumption; exact extA; exact rfl; omega; assumption; intro b off h; have hcc := h; first | (obtain ⟨h1, h2, h3, h4, h5, h6, _⟩ := h) | (obtain ⟨h1, h2, h3, _⟩ := h) | (obtain ⟨h1, h2, _⟩ := h) | (obtain ⟨h1, _⟩ := h))) | (first | apply Z.tn | apply Z.tnr | apply Z.bkr) | (first | apply W.seq | apply W.region | apply W.block | apply W.skip | apply W.ret))
   exact Z.bd1 Tryz.results6 rfl fun m => ⟨by rw [e], Ext.at extA m⟩
 ·obtain rfl : k = r.ins.2.2.length := by omega
  have e : dec (ShortP r m) = true := dTt ⟨q1, q2, fun x hx => by
   obtain ⟨j, hj⟩ := List.mem_iff_getElem?.1 hx
   exact hall j x (lGt hj) hj⟩
  repeat' (first | (apply W.cKF; exact rfl; exact dFf (by omega)) | (first | apply WL.nil | refine WL.au (k := ?_)) | (first | apply Z.tn | apply Z.tnx | apply Z.bkx) | (first | apply W.seq | apply W.region | apply W.ret | apply W.exit))
  exact Z.bd1 Tryz.results6 rfl fun m => ⟨by rw [e], Ext.at extA m⟩

theorem law_CoiExtends (c : Circ) (Y : Int) (r : RunV) (w : World) (hC : CAt w c) (hR : RAt w r) : Pure Tryz.prog 3 [c.val, .int .i64 Y, r.val] w (.bool true) := by
 by_cases hf : FewC c.t 14 /\ c.max <= 300 /\ GoodC' c.t
 rotate_left
 ·refine Spec.of _ Tryz.func3 rfl Tryz.ntmps3 (by kernel_rfl) rfl ?_
  repeat' (first | (apply WL.box; (iterate 3 exact rfl); intro gb w' hb hge hc hx; have hcc := hc; obtain ⟨h1, h2, h3, _⟩ := hc) | (apply WL.gT; exact rfl; exact rfl; (focus ((rw [dFf hf]; rfl); done))) | (apply WL.callP (f := 5); (iterate 4 exact rfl); exact law11_Small c 14 _ (hC.ext extA) (by decide); intro w' hx) | (apply WL.callP (f := 7); (iterate 4 exact rfl); exact law42_lives _; intro w' hx) | (first | apply WL.nil | refine WL.au (k := ?_) | (apply WL.gdF; exact rfl; exact rfl)) | (first | apply Z.tn | apply Z.tnr) | (first | apply W.seq | apply W.region | apply W.ret | (apply W.condT; exact rfl)))
  exact Z.bd1 Tryz.results3 rfl fun m => ⟨rfl, Ext.at extA m⟩
 by_cases hs : ShortP r 10
 rotate_left
 ·refine Spec.of _ Tryz.func3 rfl Tryz.ntmps3 (by kernel_rfl) rfl ?_
  repeat' (first | (apply WL.box; (iterate 3 exact rfl); intro gb w' hb hge hc hx; have hcc := hc; obtain ⟨h1, h2, h3, _⟩ := hc) | (apply WL.gF; exact rfl; exact rfl; (focus ((rw [dTt hf]; rfl)))) | (apply W.cKT; exact rfl; (focus ((rw [dFf hs]; rfl); done))) | (apply WL.callP (f := 5); (iterate 4 exact rfl); exact law11_Small c 14 _ (hC.ext extA) (by decide); intro w' hx) | (apply WL.callP (f := 6); (iterate 4 exact rfl); exact law17_Short r 10 _ (hR.ext extA); intro w' hx) | (apply WL.callP (f := 7); (iterate 4 exact rfl); exact law42_lives _; intro w' hx) | (first | apply WL.nil | refine WL.au (k := ?_)) | (first | apply Z.tn | apply Z.tnr) | (first | apply W.seq | apply W.region | apply W.ret))
  exact Z.bd1 Tryz.results3 rfl fun m => ⟨rfl, Ext.at extA m⟩
 have hf' := hf
 obtain ⟨hfew, hmx, hg⟩ := hf'
 obtain ⟨hz, hz7⟩ := few_sz2 hfew (by decide)
 have hn : r.ins.2.2.length <= 100000 := by have := hs.2.1; omega
 have hgd : GoodC' (redC c.t Y) := red_good hg hz
 have hzd : SzC (redC c.t Y) 100000 := by
  obtain ⟨f1, f2, f3, f4, f5, f6, f7, f8⟩ := hfew
  exact red_sz hg (by omega) (by omega) (by omega) (by omega)
 have hkf : (!dec (FewC c.t 14 /\ c.max <= 300 /\ GoodC' c.t)) = false := by rw [dTt hf]; rfl
 have hks : (!dec (ShortP r 10)) = false := by rw [dTt hs]; rfl
 refine Spec.of _ Tryz.func3 rfl Tryz.ntmps3 (by kernel_rfl) rfl ?_
 repeat' (first | (apply WL.box; (iterate 3 exact rfl); intro gb w' hb hge hc hx; have hcc := hc; obtain ⟨h1, h2, h3, _⟩ := hc; (first | (have h_0 := g3; clear h_0; obtain ⟨g5, rfl⟩ : ∃ x, x = gb := ⟨_, rfl⟩; obtain ⟨wr, rfl⟩ : ∃ x, x = w' := ⟨_, rfl⟩; obtain ⟨hxr, rfl⟩ : ∃ x, x = hx := ⟨_, rfl⟩; have hcr : Cells wr g5 0 [rowVal r.st, rowVal r.ins] := hcc) | (obtain ⟨g3, rfl⟩ : ∃ x, x = gb := ⟨_, rfl⟩; obtain ⟨wc, rfl⟩ : ∃ x, x = w' := ⟨_, rfl⟩; obtain ⟨hxc, rfl⟩ : ∃ x, x = hx := ⟨_, rfl⟩; have hcells : Cells wc g3 0 c.vals := hcc))) | (apply WL.gF; exact rfl; exact rfl; (focus (with_reducible exact hkf))) | (apply W.cKF; exact rfl; (focus (with_reducible exact hks; done))) | (apply WL.callP (f := 5); (iterate 4 exact rfl); exact law11_Small c 14 _ (hC.ext extA) (by decide); intro w' hx) | (apply WL.callP (f := 6); (iterate 4 exact rfl); exact law17_Short r 10 _ (hR.ext extA); intro w' hx) | (first | apply WL.nil | refine WL.au (k := ?_)) | apply Z.tn | (first | apply W.seq | apply W.region | apply W.skip))
 obtain ⟨w1, rfl⟩ : ∃ x, x = w' := ⟨_, rfl⟩
 have hXr1 : Ext wr w1 := extA
 have hXw1 : Ext w w1 := hxc.trans (hxr.trans hXr1)
 have hc1 : Cells w1 g3 0 c.vals := Cells.ext (hxr.trans hXr1) hcells
 have hr1 : Cells w1 g5 0 [rowVal r.st, rowVal r.ins] := Cells.ext hXr1 hcr
 have hC1 := hC.ext hXw1
 have hR1 := hR.ext hXw1
 clear hcells hcr hXr1 hxc hxr
 refine W.cutT (σ := (Nat × RunV) × World) (fun s => Ext w1 s.2 /\ Cells s.2 s.1.1 0 [rowVal s.1.2.st, rowVal s.1.2.ins] /\ RAt s.2 s.1.2 /\ s.1.2.s = extS c.t Y r.s /\ s.1.2.i = r.i.map (extI c.t Y)) (fun s => [(1, .int .i64 Y), (3, .pointer (some ⟨g3, 0, none⟩)), (5, .pointer (some ⟨g5, 0, none⟩)), (7, .pointer (some ⟨s.1.1, 0, none⟩))]) (fun s => s.2) ?_ ?_
 ·skip
  repeat' (first | (show W _ _ (.region 3 _ _) _ _ _; apply W.regionGX (.fl true 2 (.fl false 0 (.fl false 3 (.br 1 (.br 4 (.br 5 (.br 6 .done .stop) .stop) (.br 5 (.br 4 (.br 6 .done .stop) .stop) .stop)) (.br 5 (.br 1 (.br 4 (.br 6 .done .stop) .stop) .stop) .stop))))) [1, 3, 4, 5] tMix; kernel_rfl) | (apply FL.loadAE (vs := c.vals) tOk; (iterate 5 exact rfl); exact hc1; exact rfl) | (apply FL.loadAE (vs := [rowVal r.st, rowVal r.ins]) tOk; (iterate 5 exact rfl); exact hr1; exact rfl) | (apply WL.call (f := 9); (iterate 4 exact rfl); exact law11_Own c _ (hC1.ext extA) hz hz7; rintro v' w4 ⟨hx4, d, rfl, hdt, hOd⟩; have hCd := hOd.at) | (apply WL.call (f := 8); (iterate 4 exact rfl); exact coi_Extend d Y r _ (hCd.ext extA) (by rw [hdt]; exact hg) (by rw [hdt]; exact hz) (hR1.ext extA) hn; rintro v' w5 ⟨hx5, x, rfl, hRx, hxs, hxi, hst⟩; rw [hdt] at hxs hxi) | (show WL _ _ _ (⟨some 7, .alloc _, _, _, _, _⟩ :: _) _ _ _; apply WL.alloc tOk; (iterate 3 exact rfl); intro g7 wA hbA hgeA hxA) | (first | (apply SX.fl0; exact rfl) | (apply SX.fl1; exact rfl; exact extA) | (apply SX.br1; exact rfl; intro w' hx) | (apply SX.br; exact rfl; (intro w' hx))) | apply FL.nilX | refine FL.au (k := ?_) | (apply Z.sxE; exact extA) | apply WL.nil)
  all_goals
   apply WL.storeB (w0 := w1) tOk
   ·exact rfl
   ·exact rfl
   ·exact rfl
   ·exact rfl
   ·exact hbA
   ·exact extA
   ·kernel_rfl
   ·kernel_rfl
   ·kernel_rfl
   ·exact extA
   ·exact Nat.le_trans (Below.size extA) hgeA
   intro w6 hb7 hc7 hX7 hU7
   have hR6 : RAt w6 x := by
    have e2 := heap_lt hbA
    have key : ∀ wq : World, Upd g7 (some ⟨g7, 0, none⟩) wq w6 -> Ext w5 wq -> RAt w6 x := fun wq hU hx => hst w6 (Nat.le_trans (Below.size hx) hU.size) (fun k k1 k2 => (hU.grown.block k (Nat.lt_of_lt_of_le k2 (Below.size hx)) (fun he => by
     simp only [blk, Option.map_some, Option.some.injEq] at he
     first
     | (have e3 : w5.heap.size <= g7 := Nat.le_trans (Below.size (show Ext w5 _ from extA)) hgeA; omega)
     | (have e3 : wA.heap.size <= k := Nat.le_trans (Below.size (show Ext wA _ from extA)) k1; omega))).trans (hx.block k k2))
    exact key _ hU7 extA
   repeat' (first | (apply SX.done; intro w' hx) | (apply Z.sxL; exact rfl) | apply WL.nil)
   exact Z.cut ((g7, x), w') ⟨hX7.trans (show Ext w6 w' from extA), Cells.ext (show Ext w6 w' from extA) hc7, hR6.ext (show Ext w6 w' from extA), hxs, hxi⟩ (by repeat' first | exact trivial | (refine And.intro ?_ ?_) | exact rfl) rfl
 rintro ⟨⟨g7, x⟩, w6⟩ ⟨hX6, hc7, hRx, hxs, hxi⟩
 dsimp only at hX6 hc7 hRx hxs hxi ⊢
 have hc6 := Cells.ext hX6 hc1
 have hr6 := Cells.ext hX6 hr1
 have hC6 := hC1.ext hX6
 have hR6 := hR1.ext hX6
 obtain ⟨bb, hbb⟩ : ∃ bb, bb = true := ⟨_, rfl⟩
 have kbb : (!bb) = false := by rw [hbb]; rfl
 repeat' (first | (show W _ _ (.region 4 _ _) _ _ _; apply W.regionGX (.fl true 3 (.fl false 0 (.fl true 1 (.fl false 2 (.fl false 4 (.br 5 (.fl true 6 (.br 7 (.fl true 8 .done) .stop)) .stop)))))) [2, 4, 5, 6, 7, 8] tMix; kernel_rfl) | (apply FL.loadAE (vs := c.vals) tOk; (iterate 5 exact rfl); exact hc6; exact rfl) | (apply FL.loadAE (vs := [rowVal r.st, rowVal r.ins]) tOk; (iterate 5 exact rfl); exact hr6; exact rfl) | (apply FL.loadAE (vs := [rowVal x.st, rowVal x.ins]) tOk; (iterate 5 exact rfl); exact hc7; exact rfl) | (show FL _ _ _ _ (⟨some 26, .build 39 _, _, _, _, _⟩ :: _) _ _ _; apply FL.build (cs := [.int .i64 0, .int .i64 0, rowVal x.st, rowVal x.ins]) tOk; (iterate 6 exact rfl); kernel_rfl; kernel_rfl) | (show FL _ _ _ _ (⟨some 31, .build 39 _, _, _, _, _⟩ :: _) _ _ _; apply FL.build (cs := [.int .i64 0, .int .i64 0, rowVal y.st, rowVal y.ins]) tOk; (iterate 6 exact rfl); kernel_rfl; kernel_rfl) | (apply W.cKF; exact rfl; (focus (with_reducible exact kbb; done))) | (apply WL.call (f := 11); (iterate 4 exact rfl); exact r42_Extend c Y r _ (hC6.ext extA) hg hz (hR6.ext extA) hn; rintro v' w7 ⟨hx7, y, rfl, hRy, hys, hyi⟩; have hX67 : Ext w6 w7 := extA; have hsm := fun (w9 : World) (h9 : Ext w7 w9) => ref18_SameT x y w9 (hRx.ext (hX67.trans h9)) (hRy.ext h9) (hxs.trans hys.symm) (hxi.trans hyi.symm); rw [<- hbb] at hsm) | (apply WL.callP (f := 10); (iterate 4 exact rfl); exact hsm _ extA; intro w8 hx8) | (apply WL.call (f := 12); (iterate 4 exact rfl); exact r42_Reduce c Y _ (hC6.ext extA) hg hz; rintro v' w9 ⟨hx9, d, q1, q2, rfl, hdt, hCd⟩) | (apply WL.alloc tOk; (iterate 3 exact rfl); intro g8 wB hb8 hge8 hx8b) | (apply WL.storeB (w0 := w9) tOk; (iterate 4 exact rfl); assumption; exact extA; (iterate 3 exact rfl); exact extA; assumption; intro w10 hb10 hc hX10 hU; have hcc := hc; obtain ⟨h1, h2, _⟩ := hc) | (first | (apply SX.done; intro w' hx) | (apply SX.fl0; exact rfl) | (apply SX.fl1; exact rfl; exact extA) | (apply SX.br1; exact rfl; intro w' hx)) | apply FL.nilX | refine FL.au (k := ?_) | (apply Z.sxE; exact extA) | (first | apply WL.nil | refine WL.au (k := ?_)) | apply Z.tn | (first | apply W.seq | apply W.region | apply W.skip))
 have hX6T : Ext w6 w10 := extA
 have hcd := cHp hb10
 have hCd10 := hCd.ext hX10
 have hc10 : Cells w10 g3 0 c.vals := Cells.ext hX6T hc6
 have hr10 : Cells w10 g5 0 [rowVal r.st, rowVal r.ins] := Cells.ext hX6T hr6
 have hx10 : Cells w10 g7 0 [rowVal x.st, rowVal x.ins] := Cells.ext hX6T hc7
 have hC10 := hC6.ext hX6T
 have hR10 := hR6.ext hX6T
 have hRx10 := hRx.ext hX6T
 have hX0 : Ext w w10 := (hXw1.trans hX6).trans hX6T
 have hxn : x.ins.2.2.length <= 1048576 := by
  have h1 : x.i.length = x.ins.2.2.length := List.length_map _
  have h2 : r.i.length = r.ins.2.2.length := List.length_map _
  have h3 : x.i.length = (r.i.map (extI c.t Y)).length := by rw [hxi]
  have h4 : (r.i.map (extI c.t Y)).length = r.i.length := List.length_map _
  omega
 have hnw1 := fun (w0 : World) (h0 : Ext w10 w0) => ref17_New d w0 (hCd10.ext h0) (by rw [hdt]; exact hgd) (by rw [hdt]; exact hzd)
 have hnw2 := fun (w0 : World) (h0 : Ext w10 w0) => ref17_New c w0 (hC10.ext h0) hg hz
 clear hX10 hb10 hb8 hX6 hX6T hc6 hr6 hc7 hC6 hR6 hRx hC1 hR1 hc1 hr1 hsm hXw1 hCd
 obtain ⟨z0, z1, z2, z3, z4, _⟩ := id hc10
 by_cases hbr : BreaksP (redC c.t Y) r.s r.i 0
 ·have hbx := ext_breaks hg hz hbr
  obtain ⟨hp0, l, hl, _⟩ := hbx.2.2.2
  have hpl := lGt hl
  have hpl' : Y.toNat < c.bads.2.2.length := hpl
  repeat' (first | (show W _ _ (.region 7 _ _) _ _ _; apply W.regionGX (.fl false 0 (.fl false 2 (.br 1 (.br 3 (.fl true 4 (.fl true 5 (.fl true 6 (.fl true 7 (.fl true 8 (.fl true 9 (.fl true 10 (.fl true 11 (.fl false 12 (.fl true 13 (.fl true 14 (.fl true 15 (.fl true 16 (.fl true 20 (.fl false 17 (.fl false 19 (.br 18 (.br 21 (.fl true 22 (.fl true 23 (.br 24 (.fl true 25 (.fl true 26 .done)) .stop))) .stop) .stop))))))))))))))))) .stop) .stop))) [1, 2, 3, 4, 5, 6, 7, 8, 9, 10, 11, 12, 13, 14, 15, 16, 17, 18, 19, 20, 21, 22, 23, 24, 25] tMix; kernel_rfl) | (apply WL.gT; exact rfl; exact rfl; (focus (with_reducible exact hbb; done))) | (apply FL.gF; exact rfl; exact rfl; (focus (first | with_reducible exact kbb | exact dFf (by omega)))) | (apply WL.call (f := 13); (iterate 4 exact rfl); exact hnw1 _ extA; rintro v' wM ⟨hxM, gm, rn, ra, rfl, hM, _⟩; have hb1 := fun (w0 : World) (h0 : Ext wM w0) => ref17_Breaks gm d rn ra r 0 w0 (hM.ext h0) (hR10.ext ((show Ext w10 wM from extA).trans h0)) (by omega); rw [hdt, dTt hbr, <- hbb] at hb1) | (apply WL.call (f := 13); (iterate 4 exact rfl); exact hnw2 _ extA; rintro v' wN ⟨hxN, gn, rn2, ra2, rfl, hM2, _⟩; have hb2 := fun (w0 : World) (h0 : Ext wN w0) => ref17_Breaks gn c rn2 ra2 x Y w0 (hM2.ext h0) (hRx10.ext ((show Ext w10 wN from extA).trans h0)) hxn; rw [hxs, hxi, dTt hbx, <- hbb] at hb2) | (apply WL.callP (f := 14); (iterate 4 exact rfl); exact hb1 _ extA; intro w11 hx11) | (apply WL.callP (f := 14); (iterate 4 exact rfl); exact hb2 _ extA; intro w12 hx12) | (apply WL.callP (f := 7); (iterate 4 exact rfl); exact law42_lives _; intro w' hx) | (first | (apply SX.done; intro w' hx) | (apply SX.fl0; exact rfl) | (apply SX.fl1; exact rfl; exact extA) | (apply SX.br1; exact rfl; intro w' hx)) | (first | apply FL.nilX | (apply FL.loadE tOk; (iterate 5 exact rfl); assumption) | (apply FL.loadAE tOk; (iterate 5 exact rfl); assumption; exact rfl)) | refine FL.au (k := ?_) | (apply Z.sxE; exact extA) | apply WL.nil | apply Z.tn | apply W.ret)
  all_goals exact Z.bd1 Tryz.results3 rfl fun m => ⟨rfl, Ext.at (hX0.trans extA) m⟩
 ·obtain ⟨c0, hc0⟩ : ∃ c0, c0 = false := ⟨_, rfl⟩
  have kc0 : (!c0) = true := by rw [hc0]; rfl
  repeat' (first | (show W _ _ (.region 7 _ _) _ _ _; apply W.regionGX (.fl false 0 (.fl false 2 (.br 1 (.br 3 (.fl true 4 (.fl true 5 (.fl true 6 (.fl true 7 (.fl true 8 (.fl true 9 (.fl true 10 (.fl true 11 (.fl false 12 (.fl true 13 (.fl true 14 (.fl true 15 (.fl true 16 (.fl true 20 (.fl false 17 (.fl false 19 (.br 18 (.br 21 (.fl true 22 (.fl true 23 (.br 24 (.fl true 25 (.fl true 26 .done)) .stop))) .stop) .stop))))))))))))))))) .stop) .stop))) [1, 2, 3, 4, 5, 6, 7, 8, 9, 10, 11, 12, 13, 14, 15, 16, 17, 18, 19, 20, 21, 22, 23, 24, 25] tMix; kernel_rfl) | (apply FL.gT; exact rfl; exact rfl; (focus (with_reducible exact kc0; done))) | (apply WL.call (f := 13); (iterate 4 exact rfl); exact hnw1 _ extA; rintro v' wM ⟨hxM, gm, rn, ra, rfl, hM, _⟩; have hb1 := fun (w0 : World) (h0 : Ext wM w0) => ref17_Breaks gm d rn ra r 0 w0 (hM.ext h0) (hR10.ext ((show Ext w10 wM from extA).trans h0)) (by omega); rw [hdt, dFf hbr, <- hc0] at hb1) | (apply WL.callP (f := 14); (iterate 4 exact rfl); exact hb1 _ extA; intro w11 hx11) | (apply WL.callP (f := 7); (iterate 4 exact rfl); exact law42_lives _; intro w' hx) | (first | (apply SX.done; intro w' hx) | (apply SX.fl0; exact rfl) | (apply SX.fl1; exact rfl; exact extA) | (apply SX.br1; exact rfl; intro w' hx)) | (first | apply FL.nilX | (apply FL.loadAE tOk; (iterate 5 exact rfl); assumption; exact rfl)) | (first | refine FL.au (k := ?_) | (apply FL.gdF; exact rfl; exact rfl)) | (apply Z.sxE; exact extA) | (first | apply WL.nil | (apply WL.gdF; exact rfl; exact rfl)) | apply Z.tn | apply W.ret)
  all_goals exact Z.bd1 Tryz.results3 rfl fun m => ⟨rfl, Ext.at (hX0.trans extA) m⟩
open Go Go.Lt Go.RowKit Go.ChangeShapes Go.WideShapes Go.ChangeAt Go.Deep

set_option maxRecDepth 20000 in
theorem circ_of {H : Type} {en : TypeId × Value -> H} {w : World} {base : Nat} {spare : Nat -> Bool} {held : Bool} {r : Reach} {b0 : Nat} {v : Value} {d : DataW H} {ps : List MemPlace} (hval : Value.okWide Tryz.prog w r b0 27 v) (hd : DataW.Trod en Tryz.prog w base spare held 27 v d ps) : ∃ c : Circ, v = c.val /\ CAt w c := by
 obtain ⟨⟨m, ins, lat, outs, bads, cons, gates, syms, com, _⟩, hv, _, ki, kl, ko, kb, kc, kg, ks, _⟩ := struct_of (reads_struct Tryz.underlying27 (by kernel_rfl) (by kernel_rfl) (readsF_cons (reads_int Tryz.underlying3) (readsF_cons (reads_row (s := 1) (reads_int Tryz.underlying3) (by kernel_rfl) Tryz.underlying22 (fun _ => rfl) (by decide)) (readsF_cons (reads_row (s := 3) (reads_triple' (s0 := 1) (s1 := 1) (s2 := 1) Tryz.underlying69 (reads_int Tryz.underlying3) (reads_int Tryz.underlying3) (reads_int Tryz.underlying3) (by kernel_rfl) rfl rfl rfl (by kernel_rfl) (by kernel_rfl) (by kernel_rfl)) (by kernel_rfl) Tryz.underlying23 (fun _ => rfl) (by decide)) (readsF_cons (reads_row (s := 1) (reads_int Tryz.underlying3) (by kernel_rfl) Tryz.underlying22 (fun _ => rfl) (by decide)) (readsF_cons (reads_row (s := 1) (reads_int Tryz.underlying3) (by kernel_rfl) Tryz.underlying22 (fun _ => rfl) (by decide)) (readsF_cons (reads_row (s := 1) (reads_int Tryz.underlying3) (by kernel_rfl) Tryz.underlying22 (fun _ => rfl) (by decide)) (readsF_cons (reads_row (s := 3) (reads_triple' (s0 := 1) (s1 := 1) (s2 := 1) Tryz.underlying86 (reads_int Tryz.underlying3) (reads_int Tryz.underlying3) (reads_int Tryz.underlying3) (by kernel_rfl) rfl rfl rfl (by kernel_rfl) (by kernel_rfl) (by kernel_rfl)) (by kernel_rfl) Tryz.underlying24 (fun _ => rfl) (by decide)) (readsF_cons (reads_row (s := 3) (reads_triple' (s0 := 1) (s1 := 1) (s2 := 1) Tryz.underlying119 (reads_int Tryz.underlying5) (reads_int Tryz.underlying3) (reads_string Tryz.underlying9) (by kernel_rfl) rfl rfl rfl (by kernel_rfl) (by kernel_rfl) (by kernel_rfl)) (by kernel_rfl) Tryz.underlying25 (fun _ => rfl) (by decide)) (readsF_cons (reads_string Tryz.underlying9) (readsF_nil _))))))))))) Tryz.underlying27 hval hd
 exact ⟨⟨m, ins, lat, outs, bads, cons, gates, syms, com⟩, hv, ⟨ki.1, ki.2.1, ki.2.2.2.1⟩, ⟨kl.1, kl.2.1, kl.2.2.2.1⟩, ⟨ko.1, ko.2.1, ko.2.2.2.1⟩, ⟨kb.1, kb.2.1, kb.2.2.2.1⟩, ⟨kc.1, kc.2.1, kc.2.2.2.1⟩, ⟨kg.1, kg.2.1, kg.2.2.2.1⟩, ⟨ks.1, ks.2.1, ks.2.2.2.1⟩⟩

set_option maxRecDepth 20000 in
theorem run_of {H : Type} {en : TypeId × Value -> H} {w : World} {base : Nat} {spare : Nat -> Bool} {held : Bool} {r : Reach} {b0 : Nat} {v : Value} {d : DataW H} {ps : List MemPlace} (hval : Value.okWide Tryz.prog w r b0 31 v) (hd : DataW.Trod en Tryz.prog w base spare held 31 v d ps) : ∃ r : RunV, v = r.val /\ RAt w r := by
 obtain ⟨⟨st, ins, _⟩, hv, ks, ki, _⟩ := struct_of (reads_struct Tryz.underlying31 (by kernel_rfl) (by kernel_rfl) (readsF_cons (reads_row (s := 1) (reads_bool Tryz.underlying4) (by kernel_rfl) Tryz.underlying28 (fun _ => rfl) (by decide)) (readsF_cons (reads_row (s := 1) (reads_row (s := 1) (reads_bool Tryz.underlying4) (by kernel_rfl) Tryz.underlying28 (fun _ => rfl) (by decide)) (by kernel_rfl) Tryz.underlying29 (fun _ => rfl) (by decide)) (readsF_nil _)))) Tryz.underlying31 hval hd
 exact ⟨⟨st, ins⟩, hv, ⟨ks.1, ki.1, fun x hx => (ki.2.2.2.2 x hx).1⟩⟩
open Go Go.Lt Go.ChangeShapes Go.WideShapes Go.ChangeAt Go.RowKit
open Go.ChangeMaps (open_string shut_string)
namespace coiExtends
theorem own : ownKnob Tryz.prog.godebug = none := by kernel_rfl
theorem laidOut : laidOutB Tryz.prog = true := factLaid
set_option maxRecDepth 100000 in
theorem lifted (os : Os) (started : os.Started) (H : Type) (enc : TypeId × Value -> H) :
  ReturnsInHanded {} Tryz.checked os 3 .any (Rows.coiExtendsSpec.pre6 enc Tryz.prog Tryz.f3 Rows.coiExtendsRow.domain false) (Rows.coiExtendsSpec.post enc Tryz.prog Tryz.f3 false true false false) := by
 refine returnsInHanded_of_change (C := Tryz.checked) own started (by kernel_rfl) Tryz.func3
  (ChangeSpec.witness6 (enc := enc) (C := Tryz.checked) false ⟨#[], #[.agg #[.int .i64 0, .slice none 0 0, .slice none 0 0, .slice none 0 0, .slice none 0 0, .slice none 0 0, .slice none 0 0, .slice none 0 0, .string ⟨#[]⟩], .int .i64 0, .agg #[.slice none 0 0, .slice none 0 0]], []⟩ 8 (by kernel_rfl) (by kernel_rfl) (by kernel_rfl) (by kernel_rfl)) ?_
 intro W base args ds gs before hval0 hW hcnd _
 have hval : ∀ (j : Nat) t v, Tryz.f3.params[j]? = some t -> args[j]? = some v -> Value.okWide Tryz.prog W .any base t v := hval0
 have hW' := hW
 obtain ⟨p, q, hA0, hV, rfl, hfz, hnd⟩ := hW
 have hA : DataW.TrodAll enc Tryz.prog W 0 (fun _ => true) true Tryz.f3.params.toList args.toList ds p := hA0
 rw [Tryz.params3] at hA hval
 obtain ⟨v0, vs0, d0, ds0, p0, q0, hargs, rfl, rfl, h0, r0⟩ := trodAll_cons hA
 obtain ⟨v1, vs1, d1, ds1, p1, q1, rfl, rfl, rfl, h1, r1⟩ := trodAll_cons r0
 obtain ⟨v2, vs2, d2, ds2, p2, q2, rfl, rfl, rfl, h2, r2⟩ := trodAll_cons r1
 obtain ⟨rfl, rfl, rfl⟩ := trodAll_nil r2
 obtain rfl : args = #[v0, v1, v2] := by cases args; simp_all
 obtain ⟨rfl, rfl⟩ := trodVars_none hV
 have k0 := h0
 have lt0 : ∀ x ∈ p0, x.block < W.heap.size := by obtain ⟨m, hm⟩ := k0; exact DataW.trod_lt m _ _ _ hm
 have k1 := h1
 have lt1 : ∀ x ∈ p1, x.block < W.heap.size := by obtain ⟨m, hm⟩ := k1; exact DataW.trod_lt m _ _ _ hm
 have k2 := h2
 have lt2 : ∀ x ∈ p2, x.block < W.heap.size := by obtain ⟨m, hm⟩ := k2; exact DataW.trod_lt m _ _ _ hm
 obtain ⟨c0, rfl, hC0⟩ := circ_of (hval 0 27 v0 rfl rfl) h0
 obtain ⟨n1, rfl, rfl, rfl, w1⟩ := open_int Tryz.underlying3 (hval 1 3 v1 rfl rfl) h1
 obtain ⟨r2v, rfl, hR2⟩ := run_of (hval 2 31 v2 rfl rfl) h2
 clear hA0 hval0
 refine (Spec.law (law_CoiExtends c0 n1 r2v W hC0 hR2)).mono fun e W' ⟨he, bel⟩ => ?_
 subst he
 exact ⟨_, rfl, _, _, _, [], _, [], hW', trodAll_mk1 (shut_bool Tryz.underlying4 _), (trodAll_cons_mk (Below.trod laidOut (by kernel_rfl) (of_decide_eq_true (by kernel_rfl)) k0 bel lt0) (trodAll_cons_mk (Below.trod laidOut (by kernel_rfl) (of_decide_eq_true (by kernel_rfl)) k1 bel lt1) (trodAll_cons_mk (Below.trod laidOut (by kernel_rfl) (of_decide_eq_true (by kernel_rfl)) k2 bel lt2) trodAll_mk0))), rfl, bel.frame _, fun h => by cases h⟩
theorem j0 : (Rows.coiExtendsRow.wf (OpenSpec.ofChange Rows.coiExtendsSpec)) = true := by kernel_rfl
theorem j3 : (Tryz.f3.params.all (Tryz.prog.readableRec ·)) = true := by kernel_rfl
theorem j4 : (namedTie Tryz.prog Rows.coiExtendsRow.named Rows.coiExtendsSpec.vars) = true := by kernel_rfl
theorem j5 : ((Rows.coiExtendsRow.stops == [])) = true := by kernel_rfl
theorem j7 : ((Rows.coiExtendsRow.knobs == [])) = true := by kernel_rfl
theorem j9 : ((Rows.coiExtendsRow.inPlace == Tryz.prog.inPlace 3)) = true := by kernel_rfl
theorem j10 : ((Rows.coiExtendsRow.unfollowed == Tryz.prog.unfollowed 3)) = true := by kernel_rfl
theorem j11 : ((Rows.coiExtendsRow.recurses == Tryz.prog.recurses 3)) = true := by kernel_rfl
theorem j12 : ((Rows.coiExtendsRow.named == Tryz.prog.varsNamed 3)) = true := by kernel_rfl
theorem j13 : ((Rows.coiExtendsRow.maps == (Tryz.f3.params.toList ++ Rows.coiExtendsSpec.plain.varTypes Tryz.prog).any (Tryz.prog.mapsRec ·))) = true := by kernel_rfl
theorem j14 : ((Rows.coiExtendsRow.ifaces == (Tryz.f3.params.toList ++ Rows.coiExtendsSpec.plain.varTypes Tryz.prog).any (Tryz.prog.ifacesRec ·))) = true := by kernel_rfl
theorem j15 : ((Rows.coiExtendsRow.mapsOut == Tryz.prog.mapsAmong Tryz.f3.resultTypes.toList)) = true := by kernel_rfl
theorem j16 : ((Rows.coiExtendsRow.loops == (Tryz.f3.params.toList ++ Rows.coiExtendsSpec.plain.varTypes Tryz.prog).any (Tryz.prog.loopsFrom ·))) = true := by kernel_rfl
theorem j17 : ((Rows.coiExtendsRow.wideKeys == (Tryz.f3.params.toList ++ Rows.coiExtendsSpec.plain.varTypes Tryz.prog ++ Tryz.f3.resultTypes.toList).any (Tryz.prog.wideKeysFrom ·))) = true := by kernel_rfl
theorem j18 : (Rows.coiExtendsSpec.vars.all (Tryz.prog.varReadable ·)) = true := by kernel_rfl
theorem j19 : (Tryz.f3.resultTypes.all (fun t => Tryz.prog.readableRec t && decide (t < Tryz.prog.types.size))) = true := by kernel_rfl
theorem j20 : ((Rows.coiExtendsRow.ifacesOut == Tryz.f3.resultTypes.toList.any (Tryz.prog.ifacesRec ·))) = true := by kernel_rfl
theorem j21 : ((Rows.coiExtendsRow.loopsOut == Tryz.f3.resultTypes.toList.any (Tryz.prog.loopsFrom ·))) = true := by kernel_rfl
theorem j22 : ((Rows.coiExtendsRow.plainKeys == Tryz.prog.plainKeys)) = true := by rw [show Rows.coiExtendsRow.plainKeys = Rows.coiExtendsRow.plainKeys by kernel_rfl]; exact factKeys
theorem j23 : (Rows.coiExtendsRow.shortTexts.isNone) = true := by kernel_rfl
theorem j26 : ((Rows.coiExtendsRow.lifted == Tryz.prog.liftsFinal)) = true := by rw [show Rows.coiExtendsRow.lifted = Rows.coiExtendsRow.lifted by kernel_rfl]; exact factLifts
theorem j27 : ((Tryz.prog.make == some Rows.coiExtendsRow.make)) = true := by rw [show Rows.coiExtendsRow.make = Rows.coiExtendsRow.make by kernel_rfl]; exact factMake
theorem j28 : ((Rows.coiExtendsRow.kinds == (if Rows.coiExtendsRow.domain.isEmpty then [] else Tryz.f3.params.toList.map fun t => match Tryz.prog.underlying t with | some (.int k) => some k | _ => none))) = true := by kernel_rfl
theorem j29 : ((Rows.coiExtendsRow.pinned == Rows.coiExtendsRow.pinnedBy)) = true := by kernel_rfl
theorem j30 : ((Rows.coiExtendsRow.veiled == (Tryz.f3.params.toList ++ Rows.coiExtendsSpec.plain.varTypes Tryz.prog ++ Tryz.f3.resultTypes.toList).any (Tryz.prog.veiledRec ·))) = true := by kernel_rfl
theorem j31 : (Rows.coiExtendsRow.veiledFits Tryz.prog Tryz.f3.params.toList (Tryz.f3.params.toList ++ Rows.coiExtendsSpec.plain.varTypes Tryz.prog ++ Tryz.f3.resultTypes.toList)) = true := by kernel_rfl
set_option maxRecDepth 100000 in
theorem closed : joinedFacts Tryz.checked.prog 3 Tryz.f3 Rows.coiExtendsSpec Rows.coiExtendsRow = true := by unfold joinedFacts; exact (band (band (band (band (band (band (band (band (band (band (band (band (band (band (band (band (band (band (band (band (band (band (band (band (band (band (band (band (band (band (band j0 factLaid) factMaps) j3) j4) j5) factStops) j7) factKnobs) j9) j10) j11) j12) j13) j14) j15) j16) j17) j18) j19) j20) j21) j22) j23) factHeard) factEnter) j26) j27) j28) j29) j30) j31)
theorem named : Tryz.checked.prog.funcNamed Rows.coiExtendsRow.func = some 3 := by kernel_rfl
theorem over : Rows.coiExtendsRow.holds Tryz.pinned (OpenSpec.ofChange Rows.coiExtendsSpec) :=
 OpenClaim.holds_of_wide 3 Tryz.f3 rfl rfl rfl rfl rfl rfl rfl ⟨rfl, rfl, rfl, rfl, rfl⟩ rfl rfl rfl rfl rfl named Tryz.func3 closed
  (of_decide_eq_true (by kernel_rfl)) (by unfold Func.isWrapper; first | (rw [if_pos (by decide +kernel)]; kernel_rfl) | (rw [if_neg (by decide +kernel)]; exact ⟨rfl, rfl⟩))
  (fun os started H enc _ => lifted os started H enc)
theorem proved : Rows.CoiExtendsSaid := over
end coiExtends
end Go.Proofs.YteidpnpbfagaeaaGreat
