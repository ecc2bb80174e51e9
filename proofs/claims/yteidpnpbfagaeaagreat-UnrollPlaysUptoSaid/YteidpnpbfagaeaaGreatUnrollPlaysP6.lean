/- UnrollPlays, where what it reads is of bulk at most 1048576: what frames of any circuit tell, one thing behind the other, and their net, are as the document says. No other conditions. -/
import Derived.Test.YteidpnpbfagaeaaGreatRows
import Derived.Lib.SmallJoins
import Derived.KernelRfl
import Derived.WalkKit
import Derived.ProofKit
import Derived.Deep.Quiet
import Derived.Deep.LoopGhost
import Derived.StillTail
import Derived.Test.YteidpnpbfagaeaaGreatProg
import Derived.OpenShut
import Derived.ShutString
import Derived.ChangeOld
import Derived.Deep.Slices
import Derived.SizedLaws
import Derived.Laws.StructEq
import Derived.Laws.Externs
import Derived.MapKept
import Derived.JoinedCond
import Derived.Test.YteidpnpbfagaeaaGreatUnrollPlaysP5
namespace Go.Proofs.YteidpnpbfagaeaaGreat
open Go Go.Lt Go.RowKit
set_option linter.unusedVariables false
set_option linter.unusedSimpArgs false
set_option maxRecDepth 20000

theorem r19_RunN {w0 w : World} {m : RM} {u : UnV} {x : RX} {rest : List Piece} (h : RAtU w0 w m u x rest) (vi : Value) (ins : List Bool) (k : Int) (hk : ¬ (0 ≤ k ∧ k < (u.own.length : Int))) :
  Lt.Spec Tryz.prog 25 [.pointer (some ⟨m.gF, 0, none⟩), vi, .int .i64 k] w (IsRunV w (runU u ins k)) := by
 have e : runU u ins k = ([], []) := by unfold runU; rw [if_neg hk]
 rw [e]
 obtain ⟨c0, c1, c2, c4, c5, c9, c10, c11, c12, c13, c14⟩ := RC'.of h.cells
 obtain ⟨l1, l2, l3⟩ := h.lens
 refine Spec.of _ Tryz.func25 rfl Tryz.ntmps25 (by kernel_rfl) rfl ?_
 by_cases h0 : k < 0
 ·repeat' (first
   | (apply WL.build tOk; (iterate 7 exact rfl); kernel_rfl)
   | (apply WL.alloc tOk; (iterate 3 exact rfl); intro gb w' hb hge hx)
   | (apply WL.storeB (w0 := w) tOk; (iterate 4 exact rfl); assumption; (exact extA); (iterate 3 exact rfl); (exact extA); (assumption); intro w' hb hc hX' hU; have hcc := hc; obtain ⟨h1, h2, _⟩ := hc)
   | (apply WL.gT; exact rfl; exact rfl; (focus (exact dec_true (by omega))))
   | (show WL _ _ _ _ _ _ _; first | apply WL.nil | (refine WL.au (k := ?_)) | (apply WL.guardF; exact rfl; exact rfl))
   | (show Z _ _ _ _ _; first | apply Z.then_normal | apply Z.then_ret)
   | (show W _ _ _ _ _ _; first | apply W.seq | apply W.region | apply W.ret | (apply W.condT; exact rfl))
   | fail)
  exact Z.bodyC tOk Tryz.results25 rfl rfl rfl rfl hcc fun q => ⟨Ext.at extA q, ⟨(none, 0, []), (none, 0, [])⟩, rfl, ⟨Row.nil _ _ _ _, Row.nil _ _ _ _, fun y hy => by cases hy⟩, rfl, rfl⟩
 ·repeat' (first
   | (apply WL.nilc; (iterate 3 exact rfl))
   | (apply WL.build tOk; (iterate 7 exact rfl); kernel_rfl)
   | (apply WL.alloc tOk; (iterate 3 exact rfl); intro gb w' hb hge hx)
   | (apply WL.storeB (w0 := w) tOk; (iterate 4 exact rfl); assumption; (exact extA); (iterate 3 exact rfl); (exact extA); (assumption); intro w' hb hc hX' hU; have hcc := hc; obtain ⟨h1, h2, _⟩ := hc)
   | (apply WL.gF; exact rfl; exact rfl; (focus (exact dec_false (by omega); done)))
   | (apply W.condKT; exact rfl; (focus (exact dec_true (by omega))))
   | (show WL _ _ _ _ _ _ _; first | apply WL.nil | (refine WL.au (k := ?_)))
   | (show Z _ _ _ _ _; first | apply Z.then_normal | apply Z.then_ret)
   | (show W _ _ _ _ _ _; first | apply W.seq | apply W.region | apply W.ret)
   | fail)
  exact Z.bodyC tOk Tryz.results25 rfl rfl rfl rfl hcc fun q => ⟨Ext.at extA q, ⟨(none, 0, []), (none, 0, [])⟩, rfl, ⟨Row.nil _ _ _ _, Row.nil _ _ _ _, fun y hy => by cases hy⟩, rfl, rfl⟩
set_option maxHeartbeats 16000000 in
theorem r19_Run {w0 w : World} {m : RM} {u : UnV} {x : RX} {rest : List Piece} (h : RAtU w0 w m u x rest) (hz : SzC m.d.t 100000) (hU : UOk m.d.t u) (hN : u.N.length ≤ 1000000) (hF : u.own.length ≤ 100000) (ab : Option Addr) (cb : Nat) (ins : List Bool) (k : Int) (Rb : Row 1 encB w ab ins) (hi : ins.length ≤ 1048576) (hk : 0 ≤ k ∧ k < (u.own.length : Int)) :
  Lt.Spec Tryz.prog 25 [.pointer (some ⟨m.gF, 0, none⟩), .slice ab ins.length cb, .int .i64 k] w (IsRunV w (runU u ins k)) := by
 have z1 : m.d.ins.2.2.length ≤ 100000 := hz.1
 have z2 : m.d.lat.2.2.length ≤ 100000 := hz.2.1
 obtain ⟨V, hV⟩ : ∃ V, V = values u.N ins := ⟨_, rfl⟩
 have e : runU u ins k = ((rowU u.st 0).map (ofL V), (u.ins.take (k.toNat + 1)).map (fun l => l.map (ofL V))) := by unfold runU; rw [if_pos hk, hV]
 rw [e]
 obtain ⟨c0, c1, c2, c4, c5, c9, c10, c11, c12, c13, c14⟩ := RC'.of h.cells
 obtain ⟨l1, l2, l3⟩ := h.lens
 have hls := hU.ls
 have hli := hU.li
 have h0s : (0 : Int) ≤ 0 ∧ (0 : Int) < (u.st.length : Int) := by omega
 obtain ⟨s, hs, hse⟩ := row_in h.kn.hs h0s
 have RS0 := h.rows.rs s (List.mem_of_getElem? hs)
 have hst := hU.st _ (rowU_mem h0s).2
 rw [← hse] at hst
 rw [← hse]
 have hs0 : x.ss[(0 : Int).toNat]? = some s := hs
 have Rst := Own.row encRow_ok h.srow
 have Ris := Own.row encRow_ok h.irow
 have RN : Row 2 encN w x.a u.N := Own.row encN_ok (h.sep.row (i := 1) (el := 84) rfl)
 have hcN : u.N.length ≤ x.cap := Own.capLe (h.sep.row (i := 1) (s := 2) (enc := encN) (el := 84) rfl)
 have hNc : w.cell? ⟨m.gs, 0, none⟩ = some (.slice x.a u.N.length x.cap) := (cells_heap (h.sep.cell (i := 0) rfl)).1
 have hsv := hasL_val ins hN hst.2
 rw [← hV] at hsv
 refine Spec.of _ Tryz.func25 rfl Tryz.ntmps25 (by kernel_rfl) rfl ?_
 repeat' (first
  | (apply WL.nilc; (iterate 3 exact rfl))
  | (apply WL.build tOk; (iterate 7 exact rfl); kernel_rfl)
  | (apply WL.gF; exact rfl; exact rfl; (focus (exact dec_false (by omega); done)))
  | (apply W.condKF; exact rfl; (focus (exact dec_false (by omega); done)))
  | ((show WL _ _ _ (⟨some 6, .alloc _, _, _, _, _⟩ :: _) _ _ _; apply WL.alloc tOk; (iterate 3 exact rfl); intro g6 w1 hb6 hge6 hx1; have hX1 : Ext w w1 := hx1))
  | (((show WL _ _ _ (⟨_, .call ⟨.value (.func 72), _, _⟩, _, _, _, _⟩ :: _) _ _ _); apply WL.call; (iterate 4 exact rfl); exact ref07_Values x.a ab x.cap cb u.N ins w1 (RN.ext hX1) (Rb.ext hX1) hU.tidy.good (by omega); rintro v' w3 ⟨hx3, aV, cV, rfl, hOV⟩; rw [← hV] at hOV ⊢; have hX3 : Ext w w3 := hX1.trans hx3; have RV := hOV.row encB_ok))
  | (((show WL _ _ _ (⟨_, .call ⟨.value (.func 73), _, _⟩, _, _, _, _⟩ :: _) _ _ _); apply WL.call; (iterate 4 exact rfl); exact ref19_values cV s.2.1 aV s.1 V s.2.2 w3 RV (RS0.ext hX3) hsv (by omega); rintro v' w6 ⟨hx6, aS, cS, rfl, hOS⟩; have hX6 : Ext w w6 := hX3.trans hx6))
  | ((show WL _ _ _ (⟨some 8, .alloc _, _, _, _, _⟩ :: _) _ _ _; apply WL.alloc tOk; (iterate 3 exact rfl); intro g9 w7 hb7 hge7 hx7))
  | ((show WL _ _ _ (⟨none, .store _ (.tmp 8) _, _, _, _, _⟩ :: _) _ _ _; apply WL.storeB (w0 := w6) tOk; (iterate 4 exact rfl); exact hb7; exact Ext.refl _; kernel_rfl; kernel_rfl; kernel_rfl; exact hx7; exact hge7; intro w8 hb8 hc8 hX68 hU8; have hX8 : Ext w w8 := hX6.trans hX68))
  | (show WL _ _ _ _ _ _ _; first | apply WL.nil | (refine WL.au (k := ?_)) | (apply WL.index tOk; (iterate 8 exact rfl); assumption; (exact extA); exact rfl; omega; assumption; intro b off h; have hcc := h; first | (obtain ⟨h1, h2, h3, h4, h5, h6, _⟩ := h) | (obtain ⟨h1, h2, h3, _⟩ := h) | (obtain ⟨h1, h2, _⟩ := h) | (obtain ⟨h1, _⟩ := h)))
  | (show Z _ _ _ _ _; apply Z.then_normal)
  | (show W _ _ _ _ _ _; first | apply W.seq | apply W.region | apply W.block | apply W.skip)
  | fail)
 obtain ⟨S, hSd⟩ : ∃ S, S = s.2.2.map (ofL V) := ⟨_, rfl⟩
 obtain ⟨K, hK⟩ : ∃ K, K = k.toNat + 1 := ⟨_, rfl⟩
 rw [← hSd] at hOS hb8
 rw [← hK, ← hSd]
 have hX13 : Ext w1 w3 := hx3
 have hg6 : g6 < w3.heap.size := Nat.lt_of_lt_of_le (heap_lt hb6) (Below.size hX13)
 have hX38 : Ext w3 w8 := hx6.trans hX68
 have hS6 := Sep.newRow (Sep.none' (B := w3.heap.size) (w := w3)) hx6 hOS (fun q hq => (hOS.blk_lt q hq).1) (Nat.le_refl _)
 have hS7 := Sep.newRow (s := 1) (enc := encRB) (el := 28) (a := none) (cap := 0) (l := []) hS6 (Ext.refl _) Own.nil (fun q hq => by cases hq) (Below.size hx6)
 have hS8 : Lt.Sep w3.heap.size w8 (pcell g9 #[.slice aS S.length cS, .slice none 0 0] 31 :: prow 1 encRB 28 w3.heap.size none 0 [] :: prow 1 encB 4 w3.heap.size aS cS S :: []) := Sep.newCell hS7 hX68 hb8 hge7 (Below.size hx6)
 clear hS6 hS7 hU8 hc8 hb7
 refine W.loopO K (fun j b cp w' => j ≤ K ∧ Ext w3 w' ∧ ∃ (rs : List (RowV Bool)) (R : List Piece), rs.length = j ∧ Lt.Sep w3.heap.size w' (pcell g9 #[.slice aS S.length cS, .slice b rs.length cp] 31 :: prow 1 encRB 28 w3.heap.size b cp rs :: prow 1 encB 4 w3.heap.size aS cS S :: R) ∧ rs.map (fun r => r.2.2) = (u.ins.take j).map (fun l => l.map (ofL V)) ∧ ∀ w9, (∀ p ∈ R, p.P w9) → ∀ r ∈ rs, Row 1 encB w9 r.1 r.2.2)
  (fun j b cp => [(0, .pointer (some ⟨m.gF, 0, none⟩)), (2, .int .i64 k), (6, .pointer (some ⟨g6, 0, none⟩)), (7, .slice aV V.length cV), (8, .pointer (some ⟨g9, 0, none⟩)), (9, .int .i64 j)]) none 0 ⟨Nat.zero_le _, hX38, [], [], rfl, hS8, rfl, fun w9 _ r hr => by cases hr⟩ (fun k a cp w' h => h.1) (by repeat' first | exact trivial | (refine And.intro ?_ ?_) | exact rfl) ?_
 clear hS8 hb8
 rintro j bo co w9 ⟨hj, hX9, rs, R, hrl, hS9, hrs, hRR⟩
 have hXw9 : Ext w w9 := hX3.trans hX9
 have hOo : Own 1 encRB 28 w3.heap.size w9 bo co rs := hS9.row (i := 1) rfl
 obtain ⟨n0, n1, _⟩ := cells_heap (hS9.cell (i := 0) (gb := g9) rfl)
 have hg9 : w3.heap.size ≤ g9 := (hS9.lt (i := 0) rfl rfl).1
 by_cases hlt : j < K
 ·have hju : j < u.ins.length := by omega
  obtain ⟨f, hf⟩ := getI x.is (show j < x.is.length by omega)
  have hfi := map_get' h.kn.hi hf
  have hfo := hU.ins _ (List.mem_of_getElem? hfi)
  have Ri := h.rows.ri f (List.mem_of_getElem? hf)
  have hiv := hasL_val ins hN hfo.2
  rw [← hV] at hiv
  have hfl : f.2.2.length ≤ 1048576 := by rw [hfo.1]; show m.d.ins.2.2.length ≤ _; omega
  repeat' (first
   | (apply W.condKT; exact rfl; (focus (exact dec_true (by omega); done)))
   | (apply FL.nilc; (iterate 3 exact rfl))
   | (show W _ _ (.region 8 _ _) _ _ _; apply W.regionGX (.fl true 0 (.fl true 2 (.fl true 3 (.fl true 4 (.fl true 5 (.fl true 7 (.fl false 1 (.br 6 (.fl true 8 (.br 9 (.br 10 (.br 11 (.br 12 (.fl true 13 (.br 14 .done .stop)) .stop) .stop) .stop) .stop)) .stop)))))))) [6, 8, 9, 10, 11] tMix; kernel_rfl)
   | (((show WL _ _ _ (⟨_, .call ⟨.value (.func 73), _, _⟩, _, _, _, _⟩ :: _) _ _ _); apply WL.call; (iterate 4 exact rfl); exact ref19_values cV f.2.1 aV f.1 V f.2.2 _ (RV.ext (hX9.trans extA)) (Ri.ext (hXw9.trans extA)) hiv hfl; rintro v' wc ⟨hxc, aR, cR, rfl, hOR⟩; have hSn := Sep.newRow hS9 extA (hOR.base (Below.size (hX9.trans extA))) (fun q hq => Nat.le_trans (Below.size extA) (hOR.blk_lt q hq).1) (Below.size hX9)))
   | (apply WL.lit tOk; (iterate 6 exact rfl); (kernel_rfl); exact rfl; intro gb w' hb hge hc hx; (obtain ⟨gl, rfl⟩ : ∃ x, x = gb := ⟨_, rfl⟩; obtain ⟨wl, rfl⟩ : ∃ x, x = w' := ⟨_, rfl⟩; obtain ⟨hcl, rfl⟩ : ∃ x, x = hc := ⟨_, rfl⟩; obtain ⟨hxl, rfl⟩ : ∃ x, x = hx := ⟨_, rfl⟩))
   | ((apply WL.append1 (z := ((aR, cR, f.2.2.map (ofL V)) : RowV Bool)) tOk encRB_ok; (iterate 10 exact rfl); exact hOo; exact extA; exact rfl; (refine Cells.ext ?_ hcl; exact extA); exact rfl; exact rfl; exact (hX9.trans extA); omega; intro aP cP wP hOP hXP hUP hFP; have hSu := Sep.updRow (i := 2) rfl hUP hOP hFP hSn extA (Below.size (hX9.trans extA)); have hbu := hSu.cell (i := 1) (gb := g9) rfl))
   | ((apply WL.storeF (w0 := w3) tOk; (iterate 4 exact rfl); exact hbu; exact extA; (iterate 4 exact rfl); exact (hXP.trans extA); exact hg9; intro w31 hb31 hX31 hU31; have hSf := Sep.updCell (i := 1) rfl hU31 hb31 hSu extA (Below.size (hXP.trans extA))))
   | (show SX _ _ _ _ _ _ _ _ _; first | (apply SX.done; intro w' hx) | (apply SX.fl0; exact rfl) | (apply SX.fl1; exact rfl; (exact extA)) | (apply SX.br1; exact rfl; intro w' hx))
   | (show FL _ _ _ _ _ _ _ _; first | apply FL.nilX | (apply FL.loadE tOk; (iterate 5 exact rfl); (assumption)) | (apply FL.indexE tOk; (iterate 8 exact rfl); assumption; exact rfl; omega; assumption; intro b off h; have hcc := h; first | (obtain ⟨h1, h2, h3, h4, h5, h6, _⟩ := h) | (obtain ⟨h1, h2, h3, _⟩ := h) | (obtain ⟨h1, h2, _⟩ := h) | (obtain ⟨h1, _⟩ := h)))
   | (show FL _ _ _ _ _ _ _ _; (refine FL.au (k := ?_)))
   | (show Z _ _ _ _ _; first | (apply Z.sxL; exact rfl) | (apply Z.sxE; (exact extA)))
   | (show WL _ _ _ _ _ _ _; first | apply WL.nil | (refine WL.au (k := ?_)))
   | (show Z _ _ _ _ _; first | apply Z.then_normal | apply Z.block_normal)
   | (show W _ _ _ _ _ _; first | apply W.seq | apply W.region | apply W.block | apply W.skip)
   | fail)
  have hSg := Sep.pickL (pre := [_, _, _, _]) [1, 2, 3, 0] pnone hSf rfl
  refine Z.againO aP cP ⟨by omega, Ext.trans hX31 (by assumption), rs ++ [(aR, cR, f.2.2.map (ofL V))], prow 1 encB 4 w3.heap.size aR cR (f.2.2.map (ofL V)) :: R, by rw [List.length_append, hrl]; rfl, hSg.ext (by assumption), ?_, fun w9' hR9 r hr => ?_⟩ (by repeat' first | exact trivial | (refine And.intro ?_ ?_) | exact rfl)
  ·rw [List.map_append, hrs, take_succ' hfi, List.map_append]; rfl
  ·rcases List.mem_append.1 hr with hr | hr
   ·exact hRR w9' (fun p hp => hR9 p (List.mem_cons_of_mem _ hp)) r hr
   ·rw [List.mem_singleton.1 hr]
    have p1 : Own 1 encB 4 w3.heap.size w9' aR cR (f.2.2.map (ofL V)) := hR9 (prow 1 encB 4 w3.heap.size aR cR (f.2.2.map (ofL V))) (List.mem_cons_self ..)
    exact Own.row encB_ok p1
 ·obtain rfl : j = K := by omega
  have hcg9 : Cells w9 g9 0 [.slice aS S.length cS, .slice bo rs.length co] := cells_heap (hS9.cell (i := 0) (gb := g9) rfl)
  repeat' (first
   | (apply W.condKF; exact rfl; (focus (exact dec_false (by omega); done)))
   | ((show WL _ _ _ (⟨none, .store _ (.tmp 6) _, _, _, _, _⟩ :: _) _ _ _; apply WL.storeB (w0 := w) tOk; (iterate 4 exact rfl); exact hb6; exact (hX13.trans hX9); kernel_rfl; kernel_rfl; kernel_rfl; exact hXw9; exact hge6; intro wE hbE hcE hXE hUE))
   | (show WL _ _ _ _ _ _ _; first | apply WL.nil | (refine WL.au (k := ?_)))
   | (show Z _ _ _ _ _; first | apply Z.then_normal | apply Z.then_exit | apply Z.block_exit)
   | (show W _ _ _ _ _ _; first | apply W.seq | apply W.region | apply W.ret | apply W.exit)
   | fail)
  have hSE := Sep.oldU hS9 hUE hg6
  have hRE := hRR wE fun p hp => (hSE.holds _ p (List.mem_iff_getElem?.1 (show p ∈ _ from List.mem_cons_of_mem _ (List.mem_cons_of_mem _ (List.mem_cons_of_mem _ hp)))).choose_spec).1
  have hO1 : Own 1 encRB 28 w3.heap.size wE bo co rs := hSE.row (i := 1) rfl
  have hO2 : Own 1 encB 4 w3.heap.size wE aS cS S := hSE.row (i := 2) rfl
  exact Z.bodyC tOk Tryz.results25 rfl rfl rfl rfl hcE fun q => ⟨hXE.at q, ⟨(aS, cS, S), (bo, co, rs)⟩, rfl, (RAt.mk (Own.row encB_ok hO2) (Own.row encRB_ok hO1) hRE : RAt wE ⟨(aS, cS, S), (bo, co, rs)⟩).ext ((Ext.refl _).at q), rfl, hrs⟩
end Go.Proofs.YteidpnpbfagaeaaGreat
namespace Go.Proofs.YteidpnpbfagaeaaGreat
open Go Go.Lt Go.RowKit
set_option linter.unusedVariables false
set_option linter.unusedSimpArgs false
set_option maxRecDepth 20000

section kn
variable {w0 : World} {m : RM} {u : UnV} {is vs ss : List (RowV Int)} {R : List Piece}
theorem RKn.one (h : RKn w0 m u is vs ss R) (p : Piece) : RKn w0 m u is vs ss (p :: R) := ⟨h.hi, h.hv, h.hs, h.sn, fun w9 hX hR => h.rows w9 hX fun q hq => hR q (List.mem_cons_of_mem _ hq)⟩
theorem RKn.addI (h : RKn w0 m u is vs ss R) {r : RowV Int} (N' : List (Int × Int)) (hr : prow 1 encI 3 w0.heap.size r.1 r.2.1 r.2.2 ∈ R) : RKn w0 m ⟨N', u.ins ++ [r.2.2], u.own, u.st⟩ (is ++ [r]) vs ss R :=
 ⟨by rw [List.map_append, h.hi]; rfl, h.hv, h.hs, h.sn, fun w9 hX hR => by
  obtain ⟨k1, k2, k3, k4, k5, k6⟩ := h.rows w9 hX hR
  refine ⟨k1, k2, k3, fun f hf => ?_, k5, k6⟩
  rcases List.mem_append.1 hf with hf | hf
  ·exact k4 f hf
  ·rw [List.mem_singleton.1 hf]
   have p1 : Own 1 encI 3 w0.heap.size w9 r.1 r.2.1 r.2.2 := hR _ hr
   exact Own.row encI_ok p1⟩
theorem RKn.addV (h : RKn w0 m u is vs ss R) {r : RowV Int} (N' : List (Int × Int)) (hr : prow 1 encI 3 w0.heap.size r.1 r.2.1 r.2.2 ∈ R) : RKn w0 m ⟨N', u.ins, u.own ++ [r.2.2], u.st⟩ is (vs ++ [r]) ss R :=
 ⟨h.hi, by rw [List.map_append, h.hv]; rfl, h.hs, h.sn, fun w9 hX hR => by
  obtain ⟨k1, k2, k3, k4, k5, k6⟩ := h.rows w9 hX hR
  refine ⟨k1, k2, k3, k4, fun f hf => ?_, k6⟩
  rcases List.mem_append.1 hf with hf | hf
  ·exact k5 f hf
  ·rw [List.mem_singleton.1 hf]
   have p1 : Own 1 encI 3 w0.heap.size w9 r.1 r.2.1 r.2.2 := hR _ hr
   exact Own.row encI_ok p1⟩
theorem RKn.addS (h : RKn w0 m u is vs ss R) {r : RowV Int} (N' : List (Int × Int)) (hn : r.1 = none → r.2.1 = 0) (hr : prow 1 encI 3 w0.heap.size r.1 r.2.1 r.2.2 ∈ R) : RKn w0 m ⟨N', u.ins, u.own, u.st ++ [r.2.2]⟩ is vs (ss ++ [r]) R :=
 ⟨h.hi, h.hv, by rw [List.map_append, h.hs]; rfl, fun s hs => by
  rcases List.mem_append.1 hs with hs | hs
  ·exact h.sn s hs
  ·rw [List.mem_singleton.1 hs]; exact hn, fun w9 hX hR => by
  obtain ⟨k1, k2, k3, k4, k5, k6⟩ := h.rows w9 hX hR
  refine ⟨k1, k2, k3, k4, k5, fun f hf => ?_⟩
  rcases List.mem_append.1 hf with hf | hf
  ·exact k6 f hf
  ·rw [List.mem_singleton.1 hf]
   have p1 : Own 1 encI 3 w0.heap.size w9 r.1 r.2.1 r.2.2 := hR _ hr
   exact Own.row encI_ok p1⟩
end kn
structure GrR (gF : Nat) (as' : Option Addr) (ss : List (RowV Int)) (vS vV vSS vN : Value) (w : World) : Prop where
 cs : w.cell? ⟨gF, 0 + 9, none⟩ = some vS
 cv : w.cell? ⟨gF, 0 + 11, none⟩ = some vV
 css : w.cell? ⟨gF, 0 + 12, none⟩ = some vSS
 cn : w.cell? ⟨gF, 0 + 13, none⟩ = some vN
 r : Row 1 encRow w as' ss
section gr
variable {gF : Nat} {as' : Option Addr} {ss : List (RowV Int)} {vS vV vSS vN : Value} {w w' : World}
theorem GrR.ext (h : GrR gF as' ss vS vV vSS vN w) (hx : Ext w w') : GrR gF as' ss vS vV vSS vN w' := ⟨hx.cell h.cs, hx.cell h.cv, hx.cell h.css, hx.cell h.cn, h.r.ext hx⟩
theorem GrR.at (h : GrR gF as' ss vS vV vSS vN w) (q : Nat) : GrR gF as' ss vS vV vSS vN (at' w q) := h.ext ((Ext.refl w).at q)
theorem GrR.ce (h : GrR gF as' ss vS vV vSS vN w) {gb i : Nat} {s : RowV Int} (ha : as' = some ⟨gb, 0, none⟩) (hz : ss[i]? = some s) : w.cell? ⟨gb, i * 1, none⟩ = some (rowVal s) := by
 obtain ⟨b, off, h1, h2⟩ := h.r.elem i s hz
 rw [ha] at h1; cases h1
 have h3 := h2.1
 rwa [Nat.zero_add] at h3
theorem GrR.of {B i j : Nat} {ps : List Piece} {m : RM} {ai av : Option Addr} {ni ci nv cv cs : Nat} (hS : Lt.Sep B w ps) (hi : ps[i]? = some (pcell m.gF (m.vals ai ni ci av nv cv as' ss.length cs).toArray 61)) (hj : ps[j]? = some (prow 1 encRow 22 B as' cs ss)) :
  GrR m.gF as' ss (.pointer (some ⟨m.gs, 0, none⟩)) (.slice av nv cv) (.slice as' ss.length cs) (.slice m.aN (cNet m.d.t).1.length m.cN) w := by
 have h := RC'.of (cells_heap (hS.cell hi))
 exact ⟨h.store, h.vs, h.ss, h.net, Own.row encRow_ok (hS.row hj)⟩
end gr
set_option maxHeartbeats 32000000 in
theorem r19_Grow {w0 w : World} {m : RM} {u : UnV} {x : RX} {rest : List Piece} (h : RAtU w0 w m u x rest) (hg : GoodC' m.d.t) (hz : SzC m.d.t 100000) (hU : UOk m.d.t u) (hN : u.N.length ≤ 600000) (hF : u.own.length ≤ 100000) (hgF : w0.heap.size ≤ m.gF) :
  Lt.Spec Tryz.prog 56 [.pointer (some ⟨m.gF, 0, none⟩)] w (fun _ w' => ∃ x', RAtU w0 w' m (growU m.d.t u) x' rest) := by
 have z1 : m.d.ins.2.2.length ≤ 100000 := hz.1
 have z2 : m.d.lat.2.2.length ≤ 100000 := hz.2.1
 have z6 : m.d.gates.2.2.length ≤ 100000 := hz.2.2.2.2.2
 obtain ⟨l1, l2, l3⟩ := h.lens
 have hli := hU.li
 have hls := hU.ls
 refine Spec.of _ Tryz.func56 rfl Tryz.ntmps56 (by kernel_rfl) rfl ?_
 repeat' (first
  | (apply WL.lit (len := 0) tOk; (iterate 6 exact rfl); (kernel_rfl); exact rfl; intro gb w' hb hge hc hx; have hO0 := Own.of_block0 (enc := encI) (s := 1) hb hge)
  | (show WL _ _ _ _ _ _ _; first | apply WL.nil | (refine WL.au (k := ?_)))
  | (show Z _ _ _ _ _; apply Z.then_normal)
  | (show W _ _ _ _ _ _; first | apply W.seq | apply W.region | apply W.block)
  | fail)
 obtain ⟨w1, rfl⟩ : ∃ x, x = w' := ⟨_, rfl⟩; obtain ⟨hx1, rfl⟩ : ∃ x, x = hx := ⟨_, rfl⟩
 have hX1 : Ext w0 w1 := h.ext.trans hx1
 have hS1 := Sep.newRow h.sep hx1 (hO0.base (Below.size h.ext)) (fun q hq => (hO0.blk_lt q hq).1) (Below.size h.ext)
 have hS2 := Sep.pickL (pre := [_, _, _, _, _, _, _]) [1, 2, 3, 4, 5, 6, 0] pnone hS1 rfl
 clear hS1
 refine W.loopO m.d.ins.2.2.length (fun k b cp w' => k ≤ m.d.ins.2.2.length ∧ Ext w0 w' ∧ ∃ a' cap', Lt.Sep w0.heap.size w' (rsN w0.heap.size m.gs a' cap' (uinTo u.N k).2 ++ (pcell m.gF (m.vals x.ai x.is.length x.ci x.av x.vs.length x.cv x.as' x.ss.length x.cs).toArray 61 :: prow 1 encRow 22 w0.heap.size x.ai x.ci x.is :: prow 1 encRow 22 w0.heap.size x.av x.cv x.vs :: prow 1 encRow 22 w0.heap.size x.as' x.cs x.ss :: prow 1 encI 3 w0.heap.size b cp (uinTo u.N k).1 :: (x.R ++ rest))))
  (fun k b cp => [(0, .pointer (some ⟨m.gF, 0, none⟩)), (2, .slice b (uinTo u.N k).1.length cp), (3, .int .i64 k)]) (some ⟨gb, 0, none⟩) 0 ⟨Nat.zero_le _, hX1, x.a, x.cap, hS2⟩ (fun k a cp w' h => h.1) (by repeat' first | exact trivial | (refine And.intro ?_ ?_) | exact rfl) ?_
 clear hS2 hO0
 rintro k bI cp w9 ⟨hk, hX9, a9, cap9, hS9⟩
 obtain ⟨i1, i2, i3, i4⟩ := uinTo_inv u.N k
 have hsz9 := Below.size hX9
 have hRI9 : RRows m x.is x.vs x.ss w9 := h.kn.rows.sep hX9 hS9 (fun p hp => List.mem_append_right _ (List.mem_cons_of_mem _ (List.mem_cons_of_mem _ (List.mem_cons_of_mem _ (List.mem_cons_of_mem _ (List.mem_cons_of_mem _ (List.mem_append_left _ hp)))))))
 have RI := hRI9.c.ins.row
 obtain ⟨c0, c1, c2, c4, c5, c9, c10, c11, c12, c13, c14⟩ := RC'.of (m := m) (ai := x.ai) (ni := x.is.length) (ci := x.ci) (av := x.av) (nv := x.vs.length) (cv := x.cv) (as' := x.as') (ns := x.ss.length) (cs := x.cs) (cells_heap (hS9.cell (i := 2) rfl))
 by_cases hlt : k < m.d.ins.2.2.length
 ·have e1 : uinTo u.N (k + 1) = ((uinTo u.N k).1 ++ [2 * (((uinTo u.N k).2.length : Int) + 1)], (uinTo u.N k).2 ++ [(-1, 0)]) := rfl
  repeat' (first
   | (apply W.condKT; exact rfl; (focus (exact dec_true (by omega); done)))
   | (apply WL.nilc; (iterate 3 exact rfl))
   | (((show WL _ _ _ (⟨_, .call ⟨.value (.func 55), _, _⟩, _, _, _, _⟩ :: _) _ _ _); apply WL.call; (iterate 4 exact rfl); exact rs_Input m.gs _ _ (uinTo u.N k).2 _ _ w0 hX9 hS9 (by omega); rintro v' w8 ⟨hX8, a8, cap8, rfl, hS8⟩; have hO8 : Own 1 encI 3 w0.heap.size w8 bI cp (uinTo u.N k).1 := hS8.row (i := 6) rfl))
   | (apply WL.lit tOk; (iterate 6 exact rfl); (kernel_rfl); exact rfl; intro gb w' hb hge hc hx; (obtain ⟨wL, rfl⟩ : ∃ x, x = w' := ⟨_, rfl⟩; obtain ⟨hxL, rfl⟩ : ∃ x, x = hx := ⟨_, rfl⟩))
   | (apply WL.append1 (z := (2 * (((uinTo u.N k).2.length : Int) + 1))) tOk encI_ok; (iterate 10 exact rfl); assumption; (exact extA); (exact rfl); (assumption); exact rfl; exact rfl; (exact extA); (omega); intro a' cap' w' hO hX' hU hF; (obtain ⟨wA, rfl⟩ : ∃ x, x = w' := ⟨_, rfl⟩; obtain ⟨hOA, rfl⟩ : ∃ x, x = hO := ⟨_, rfl⟩; obtain ⟨hXA, rfl⟩ : ∃ x, x = hX' := ⟨_, rfl⟩; obtain ⟨hFA, rfl⟩ : ∃ x, x = hF := ⟨_, rfl⟩; obtain ⟨hUA, rfl⟩ : ∃ x, x = hU := ⟨_, rfl⟩; obtain ⟨bA, rfl⟩ : ∃ x, x = a' := ⟨_, rfl⟩; obtain ⟨cA, rfl⟩ : ∃ x, x = cap' := ⟨_, rfl⟩; have hSA := Sep.updRow (i := 6) rfl hUA hOA hFA hS8 hxL (Nat.le_trans (Below.size hX8) (Below.size hxL))))
   | (show WL _ _ _ _ _ _ _; first | apply WL.nil | (refine WL.au (k := ?_)))
   | (show Z _ _ _ _ _; first | apply Z.then_normal | apply Z.block_normal)
   | (show W _ _ _ _ _ _; first | apply W.seq | apply W.region | apply W.block | apply W.skip)
   | fail)
  exact Z.againO bA cA ⟨by omega, hXA, a8, cap8, by rw [e1]; exact hSA⟩ (by repeat' first | exact trivial | (refine And.intro ?_ ?_) | exact rfl | (rw [e1]; exact rfl))
 obtain rfl : k = m.d.ins.2.2.length := by omega
 obtain ⟨I, hI⟩ : ∃ I, I = uinTo u.N m.d.ins.2.2.length := ⟨_, rfl⟩
 rw [← hI] at hS9 i1 i2 i3 i4 ⊢
 have hIr : Own 1 encRow 22 w0.heap.size w9 x.ai x.ci x.is := hS9.row (i := 3) rfl
 have hiL : x.is.length ≤ 100000 := by omega
 repeat' (first
  | (apply W.condKF; exact rfl; (focus (exact dec_false (by omega); done)))
  | (apply WL.nilc; (iterate 3 exact rfl))
  | (apply WL.lit tOk; (iterate 6 exact rfl); (kernel_rfl); exact rfl; intro gb w' hb hge hc hx; (obtain ⟨w2, rfl⟩ : ∃ x, x = w' := ⟨_, rfl⟩; obtain ⟨hx2, rfl⟩ : ∃ x, x = hx := ⟨_, rfl⟩; obtain ⟨hc2, rfl⟩ : ∃ x, x = hc := ⟨_, rfl⟩))
  | ((apply WL.append1 (z := ((bI, cp, I.1) : RowV Int)) tOk encRow_ok; (iterate 10 exact rfl); exact hIr; exact hx2; exact rfl; exact hc2; exact rfl; exact rfl; exact (hX9.trans hx2); omega; intro aP cP w3 hOP hX3 hUP hFP; have hS3 := Sep.updRow (i := 3) rfl hUP hOP hFP hS9 hx2 (Nat.le_trans hsz9 (Below.size hx2)); have hb3 := hS3.cell (i := 2) (gb := m.gF) rfl))
  | ((apply WL.storeF (w0 := w0) tOk; (iterate 4 exact rfl); exact hb3; exact Ext.refl _; (iterate 4 exact rfl); exact hX3; exact hgF; intro w4 hb4 hX4 hU4; have hS4 := Sep.updCell (i := 2) rfl hU4 hb4 hS3 (Ext.refl _) (Below.size hX3)))
  | (show WL _ _ _ _ _ _ _; first | apply WL.nil | (refine WL.au (k := ?_)))
  | (show Z _ _ _ _ _; first | apply Z.then_normal | apply Z.then_exit | apply Z.block_exit)
  | (show W _ _ _ _ _ _; first | apply W.seq | apply W.region | apply W.exit)
  | fail)
 have hX4' : Ext w0 w4 := hX4
 obtain ⟨is', his⟩ : ∃ l, l = x.is ++ [((bI, cp, I.1) : RowV Int)] := ⟨_, rfl⟩
 have hS5 : Lt.Sep w0.heap.size w4 (rsN w0.heap.size m.gs a9 cap9 I.2 ++ (pcell m.gF (m.vals aP is'.length cP x.av x.vs.length x.cv x.as' x.ss.length x.cs).toArray 61 :: prow 1 encRow 22 w0.heap.size aP cP is' :: prow 1 encRow 22 w0.heap.size x.av x.cv x.vs :: prow 1 encRow 22 w0.heap.size x.as' x.cs x.ss :: prow 1 encI 3 w0.heap.size bI cp I.1 :: (x.R ++ rest))) := by rw [his]; exact hS4
 have hKn1 : RKn w0 m ⟨I.2, u.ins ++ [I.1], u.own, u.st⟩ is' x.vs x.ss (prow 1 encI 3 w0.heap.size bI cp I.1 :: x.R) := by rw [his]; exact (h.kn.one _).addI I.2 (r := (bI, cp, I.1)) (List.mem_cons_self ..)
 clear hS4 hS3 hS9 hb3 hb4 hU4 hUP hOP hFP hc2 hIr hRI9 RI c0 c1 c2 c4 c5 c9 c10 c11 c12 c13 c14
 have hR4 : RRows m x.is x.vs x.ss w4 := h.kn.rows.sep hX4 hS5 (fun p hp => List.mem_append_right _ (List.mem_cons_of_mem _ (List.mem_cons_of_mem _ (List.mem_cons_of_mem _ (List.mem_cons_of_mem _ (List.mem_cons_of_mem _ (List.mem_append_left _ hp)))))))
 obtain ⟨ul1, ul2, ul3⟩ := hU.last
 obtain ⟨s, hs⟩ := getI x.ss (show x.ss.length - 1 < x.ss.length by omega)
 have hsz : ((x.ss.length : Int) - 1).toNat = x.ss.length - 1 := by omega
 have hs' : x.ss[((x.ss.length : Int) - 1).toNat]? = some s := by rw [hsz]; exact hs
 have hsl : s.2.2 = u.last := by
  have h1 := map_get' h.kn.hs hs
  rw [l3, ul1] at h1
  exact (Option.some.inj h1).symm
 have Rs : Row 1 encI w4 s.1 s.2.2 := hR4.rs s (List.mem_of_getElem? hs)
 have nsn : s.1 = none → s.2.1 = 0 := h.kn.sn s (List.mem_of_getElem? hs)
 have hsn : s.2.2.length = m.d.lat.2.2.length := by rw [hsl]; exact ul2
 have hOss : Own 1 encRow 22 w0.heap.size w4 x.as' x.cs x.ss := hS5.row (i := 5) rfl
 have hOin : Own 1 encI 3 w0.heap.size w4 bI cp I.1 := hS5.row (i := 6) rfl
 have Rin := Own.row encI_ok hOin
 have hnl := net_len hg hz
 obtain ⟨C, hC⟩ : ∃ C, C = cpU m.d.t u := ⟨_, rfl⟩
 have eC : copyV I.2 (cNet m.d.t).1 (I.1 ++ s.2.2) = C := by rw [hC, hsl, hI]; rfl
 have hC0 : GrR m.gF x.as' x.ss (.pointer (some ⟨m.gs, 0, none⟩)) (.slice x.av x.vs.length x.cv) (.slice x.as' x.ss.length x.cs) (.slice m.aN (cNet m.d.t).1.length m.cN) w4 := GrR.of hS5 (i := 2) (j := 5) rfl rfl
 repeat' (first
  | (show W _ _ (.region 6 _ _) _ _ _; apply W.regionG (.fl true 0 (.fl true 1 (.fl true 2 (.fl true 3 (.fl true 5 (.fl true 6 (.fl true 7 (.fl true 9 (.fl true 10 (.fl true 11 (.fl true 14 (.fl true 16 (.fl true 17 (.fl true 18 (.fl true 20 (.fl true 21 (.fl true 22 (.fl false 4 (.fl false 8 (.fl false 12 (.fl false 19 (.fl false 23 (.fl true 24 (.fl true 25 (.fl true 26 (.fl false 27 (.br 13 (.br 15 (.br 28 (.br 29 (.br 30 (.br 31 (.fl true 32 (.fl true 33 (.br 34 .done .stop))) .stop) .stop) .stop) .stop) .stop) .stop))))))))))))))))))))))))))) [8, 12, 13, 15, 19, 23, 24, 25, 26, 27, 28, 29, 30, 31] (GrR m.gF x.as' x.ss (.pointer (some ⟨m.gs, 0, none⟩)) (.slice x.av x.vs.length x.cv) (.slice x.as' x.ss.length x.cs) (.slice m.aN (cNet m.d.t).1.length m.cN)) tMix; kernel_rfl)
  | (apply FL.nilc; (iterate 3 exact rfl))
  | ((show FL _ _ _ _ _ _ _ _; apply FL.indexO tOk; (iterate 8 exact rfl); exact hOss; exact Ext.refl _; exact encRow_ok; exact rfl; omega; exact hs'; intro gS hgS hcS))
  | ((show FL _ _ _ _ _ _ _ _; apply FL.loadK tOk; (iterate 5 exact rfl); (first | exact fun w9 h9 => h9.cs | exact fun w9 h9 => h9.cv | exact fun w9 h9 => h9.css | exact fun w9 h9 => h9.cn | exact fun w9 h9 => h9.ce hgS hs')))
  | ((show WL _ _ _ (⟨some 48, _, _, _, _, _⟩ :: _) _ _ _; apply WL.lit (len := 0) tOk; (iterate 6 exact rfl); (kernel_rfl); exact rfl; intro g48 w48 hb48 hge48 hc48 hx48; have hC48 := hC0.ext hx48))
  | ((show WL _ _ _ (⟨some 50, _, _, _, _, _⟩ :: _) _ _ _; apply WL.append0 (B := w4.heap.size) tOk encI_ok; (iterate 10 exact rfl); exact hb48; exact hge48; exact Ext.refl _; exact Rin; exact hx48; exact rfl; exact Own.noneCap hOin; omega; intro aT cT w50 hOT hx50 hfT; have hC50 := hC48.ext hx50))
  | ((show WL _ _ _ (⟨some 63, _, _, _, _, _⟩ :: _) _ _ _; apply WL.appendS (w0 := w4) tOk encI_ok; (iterate 10 exact rfl); exact hOT; exact Ext.refl _; exact rfl; exact Rs; exact (hx48.trans hx50); exact rfl; exact nsn; exact rfl; exact (hx48.trans hx50); omega; intro aI cI wI hOI hXI hUI hFI; have hCI := hC0.ext hXI; have hSI := Sep.newRow' hS5 hXI hOI (Below.size hX4); have hSI2 := Sep.pickL (pre := [_, _, _]) [1, 2, 0] pnone hSI rfl; have hX0I := hX4.trans hXI))
  | (((show WL _ _ _ (⟨_, .call ⟨.value (.func 92), _, _⟩, _, _, _, _⟩ :: _) _ _ _); apply WL.call; (iterate 4 exact rfl); (have hcp := rs_Copy m.gs cap9 m.cN cI a9 m.aN aI I.2 (cNet m.d.t).1 (I.1 ++ s.2.2) _ wI w0 hX0I hSI2 (by omega) (cNet_ok hg).2 (fun w' a' cap' N' h1 h2 => (h.kn.rows.sep h1 h2 (fun p hp => List.mem_append_right _ (List.mem_cons_of_mem _ (List.mem_cons_of_mem _ (List.mem_cons_of_mem _ (List.mem_cons_of_mem _ (List.mem_cons_of_mem _ (List.mem_cons_of_mem _ (List.mem_append_left _ hp))))))))).n) (fun w' a' cap' N' h1 h2 => Own.row encI_ok (h2.row (i := 2) rfl)); rw [eC] at hcp; exact hcp); rintro v' wC ⟨hXC, a8, cap8, aL, cL, rfl, hSC⟩; have hCC : GrR m.gF x.as' x.ss (.pointer (some ⟨m.gs, 0, none⟩)) (.slice x.av x.vs.length x.cv) (.slice x.as' x.ss.length x.cs) (.slice m.aN (cNet m.d.t).1.length m.cN) wC := GrR.of hSC (i := 4) (j := 7) rfl rfl))
  | ((show WL _ _ _ (⟨some 65, _, _, _, _, _⟩ :: _) _ _ _; apply WL.lit tOk; (iterate 6 exact rfl); (kernel_rfl); exact rfl; intro g65 w65 hb65 hge65 hc65 hx65; have hCD := hCC.ext hx65; have hOv : Own 1 encRow 22 w0.heap.size wC x.av x.cv x.vs := hSC.row (i := 6) rfl))
  | ((show WL _ _ _ (⟨some 66, _, _, _, _, _⟩ :: _) _ _ _; apply WL.append1 (z := ((aL, cL, C.1) : RowV Int)) tOk encRow_ok; (iterate 10 exact rfl); exact hOv; exact hx65; exact rfl; exact hc65; exact rfl; exact rfl; exact (hXC.trans hx65); omega; intro aV cV wE hOE hXE hUE hFE; have hSE := Sep.updRow (i := 6) rfl hUE hOE hFE hSC hx65 (Nat.le_trans (Below.size hXC) (Below.size hx65)); have hbE := hSE.cell (i := 4) (gb := m.gF) rfl; have hCE : GrR m.gF x.as' x.ss (.pointer (some ⟨m.gs, 0, none⟩)) (.slice x.av x.vs.length x.cv) (.slice x.as' x.ss.length x.cs) (.slice m.aN (cNet m.d.t).1.length m.cN) wE := GrR.of hSE (i := 4) (j := 7) rfl rfl))
  | ((apply WL.storeF (w0 := w0) tOk; (iterate 4 exact rfl); exact hbE; exact Ext.refl _; (iterate 4 exact rfl); exact hXE; exact hgF; intro wF hbF hXF hUF))
  | ((show SG _ _ _ _ _ _ _ _ _; apply SG.fl1; exact rfl; intro q; exact hC0.at q))
  | ((show Z _ _ _ _ _; apply Z.sgE; intro q; first | exact hCE.at q | exact hCD.at q | exact hCC.at q | exact hCI.at q | exact hC50.at q | exact hC48.at q))
  | (show WL _ _ _ _ _ _ _; apply WL.nil)
  | (show SG _ _ _ _ _ _ _ _ _; first | apply SG.done | (apply SG.fl0; exact rfl) | (apply SG.br1; exact rfl))
  | (show FL _ _ _ _ _ _ _ _; first | apply FL.nilS | (refine FL.au (k := ?_)))
  | (show Z _ _ _ _ _; (apply Z.sgL; exact rfl))
  | (show Z _ _ _ _ _; apply Z.then_normal)
  | (show W _ _ _ _ _ _; first | apply W.seq | apply W.region)
  | fail)
 have hSF := Sep.updCell (i := 4) rfl hUF hbF hSE (Ext.refl _) (Below.size hXE)
 obtain ⟨vs', hvs⟩ : ∃ l, l = x.vs ++ [((aL, cL, C.1) : RowV Int)] := ⟨_, rfl⟩
 have hS6 := Sep.pickL (pre := [_, _, _, _, _, _, _, _, _]) [0, 1, 4, 5, 6, 7, 2, 8] pnone hSF rfl
 have hS7 : Lt.Sep w0.heap.size wF (rvP w0.heap.size m C.2 a8 cap8 aP cP is' aV cV vs' x.as' x.cs x.ss (prow 1 encI 3 w0.heap.size aL cL C.1 :: prow 1 encI 3 w0.heap.size bI cp I.1 :: x.R) ++ rest) := by rw [hvs]; exact hS6
 have hKn2 : RKn w0 m ⟨C.2, u.ins ++ [I.1], u.own ++ [C.1], u.st⟩ is' vs' x.ss (prow 1 encI 3 w0.heap.size aL cL C.1 :: prow 1 encI 3 w0.heap.size bI cp I.1 :: x.R) := by rw [hvs]; exact (hKn1.one _).addV C.2 (r := (aL, cL, C.1)) (List.mem_cons_self ..)
 have hvl : vs'.length = u.own.length + 1 := by rw [hvs, List.length_append, l2]; rfl
 clear hS6 hSF hSE hSC hbE hbF hUE hOE hFE hUF hSI hSI2 hCE hCD hCC hCI hC50 hC48 hC0 hOT hOI hUI hFI hOv hc65 hS5 hOss hOin Rin Rs hR4 hcS hKn1
 have hg2 := growU_ok hg hU
 have hO1 : ∀ o ∈ u.own ++ [C.1], o.length = (cNet m.d.t).1.length + 1 ∧ ∀ z ∈ o, hasL C.2 z := by rw [hC]; exact hg2.1.own
 have hN2 : C.2.length ≤ 1000000 := by
  have h1 := hg2.2.2.1
  have h2 : (growU m.d.t u).N = C.2 := by rw [hC]; rfl
  rw [h2] at h1
  have h3 : m.d.t.ins.length = m.d.ins.2.2.length := rfl
  omega
 repeat' (first
  | (apply WL.lit (len := 0) tOk; (iterate 6 exact rfl); (kernel_rfl); exact rfl; intro gb w' hb hge hc hx; have hO0 := Own.of_block0 (enc := encI) (s := 1) hb hge)
  | (show WL _ _ _ _ _ _ _; first | apply WL.nil | (refine WL.au (k := ?_)))
  | (show Z _ _ _ _ _; apply Z.then_normal)
  | (show W _ _ _ _ _ _; first | apply W.seq | apply W.region | apply W.block)
  | fail)
 obtain ⟨wG, rfl⟩ : ∃ x, x = w' := ⟨_, rfl⟩; obtain ⟨hxG, rfl⟩ : ∃ x, x = hx := ⟨_, rfl⟩; obtain ⟨gG, rfl⟩ : ∃ x, x = gb := ⟨_, rfl⟩
 have hXG : Ext w0 wG := hXF.trans hxG
 have hSG1 := Sep.newRow hS7 hxG (hO0.base (Below.size hXF)) (fun q hq => (hO0.blk_lt q hq).1) (Below.size hXF)
 have hSG2 := Sep.pickL (pre := [_, _, _, _, _, _, _]) [1, 2, 3, 4, 5, 6, 0] pnone hSG1 rfl
 refine W.loopO m.d.lat.2.2.length (fun k b cp' w' => k ≤ m.d.lat.2.2.length ∧ Ext w0 w' ∧ Lt.Sep w0.heap.size w' (rvP w0.heap.size m C.2 a8 cap8 aP cP is' aV cV vs' x.as' x.cs x.ss (prow 1 encI 3 w0.heap.size b cp' ((nextU m.d.t C.1).take k) :: prow 1 encI 3 w0.heap.size aL cL C.1 :: prow 1 encI 3 w0.heap.size bI cp I.1 :: x.R) ++ rest))
  (fun k b cp' => [(0, .pointer (some ⟨m.gF, 0, none⟩)), (4, .slice b ((nextU m.d.t C.1).take k).length cp'), (5, .int .i64 k)]) (some ⟨gG, 0, none⟩) 0 ⟨Nat.zero_le _, hXG, hSG2⟩ (fun k a cp w' h => h.1) (by repeat' first | exact trivial | (refine And.intro ?_ ?_) | exact rfl) ?_
 clear hSG1 hSG2 hO0 hS7
 rintro k bN cN wk ⟨hk, hXk, hSk⟩
 have hAt : RAtU w0 wk m ⟨C.2, u.ins ++ [I.1], u.own ++ [C.1], u.st⟩ ⟨a8, cap8, aP, cP, is', aV, cV, vs', x.as', x.cs, x.ss, prow 1 encI 3 w0.heap.size bN cN ((nextU m.d.t C.1).take k) :: prow 1 encI 3 w0.heap.size aL cL C.1 :: prow 1 encI 3 w0.heap.size bI cp I.1 :: x.R⟩ rest := ⟨hXk, hSk, hKn2.one _⟩
 have RL := hAt.rows.c.lat.row
 obtain ⟨c0, c1, c2, c4, c5, c9, c10, c11, c12, c13, c14⟩ := RC'.of (m := m) (ai := aP) (ni := is'.length) (ci := cP) (av := aV) (nv := vs'.length) (cv := cV) (as' := x.as') (ns := x.ss.length) (cs := x.cs) (cells_heap (hSk.cell (i := 2) rfl))
 have hOn : Own 1 encI 3 w0.heap.size wk bN cN ((nextU m.d.t C.1).take k) := hSk.row (i := 6) rfl
 have hnx := nextU_len m.d.t C.1
 have hnl2 : m.d.t.lat.length = m.d.lat.2.2.length := rfl
 have htl : ((nextU m.d.t C.1).take k).length = k := by rw [List.length_take]; omega
 by_cases hlt : k < m.d.lat.2.2.length
 ·obtain ⟨y, hy⟩ := getI m.d.lat.2.2 hlt
  have hyn : (nextU m.d.t C.1)[k]? = some (uLit m.d.t C.1 y.2.1) := by
   unfold nextU
   rw [List.getElem?_map, show m.d.t.lat[k]? = some y from hy]; rfl
  have e1 : (nextU m.d.t C.1).take (k + 1) = (nextU m.d.t C.1).take k ++ [uLit m.d.t C.1 y.2.1] := take_succ' hyn
  have hy9 : y.2.1 ≤ 9223372036854775807 := by
   have h1 := hg.used y.2.1 (used_next (List.mem_of_getElem? hy))
   have h2 := hg.max
   omega
  have eL : UnV.lit m.d.t ⟨C.2, u.ins ++ [I.1], u.own ++ [C.1], u.st⟩ ((vs'.length : Int) - 1) y.2.1 = uLit m.d.t C.1 y.2.1 := by
   unfold UnV.lit
   dsimp only
   rw [if_pos (by rw [List.length_append, List.length_singleton, hvl]; omega), show ((vs'.length : Int) - 1).toNat = u.own.length by omega, List.getD_eq_getElem?_getD, List.getElem?_append_right (Nat.le_refl _), Nat.sub_self]; rfl
  have hlit : ∀ w8, Ext wk w8 → Still Tryz.prog 61 [.pointer (some ⟨m.gF, 0, none⟩), .int .i64 ((vs'.length : Int) - 1), .int .i64 y.2.1] w8 (.int .i64 (uLit m.d.t C.1 y.2.1)) := fun w8 h8 => by
   have h1 := r19_Lit hg hz hO1 (hAt.up h8) hN2 ((vs'.length : Int) - 1) y.2.1 hy9
   rw [eL] at h1; exact h1
  clear eL
  repeat' (first
   | (apply W.condKT; exact rfl; (focus (exact dec_true (by omega); done)))
   | (show W _ _ (.region 11 _ _) _ _ _; apply W.regionGX (.fl true 0 (.fl true 1 (.fl true 2 (.fl true 3 (.fl true 4 (.fl true 8 (.fl true 9 (.fl true 10 (.fl true 11 (.fl true 13 (.br 5 (.fl true 6 (.fl true 7 (.br 12 (.fl true 14 (.fl true 15 (.br 16 (.br 17 (.br 18 (.br 19 (.fl true 20 .done) .stop) .stop) .stop) .stop))) .stop))) (.br 12 (.fl true 14 (.fl true 15 (.br 5 (.fl true 6 (.fl true 7 (.br 16 (.br 17 (.br 18 (.br 19 (.fl true 20 .done) .stop) .stop) .stop) .stop))) (.br 16 (.br 5 (.fl true 6 (.fl true 7 (.br 17 (.br 18 (.br 19 (.fl true 20 .done) .stop) .stop) .stop))) .stop) .stop)))) .stop)))))))))))) [] tMix; kernel_rfl)
   | (apply WL.nilc; (iterate 3 exact rfl))
   | (apply FL.nilc; (iterate 3 exact rfl))
   | (((show WL _ _ _ (⟨_, .call ⟨.value (.func 61), _, _⟩, _, _, _, _⟩ :: _) _ _ _); apply WL.callS; (iterate 4 exact rfl); exact hlit _ extA))
   | (apply WL.lit tOk; (iterate 6 exact rfl); (kernel_rfl); exact rfl; intro gb w' hb hge hc hx; (obtain ⟨wL, rfl⟩ : ∃ x, x = w' := ⟨_, rfl⟩; obtain ⟨hxL, rfl⟩ : ∃ x, x = hx := ⟨_, rfl⟩))
   | (apply WL.append1 (z := (uLit m.d.t C.1 y.2.1)) tOk encI_ok; (iterate 10 exact rfl); assumption; (exact extA); (exact rfl); ((refine Cells.ext ?_ (by assumption); exact extA)); exact rfl; exact rfl; (exact extA); (omega); intro a' cap' w' hO hX' hU hF; (obtain ⟨wA, rfl⟩ : ∃ x, x = w' := ⟨_, rfl⟩; obtain ⟨hOA, rfl⟩ : ∃ x, x = hO := ⟨_, rfl⟩; obtain ⟨hXA, rfl⟩ : ∃ x, x = hX' := ⟨_, rfl⟩; obtain ⟨hFA, rfl⟩ : ∃ x, x = hF := ⟨_, rfl⟩; obtain ⟨hUA, rfl⟩ : ∃ x, x = hU := ⟨_, rfl⟩; obtain ⟨bA, rfl⟩ : ∃ x, x = a' := ⟨_, rfl⟩; obtain ⟨cA, rfl⟩ : ∃ x, x = cap' := ⟨_, rfl⟩; have hSA := Sep.updRow (i := 6) rfl hUA hOA hFA hSk extA (Below.size (hXk.trans extA))))
   | (show SX _ _ _ _ _ _ _ _ _; first | (apply SX.done; intro w' hx) | (apply SX.fl0; exact rfl) | (apply SX.br1; exact rfl; intro w' hx) | (apply SX.br; exact rfl; (intro w' hx)))
   | (show FL _ _ _ _ _ _ _ _; first | apply FL.nilX | (apply FL.indexE tOk; (iterate 8 exact rfl); assumption; exact rfl; omega; assumption; intro b off h; have hcc := h; first | (obtain ⟨h1, h2, h3, h4, h5, h6, _⟩ := h) | (obtain ⟨h1, h2, h3, _⟩ := h) | (obtain ⟨h1, h2, _⟩ := h) | (obtain ⟨h1, _⟩ := h)))
   | (show FL _ _ _ _ _ _ _ _; (refine FL.au (k := ?_)))
   | (show Z _ _ _ _ _; (apply Z.sxL; exact rfl))
   | (show WL _ _ _ _ _ _ _; first | apply WL.nil | (refine WL.au (k := ?_)))
   | (show Z _ _ _ _ _; first | apply Z.then_normal | apply Z.block_normal)
   | (show W _ _ _ _ _ _; first | apply W.seq | apply W.region | apply W.block | apply W.skip)
   | fail)
  all_goals exact Z.againO bA cA ⟨by omega, hXA.trans hx, by rw [e1]; exact hSA.ext hx⟩ (by repeat' first | exact trivial | (refine And.intro ?_ ?_) | exact rfl | (rw [e1]; exact rfl))
 obtain rfl : k = m.d.lat.2.2.length := by omega
 have htk : (nextU m.d.t C.1).take m.d.lat.2.2.length = nextU m.d.t C.1 := by rw [← hnl2, ← hnx, List.take_length]
 rw [htk] at hSk hAt hOn ⊢
 have hOs : Own 1 encRow 22 w0.heap.size wk x.as' x.cs x.ss := hSk.row (i := 5) rfl
 repeat' (first
  | (apply W.condKF; exact rfl; (focus (exact dec_false (by omega); done)))
  | (apply WL.nilc; (iterate 3 exact rfl))
  | (apply WL.lit tOk; (iterate 6 exact rfl); (kernel_rfl); exact rfl; intro gb w' hb hge hc hx; (obtain ⟨wL, rfl⟩ : ∃ x, x = w' := ⟨_, rfl⟩; obtain ⟨hxL, rfl⟩ : ∃ x, x = hx := ⟨_, rfl⟩; obtain ⟨hcL, rfl⟩ : ∃ x, x = hc := ⟨_, rfl⟩))
  | ((apply WL.append1 (z := ((bN, cN, nextU m.d.t C.1) : RowV Int)) tOk encRow_ok; (iterate 10 exact rfl); exact hOs; exact hxL; exact rfl; exact hcL; exact rfl; exact rfl; exact (hXk.trans hxL); omega; intro aW cW wM hOM hXM hUM hFM; have hSM := Sep.updRow (i := 5) rfl hUM hOM hFM hSk hxL (Nat.le_trans (Below.size hXk) (Below.size hxL)); have hbM := hSM.cell (i := 2) (gb := m.gF) rfl))
  | ((apply WL.storeF (w0 := w0) tOk; (iterate 4 exact rfl); exact hbM; exact Ext.refl _; (iterate 4 exact rfl); exact hXM; exact hgF; intro wS hbS hXS hUS))
  | (show WL _ _ _ _ _ _ _; first | apply WL.nil | (refine WL.au (k := ?_)))
  | (show Z _ _ _ _ _; first | apply Z.then_normal | apply Z.then_exit | apply Z.block_exit)
  | (show W _ _ _ _ _ _; first | apply W.seq | apply W.region | apply W.exit)
  | fail)
 have hSS := Sep.updCell (i := 2) rfl hUS hbS hSM (Ext.refl _) (Below.size hXM)
 have hKn3 := (hKn2.one (prow 1 encI 3 w0.heap.size bN cN (nextU m.d.t C.1))).addS C.2 (r := (bN, cN, nextU m.d.t C.1)) (Own.noneCap hOn) (List.mem_cons_self ..)
 have eG : growU m.d.t u = ⟨C.2, u.ins ++ [I.1], u.own ++ [C.1], u.st ++ [nextU m.d.t C.1]⟩ := by rw [hC, hI]; rfl
 rw [eG]
 exact Z.body0n Tryz.results56 fun q => ⟨⟨a8, cap8, aP, cP, is', aV, cV, vs', aW, cW, x.ss ++ [(bN, cN, nextU m.d.t C.1)], prow 1 encI 3 w0.heap.size bN cN (nextU m.d.t C.1) :: prow 1 encI 3 w0.heap.size aL cL C.1 :: prow 1 encI 3 w0.heap.size bI cp I.1 :: x.R⟩, hXS.at q, hSS.ext ((Ext.refl _).at q), hKn3⟩
end Go.Proofs.YteidpnpbfagaeaaGreat
namespace Go.Proofs.YteidpnpbfagaeaaGreat
open Go Go.Lt Go.RowKit
set_option linter.unusedVariables false
set_option linter.unusedSimpArgs false
set_option maxRecDepth 20000

noncomputable def Circ.psN (B : Nat) (d : Circ) : List Piece :=
 [prow 3 encY 119 B d.syms.1 d.syms.2.1 d.syms.2.2, prowZ 1 encI 3 B d.cons.1 d.cons.2.1 d.cons.2.2, prowZ 1 encI 3 B d.bads.1 d.bads.2.1 d.bads.2.2, prowZ 1 encI 3 B d.outs.1 d.outs.2.1 d.outs.2.2,
  prowZ 3 enc3 86 B d.gates.1 d.gates.2.1 d.gates.2.2, prowZ 3 enc3 69 B d.lat.1 d.lat.2.1 d.lat.2.2, prowZ 1 encI 3 B d.ins.1 d.ins.2.1 d.ins.2.2]
theorem prowZ_row {α : Type} {s : Nat} {enc : α → List Value} {el B cap : Nat} {a : Option Addr} {l : List α} {w : World} (hE : Enc s enc) (h : (prowZ s enc el B a cap l).P w) : Row s enc w a l := by
 by_cases hl : l = []
 ·subst hl; exact Row.nil s enc w a
 ·have h' : l ≠ [] → Own s enc el B w a cap l := h
  exact (h' hl).row hE
theorem psN_at {B : Nat} {d : Circ} {w : World} (hc : CapC d) (hP : ∀ p ∈ d.psN B, p.P w) : CAt w d := by
 have p0 : Own 3 encY 119 B w d.syms.1 d.syms.2.1 d.syms.2.2 := hP _ (List.mem_of_getElem? (show (d.psN B)[0]? = some (prow 3 encY 119 B d.syms.1 d.syms.2.1 d.syms.2.2) from rfl))
 have p1 := prowZ_row encI_ok (hP _ (List.mem_of_getElem? (show (d.psN B)[1]? = some (prowZ 1 encI 3 B d.cons.1 d.cons.2.1 d.cons.2.2) from rfl)))
 have p2 := prowZ_row encI_ok (hP _ (List.mem_of_getElem? (show (d.psN B)[2]? = some (prowZ 1 encI 3 B d.bads.1 d.bads.2.1 d.bads.2.2) from rfl)))
 have p3 := prowZ_row encI_ok (hP _ (List.mem_of_getElem? (show (d.psN B)[3]? = some (prowZ 1 encI 3 B d.outs.1 d.outs.2.1 d.outs.2.2) from rfl)))
 have p4 := prowZ_row enc3_ok (hP _ (List.mem_of_getElem? (show (d.psN B)[4]? = some (prowZ 3 enc3 86 B d.gates.1 d.gates.2.1 d.gates.2.2) from rfl)))
 have p5 := prowZ_row enc3_ok (hP _ (List.mem_of_getElem? (show (d.psN B)[5]? = some (prowZ 3 enc3 69 B d.lat.1 d.lat.2.1 d.lat.2.2) from rfl)))
 have p6 := prowZ_row encI_ok (hP _ (List.mem_of_getElem? (show (d.psN B)[6]? = some (prowZ 1 encI 3 B d.ins.1 d.ins.2.1 d.ins.2.2) from rfl)))
 exact ⟨⟨p6, hc.ins.1, hc.ins.2⟩, ⟨p5, hc.lat.1, hc.lat.2⟩, ⟨p3, hc.outs.1, hc.outs.2⟩, ⟨p2, hc.bads.1, hc.bads.2⟩, ⟨p1, hc.cons.1, hc.cons.2⟩, ⟨p4, hc.gates.1, hc.gates.2⟩, ⟨Own.row encY_ok p0, hc.syms.1, hc.syms.2⟩⟩
theorem Sep.frzMid {B : Nat} {w : World} {A rest F : List Piece} {c : Piece} (hS : Lt.Sep B w ((A ++ (c :: rest)) ++ F)) : Lt.Sep B w ((A ++ c :: F) ++ rest) :=
 Sep.ofPerm (by rw [List.append_assoc, List.append_assoc, List.cons_append, List.cons_append]; exact List.Perm.append_left A (List.Perm.cons c List.perm_append_comm)) hS
set_option maxHeartbeats 32000000 in
theorem ref19_New (c : Circ) (free : Bool) (w w0 : World) (rest : List Piece) (hX0 : Ext w0 w) (hS0 : Lt.Sep w0.heap.size w rest) (hC : CAt w c) (hg : GoodC' c.t) (hz : SzC c.t 100000) (hz2 : c.t.syms.length ≤ 100000) :
  Lt.Spec Tryz.prog 19 [c.val, .bool free] w (fun v w' => ∃ m x, v = .pointer (some ⟨m.gF, 0, none⟩) ∧ m.d.t = c.t ∧ w0.heap.size ≤ m.gF ∧ RAtU w0 w' m (newU c.t free) x rest) := by
 have z1 : c.ins.2.2.length ≤ 100000 := hz.1
 have z2 : c.lat.2.2.length ≤ 100000 := hz.2.1
 have z3 : c.outs.2.2.length ≤ 100000 := hz.2.2.1
 have z4 : c.bads.2.2.length ≤ 100000 := hz.2.2.2.1
 have z5 : c.cons.2.2.length ≤ 100000 := hz.2.2.2.2.1
 have z6 : c.gates.2.2.length ≤ 100000 := hz.2.2.2.2.2
 have z7 : c.syms.2.2.length ≤ 100000 := hz2
 have Ri := hC.ins.row
 have Ro := hC.outs.row
 have Rb := hC.bads.row
 have Rn := hC.cons.row
 have Rl := hC.lat.row
 have Rg := hC.gates.row
 have Ry := hC.syms.row
 have ni := hC.ins.none
 have no := hC.outs.none
 have nb := hC.bads.none
 have nn := hC.cons.none
 have nl := hC.lat.none
 have ng := hC.gates.none
 have ny := hC.syms.none
 have hB0 := Below.size hX0
 refine Spec.of _ Tryz.func19 rfl Tryz.ntmps19 (by kernel_rfl) rfl ?_
 repeat' (first
  | (apply WL.box; (iterate 3 exact rfl); intro gb w' hb hge hc hx; have hcc := hc; ((obtain ⟨h1, h2, h3, _⟩ := hc)); (have hcells : Cells w' gb 0 c.vals := hcc; obtain ⟨gc, rfl⟩ : ∃ x, x = gb := ⟨_, rfl⟩; obtain ⟨wc, rfl⟩ : ∃ x, x = w' := ⟨_, rfl⟩; obtain ⟨hxc, rfl⟩ : ∃ x, x = hx := ⟨_, rfl⟩; obtain ⟨hbc, rfl⟩ : ∃ x, x = hb := ⟨_, rfl⟩; obtain ⟨hgec, rfl⟩ : ∃ x, x = hge := ⟨_, rfl⟩))
  | (show WL _ _ _ _ _ _ _; first | apply WL.nil | (refine WL.au (k := ?_)))
  | (show Z _ _ _ _ _; apply Z.then_normal)
  | (show W _ _ _ _ _ _; first | apply W.seq | apply W.region)
  | fail)
 obtain ⟨y0, y1, y2, y3, y4, y5, y6, y7, y8, _⟩ := hcells
 have hS : Lt.Sep w0.heap.size wc (pcell gc c.vals.toArray 27 :: rest) := Sep.newCell hS0 hxc hbc hgec hB0
 have hgc0 : w0.heap.size ≤ gc := Nat.le_trans hB0 hgec
 have hw1 : w0.heap.size ≤ wc.heap.size := Nat.le_trans hB0 (Below.size hxc)
 repeat' (first
  | (show W _ _ (.region 1 _ _) _ _ _; apply W.regionI 13 [prLit 3 wc.heap.size, .is (.pointer (some ⟨gc, 0 + 1, none⟩)), .is (rowVal c.ins), prRow 1 encI 3 wc.heap.size c.ins.2.2, prLit 69 wc.heap.size, .is (.pointer (some ⟨gc, 0 + 1 + 1, none⟩)), .is (rowVal c.lat), prRow 3 enc3 69 wc.heap.size c.lat.2.2, prLit 86 wc.heap.size, .is (.pointer (some ⟨gc, 0 + 1 + 1 + 1 + 1 + 1 + 1, none⟩)), .is (rowVal c.gates), prRow 3 enc3 86 wc.heap.size c.gates.2.2, .is (.pointer (some ⟨gc, 0 + 1, none⟩))] tMix; kernel_rfl; exact rfl; kernel_rfl; kernel_rfl; exact rfl; exact rfl)
  | (show OBL _ _ _ _ _ _ _ _; apply OBL.nil)
  | (show OBL _ _ _ _ _ _ 0 _; apply OBL.cons (ds := []); (iterate 3 exact rfl); kernel_rfl; intro w8 hw8 rest8)
  | (show OBL _ _ _ _ _ _ 1 _; apply OBL.cons (ds := []); (iterate 3 exact rfl); kernel_rfl; intro w8 hw8 rest8)
  | (show OBL _ _ _ _ _ _ 2 _; apply OBL.cons (ds := [1]); (iterate 3 exact rfl); kernel_rfl; intro w8 hw8 rest8)
  | (show OBL _ _ _ _ _ _ 3 _; apply OBL.cons (ds := [0, 2]); (iterate 3 exact rfl); kernel_rfl; intro w8 hw8 rest8)
  | (show OBL _ _ _ _ _ _ 4 _; apply OBL.cons (ds := []); (iterate 3 exact rfl); kernel_rfl; intro w8 hw8 rest8)
  | (show OBL _ _ _ _ _ _ 5 _; apply OBL.cons (ds := []); (iterate 3 exact rfl); kernel_rfl; intro w8 hw8 rest8)
  | (show OBL _ _ _ _ _ _ 6 _; apply OBL.cons (ds := [5]); (iterate 3 exact rfl); kernel_rfl; intro w8 hw8 rest8)
  | (show OBL _ _ _ _ _ _ 7 _; apply OBL.cons (ds := [4, 6, 3]); (iterate 3 exact rfl); kernel_rfl; intro w8 hw8 rest8)
  | (show OBL _ _ _ _ _ _ 8 _; apply OBL.cons (ds := []); (iterate 3 exact rfl); kernel_rfl; intro w8 hw8 rest8)
  | (show OBL _ _ _ _ _ _ 9 _; apply OBL.cons (ds := []); (iterate 3 exact rfl); kernel_rfl; intro w8 hw8 rest8)
  | (show OBL _ _ _ _ _ _ 10 _; apply OBL.cons (ds := [9]); (iterate 3 exact rfl); kernel_rfl; intro w8 hw8 rest8)
  | (show OBL _ _ _ _ _ _ 11 _; apply OBL.cons (ds := [8, 10, 7]); (iterate 3 exact rfl); kernel_rfl; intro w8 hw8 rest8)
  | (show OBL _ _ _ _ _ _ 12 _; apply OBL.cons (ds := [0, 1, 2, 3, 5, 6, 9, 10]); (iterate 3 exact rfl); kernel_rfl; intro w8 hw8 rest8)
  | (show NO _ _ _ _ _ _ _ _ _ _; first | apply NO.nil | (apply NO.is; exact rfl; exact rfl) | (apply NO.ex; exact rfl; exact rfl; (first | (rintro _ ⟨gl, rfl, hlb, hlge⟩) | (rintro _ ⟨ar, cr, rfl, hOr⟩))))
  | (intro w8 hw8; show NF _ _ _ _ _ _ _ _ _)
  | (show NF _ _ _ _ _ _ _ _ _; first | (apply NF.nilT; intro hap; replace hS := Sep.news [prowZ 3 enc3 86 w0.heap.size ar1_11 cr1_11 c.gates.2.2, prowZ 3 enc3 69 w0.heap.size ar1_7 cr1_7 c.lat.2.2, prowZ 1 encI 3 w0.heap.size ar1_3 cr1_3 c.ins.2.2] hS hw8 (by rintro q hq; simp only [List.mem_cons, List.not_mem_nil, or_false] at hq; rcases hq with rfl | rfl | rfl <;> exact prowZ_new (by assumption) hw1) (apartS hap) hw1; simp only [List.cons_append, List.nil_append] at hS; (try simp only [List.set_cons_zero, List.set_cons_succ] at hS); (try have hC3 := hS.cell (i := 3) rfl); (try have hD3 := (cells_heap hC3).1); (try have hE3 := (cells_heap hC3).2.1); (try have hF3 := (cells_heap hC3).2.2.1); (try have hG3 := (cells_heap hC3).2.2.2.1)) | (apply NF.is; exact rfl; exact rfl))
  | (show NF _ _ _ _ _ _ (0 :: _) _ _; apply NF.ex; exact rfl; exact rfl; rintro _ ⟨gl1_0, rfl, hlb1_0, hlge1_0⟩)
  | (show NF _ _ _ _ _ _ (3 :: _) _ _; apply NF.ex; exact rfl; exact rfl; rintro _ ⟨ar1_3, cr1_3, rfl, hOr1_3⟩)
  | (show NF _ _ _ _ _ _ (4 :: _) _ _; apply NF.ex; exact rfl; exact rfl; rintro _ ⟨gl1_4, rfl, hlb1_4, hlge1_4⟩)
  | (show NF _ _ _ _ _ _ (7 :: _) _ _; apply NF.ex; exact rfl; exact rfl; rintro _ ⟨ar1_7, cr1_7, rfl, hOr1_7⟩)
  | (show NF _ _ _ _ _ _ (8 :: _) _ _; apply NF.ex; exact rfl; exact rfl; rintro _ ⟨gl1_8, rfl, hlb1_8, hlge1_8⟩)
  | (show NF _ _ _ _ _ _ (11 :: _) _ _; apply NF.ex; exact rfl; exact rfl; rintro _ ⟨ar1_11, cr1_11, rfl, hOr1_11⟩)
  | (show Z _ _ _ _ _; first | (apply Z.invIs; (exact extA)) | (apply Z.invLit; (exact extA); assumption; first | omega | (refine Nat.le_trans ?_ (by assumption); exact Below.size extA)) | (apply Z.invRow; (exact extA); assumption; assumption))
  | (apply WL.lit tOk; (iterate 6 exact rfl); (kernel_rfl); exact rfl; intro gb w' hb hge hc hx)
  | (apply WL.append0 tOk encI_ok; (iterate 10 exact rfl); assumption; (assumption); (exact extA); assumption; (exact extA); (exact rfl); (assumption); (omega); intro a' cap' w' hO hx hf0)
  | (apply WL.append0 tOk enc3_ok; (iterate 10 exact rfl); assumption; (assumption); (exact extA); assumption; (exact extA); (exact rfl); (assumption); (omega); intro a' cap' w' hO hx hf0)
  | (apply WL.storeF (w0 := w) tOk; (iterate 4 exact rfl); assumption; (exact extA); (iterate 4 exact rfl); (exact extA); (assumption); intro w' hb hX' hU; replace hS := Sep.updCell (i := 3) rfl hU hb hS extA (by (exact Below.size extA)); (try simp only [List.set_cons_zero, List.set_cons_succ] at hS); (try have hC3 := hS.cell (i := 3) rfl); (try have hD3 := (cells_heap hC3).1); (try have hE3 := (cells_heap hC3).2.1); (try have hF3 := (cells_heap hC3).2.2.1); (try have hG3 := (cells_heap hC3).2.2.2.1))
  | (show WL _ _ _ _ _ _ _; first | apply WL.nil | (refine WL.au (k := ?_)))
  | (show Z _ _ _ _ _; apply Z.then_normal)
  | (show W _ _ _ _ _ _; apply W.seq)
  | fail)
 obtain ⟨w2, rfl⟩ : ∃ x, x = w' := ⟨_, rfl⟩; obtain ⟨hX2, rfl⟩ : ∃ x, x = hX' := ⟨_, rfl⟩
 have hS2 : Lt.Sep w0.heap.size w2 (prowZ 3 enc3 86 w0.heap.size ar1_11 cr1_11 c.gates.2.2 :: prowZ 3 enc3 69 w0.heap.size ar1_7 cr1_7 c.lat.2.2 :: prowZ 1 encI 3 w0.heap.size ar1_3 cr1_3 c.ins.2.2 :: pcell gc [.int .i64 c.max, rowVal (ar1_3, cr1_3, c.ins.2.2), rowVal (ar1_7, cr1_7, c.lat.2.2), rowVal c.outs, rowVal c.bads, rowVal c.cons, rowVal (ar1_11, cr1_11, c.gates.2.2), rowVal c.syms, .string c.com].toArray 27 :: rest) := hS
 have hcap1 : (c.ins.2.2.length ≤ cr1_3 ∧ (ar1_3 = none → cr1_3 = 0)) ∧ (c.lat.2.2.length ≤ cr1_7 ∧ (ar1_7 = none → cr1_7 = 0)) ∧ (c.gates.2.2.length ≤ cr1_11 ∧ (ar1_11 = none → cr1_11 = 0)) := ⟨⟨hOr1_3.capLe, hOr1_3.noneCap⟩, ⟨hOr1_7.capLe, hOr1_7.noneCap⟩, ⟨hOr1_11.capLe, hOr1_11.noneCap⟩⟩
 clear hS y0 y1 y2 y3 y4 y5 y6 y7 y8 hbc
 have hS := hS2
 clear hS2
 obtain ⟨x0, x1, x2, x3, x4, x5, x6, x7, x8, _⟩ := cells_heap (hS.cell (i := 3) rfl)
 have hw2 : w0.heap.size ≤ w2.heap.size := Nat.le_trans hB0 (Below.size hX2)
 repeat' (first
  | (show W _ _ (.region 2 _ _) _ _ _; apply W.regionI 13 [prLit 3 w2.heap.size, .is (.pointer (some ⟨gc, 0 + 1 + 1 + 1, none⟩)), .is (rowVal c.outs), prRow 1 encI 3 w2.heap.size c.outs.2.2, prLit 3 w2.heap.size, .is (.pointer (some ⟨gc, 0 + 1 + 1 + 1 + 1, none⟩)), .is (rowVal c.bads), prRow 1 encI 3 w2.heap.size c.bads.2.2, prLit 3 w2.heap.size, .is (.pointer (some ⟨gc, 0 + 1 + 1 + 1 + 1 + 1, none⟩)), .is (rowVal c.cons), prRow 1 encI 3 w2.heap.size c.cons.2.2, .is (.pointer (some ⟨gc, 0 + 1 + 1 + 1, none⟩))] tMix; kernel_rfl; exact rfl; kernel_rfl; kernel_rfl; exact rfl; exact rfl)
  | (show OBL _ _ _ _ _ _ _ _; apply OBL.nil)
  | (show OBL _ _ _ _ _ _ 0 _; apply OBL.cons (ds := []); (iterate 3 exact rfl); kernel_rfl; intro w8 hw8 rest8)
  | (show OBL _ _ _ _ _ _ 1 _; apply OBL.cons (ds := []); (iterate 3 exact rfl); kernel_rfl; intro w8 hw8 rest8)
  | (show OBL _ _ _ _ _ _ 2 _; apply OBL.cons (ds := [1]); (iterate 3 exact rfl); kernel_rfl; intro w8 hw8 rest8)
  | (show OBL _ _ _ _ _ _ 3 _; apply OBL.cons (ds := [0, 2]); (iterate 3 exact rfl); kernel_rfl; intro w8 hw8 rest8)
  | (show OBL _ _ _ _ _ _ 4 _; apply OBL.cons (ds := []); (iterate 3 exact rfl); kernel_rfl; intro w8 hw8 rest8)
  | (show OBL _ _ _ _ _ _ 5 _; apply OBL.cons (ds := []); (iterate 3 exact rfl); kernel_rfl; intro w8 hw8 rest8)
  | (show OBL _ _ _ _ _ _ 6 _; apply OBL.cons (ds := [5]); (iterate 3 exact rfl); kernel_rfl; intro w8 hw8 rest8)
  | (show OBL _ _ _ _ _ _ 7 _; apply OBL.cons (ds := [4, 6, 3]); (iterate 3 exact rfl); kernel_rfl; intro w8 hw8 rest8)
  | (show OBL _ _ _ _ _ _ 8 _; apply OBL.cons (ds := []); (iterate 3 exact rfl); kernel_rfl; intro w8 hw8 rest8)
  | (show OBL _ _ _ _ _ _ 9 _; apply OBL.cons (ds := []); (iterate 3 exact rfl); kernel_rfl; intro w8 hw8 rest8)
  | (show OBL _ _ _ _ _ _ 10 _; apply OBL.cons (ds := [9]); (iterate 3 exact rfl); kernel_rfl; intro w8 hw8 rest8)
  | (show OBL _ _ _ _ _ _ 11 _; apply OBL.cons (ds := [8, 10, 7]); (iterate 3 exact rfl); kernel_rfl; intro w8 hw8 rest8)
  | (show OBL _ _ _ _ _ _ 12 _; apply OBL.cons (ds := [0, 1, 2, 3, 5, 6, 9, 10]); (iterate 3 exact rfl); kernel_rfl; intro w8 hw8 rest8)
  | (show NO _ _ _ _ _ _ _ _ _ _; first | apply NO.nil | (apply NO.is; exact rfl; exact rfl) | (apply NO.ex; exact rfl; exact rfl; (first | (rintro _ ⟨gl, rfl, hlb, hlge⟩) | (rintro _ ⟨ar, cr, rfl, hOr⟩))))
  | (intro w8 hw8; show NF _ _ _ _ _ _ _ _ _)
  | (show NF _ _ _ _ _ _ _ _ _; first | (apply NF.nilT; intro hap; replace hS := Sep.news [prowZ 1 encI 3 w0.heap.size ar2_11 cr2_11 c.cons.2.2, prowZ 1 encI 3 w0.heap.size ar2_7 cr2_7 c.bads.2.2, prowZ 1 encI 3 w0.heap.size ar2_3 cr2_3 c.outs.2.2] hS hw8 (by rintro q hq; simp only [List.mem_cons, List.not_mem_nil, or_false] at hq; rcases hq with rfl | rfl | rfl <;> exact prowZ_new (by assumption) hw2) (apartS hap) hw2; simp only [List.cons_append, List.nil_append] at hS; (try simp only [List.set_cons_zero, List.set_cons_succ] at hS); (try have hD3 := (cells_heap hC3).1); (try have hE3 := (cells_heap hC3).2.1); (try have hF3 := (cells_heap hC3).2.2.1); (try have hG3 := (cells_heap hC3).2.2.2.1)) | (apply NF.is; exact rfl; exact rfl))
  | (show NF _ _ _ _ _ _ (0 :: _) _ _; apply NF.ex; exact rfl; exact rfl; rintro _ ⟨gl2_0, rfl, hlb2_0, hlge2_0⟩)
  | (show NF _ _ _ _ _ _ (3 :: _) _ _; apply NF.ex; exact rfl; exact rfl; rintro _ ⟨ar2_3, cr2_3, rfl, hOr2_3⟩)
  | (show NF _ _ _ _ _ _ (4 :: _) _ _; apply NF.ex; exact rfl; exact rfl; rintro _ ⟨gl2_4, rfl, hlb2_4, hlge2_4⟩)
  | (show NF _ _ _ _ _ _ (7 :: _) _ _; apply NF.ex; exact rfl; exact rfl; rintro _ ⟨ar2_7, cr2_7, rfl, hOr2_7⟩)
  | (show NF _ _ _ _ _ _ (8 :: _) _ _; apply NF.ex; exact rfl; exact rfl; rintro _ ⟨gl2_8, rfl, hlb2_8, hlge2_8⟩)
  | (show NF _ _ _ _ _ _ (11 :: _) _ _; apply NF.ex; exact rfl; exact rfl; rintro _ ⟨ar2_11, cr2_11, rfl, hOr2_11⟩)
  | (show Z _ _ _ _ _; first | (apply Z.invIs; (exact extA)) | (apply Z.invLit; (exact extA); assumption; first | omega | (refine Nat.le_trans ?_ (by assumption); exact Below.size extA)) | (apply Z.invRow; (exact extA); assumption; assumption))
  | ((show WL _ _ _ (⟨some 40, _, _, _, _, _⟩ :: _) _ _ _; have hX3 := hX'; have hS3 := hS; have hw3 := Nat.le_trans hB0 (Below.size hX3); apply WL.lit (len := 0) tOk; (iterate 6 exact rfl); (kernel_rfl); exact rfl; intro gL wL hbL hgeL hcL hxL; have hu := cells_heap (hS3.cell (i := 6) (gb := gc) rfl); obtain ⟨_, _, _, _, _, _, _, u7, _⟩ := hu))
  | ((show WL _ _ _ (⟨some 43, _, _, _, _, _⟩ :: _) _ _ _; apply WL.append0 tOk encY_ok; (iterate 10 exact rfl); exact hbL; exact hgeL; exact Ext.refl _; exact Ry; exact (hX3.trans hxL); exact rfl; exact ny; omega; intro aY cY wY hOY hxY hfY; have hSY := Sep.newRow' hS3 (hxL.trans hxY) hOY hw3; have hbY := hSY.cell (i := 7) (gb := gc) rfl))
  | ((have h_0 := hbY; clear h_0; apply WL.storeF (w0 := w) tOk; (iterate 4 exact rfl); exact hbY; exact Ext.refl _; (iterate 4 exact rfl); exact (hX3.trans (hxL.trans hxY)); exact hgec; intro w4 hb4 hX4 hU4; have hS4' := Sep.updCell (i := 7) rfl hU4 hb4 hSY (Ext.refl _) (Nat.le_trans hw3 (Below.size (hxL.trans hxY)))))
  | (apply WL.lit tOk; (iterate 6 exact rfl); (kernel_rfl); exact rfl; intro gb w' hb hge hc hx)
  | (apply WL.append0 tOk encI_ok; (iterate 10 exact rfl); assumption; (assumption); (exact extA); assumption; (exact extA); (exact rfl); (assumption); (omega); intro a' cap' w' hO hx hf0)
  | (apply WL.storeF (w0 := w) tOk; (iterate 4 exact rfl); assumption; (exact extA); (iterate 4 exact rfl); (exact extA); (assumption); intro w' hb hX' hU; replace hS := Sep.updCell (i := 6) rfl hU hb hS extA (by (exact Below.size extA)); (try simp only [List.set_cons_zero, List.set_cons_succ] at hS); (try have hD3 := (cells_heap hC3).1); (try have hE3 := (cells_heap hC3).2.1); (try have hF3 := (cells_heap hC3).2.2.1); (try have hG3 := (cells_heap hC3).2.2.2.1))
  | (show WL _ _ _ _ _ _ _; first | apply WL.nil | (refine WL.au (k := ?_)))
  | (show Z _ _ _ _ _; apply Z.then_normal)
  | (show W _ _ _ _ _ _; first | apply W.seq | apply W.region)
  | fail)
 have hcap2 : (c.outs.2.2.length ≤ cr2_3 ∧ (ar2_3 = none → cr2_3 = 0)) ∧ (c.bads.2.2.length ≤ cr2_7 ∧ (ar2_7 = none → cr2_7 = 0)) ∧ (c.cons.2.2.length ≤ cr2_11 ∧ (ar2_11 = none → cr2_11 = 0)) := ⟨⟨hOr2_3.capLe, hOr2_3.noneCap⟩, ⟨hOr2_7.capLe, hOr2_7.noneCap⟩, ⟨hOr2_11.capLe, hOr2_11.noneCap⟩⟩
 have hcapY : c.syms.2.2.length ≤ cY ∧ (aY = none → cY = 0) := ⟨hOY.capLe, hOY.noneCap⟩
 obtain ⟨d, hd⟩ : ∃ d : Circ, d = ⟨c.max, (ar1_3, cr1_3, c.ins.2.2), (ar1_7, cr1_7, c.lat.2.2), (ar2_3, cr2_3, c.outs.2.2), (ar2_7, cr2_7, c.bads.2.2), (ar2_11, cr2_11, c.cons.2.2), (ar1_11, cr1_11, c.gates.2.2), (aY, cY, c.syms.2.2), c.com⟩ := ⟨_, rfl⟩
 have hdt : d.t = c.t := by rw [hd]
 have hcapD : CapC d := by rw [hd]; exact ⟨hcap1.1, hcap1.2.1, hcap2.1, hcap2.2.1, hcap2.2.2, hcap1.2.2, hcapY⟩
 have hS4 : Lt.Sep w0.heap.size w4 (d.psN w0.heap.size ++ (pcell gc d.vals.toArray 27 :: rest)) := by rw [hd]; exact hS4'
 have hdl : d.lat.2.2 = c.lat.2.2 := by rw [hd]
 clear hd hS4' hSY hbY hb4 hU4 hOY hfY hS3
 have hD4 : CAt w4 d := psN_at hcapD fun p hp => by
  obtain ⟨i, hi⟩ := List.mem_iff_getElem?.1 hp
  exact (hS4.holds i p (by rw [List.getElem?_append_left (List.getElem?_eq_some_iff.1 hi).1]; exact hi)).1
 have hgd : GoodC' d.t := by rw [hdt]; exact hg
 have hzd : SzC d.t 100000 := by rw [hdt]; exact hz
 have hb5 : Cells w4 gc 0 d.vals := cells_heap (hS4.cell (i := 7) rfl)
 have hs4 : w0.heap.size ≤ w4.heap.size := Below.size (hX0.trans hX4)
 repeat' (first
  | (apply WL.build tOk; (iterate 7 exact rfl); kernel_rfl)
  | (((show WL _ _ _ (⟨_, .call ⟨.value (.func 39), _, _⟩, _, _, _, _⟩ :: _) _ _ _); apply WL.call; (iterate 4 exact rfl); exact ref11_Net d w4 hD4 hgd hzd; rintro v' w5 ⟨hx5, aN, cN, aA, cA, rfl, hON, hOA⟩; have hS5 := Sep.newRow (s := 2) (enc := encN) (el := 84) (a := none) (cap := 0) (l := []) (Sep.frzMid (Sep.freeze hS4 hx5 hs4)) (Ext.refl _) Own.nil (fun k hk => by cases hk) (Nat.le_trans hs4 (Below.size hx5)); have hb6 : Cells w5 gc 0 d.vals := Cells.ext hx5 hb5))
  | (apply WL.box; (iterate 3 exact rfl); intro gb w' hb hge hc hx; have hcc := hc; ((obtain ⟨h1, h2, h3, _⟩ := hc)); (first | (have h_0 := hS6; clear h_0; obtain ⟨gF, rfl⟩ : ∃ x, x = gb := ⟨_, rfl⟩; obtain ⟨w7, rfl⟩ : ∃ x, x = w' := ⟨_, rfl⟩; obtain ⟨hx7, rfl⟩ : ∃ x, x = hx := ⟨_, rfl⟩; obtain ⟨hge7, rfl⟩ : ∃ x, x = hge := ⟨_, rfl⟩; have hb7 : w7.heap[gF]? = some (.cells (RM.vals ⟨gF, gs, d, aN, cN, aA, cA⟩ none 0 0 none 0 0 none 0 0).toArray 61 (0, 0)) := hb; clear hb hcc; have hS7 := Sep.newCell hS6 hx7 hb7 hge7 (Nat.le_trans hs4 (Below.size (hx5.trans hx6)))) | (obtain ⟨gs, rfl⟩ : ∃ x, x = gb := ⟨_, rfl⟩; obtain ⟨w6, rfl⟩ : ∃ x, x = w' := ⟨_, rfl⟩; obtain ⟨hx6, rfl⟩ : ∃ x, x = hx := ⟨_, rfl⟩; obtain ⟨hge6, rfl⟩ : ∃ x, x = hge := ⟨_, rfl⟩; have hb8 : w6.heap[gs]? = some (.cells #[.slice none 0 0] 65 (0, 0)) := hb; clear hb hcc; have hS6 := Sep.newCell hS5 hx6 hb8 hge6 (Nat.le_trans hs4 (Below.size hx5)))))
  | (apply WL.lit (len := 0) tOk; (iterate 6 exact rfl); (kernel_rfl); exact rfl; intro gb w' hb hge hc hx; have hO0 := Own.of_block0 (enc := encI) (s := 1) hb hge)
  | (show WL _ _ _ _ _ _ _; first | apply WL.nil | (refine WL.au (k := ?_)))
  | (show Z _ _ _ _ _; apply Z.then_normal)
  | (show W _ _ _ _ _ _; first | apply W.seq | apply W.region | apply W.block)
  | fail)
 obtain ⟨w8, rfl⟩ : ∃ x, x = w' := ⟨_, rfl⟩; obtain ⟨hx8, rfl⟩ : ∃ x, x = hx := ⟨_, rfl⟩
 have hX8 : Ext w0 w8 := (hX0.trans hX4).trans (hx5.trans (hx6.trans (hx7.trans hx8)))
 have hgF0 : w0.heap.size ≤ gF := Nat.le_trans (Nat.le_trans hs4 (Below.size (hx5.trans hx6))) hge7
 have hS8 := Sep.newRow hS7 hx8 (hO0.base (Nat.le_trans hs4 (Below.size (hx5.trans (hx6.trans hx7))))) (fun q hq => (hO0.blk_lt q hq).1) (Nat.le_trans hs4 (Below.size (hx5.trans (hx6.trans hx7))))
 obtain ⟨R0, hR0⟩ : ∃ R0, R0 = d.psN w0.heap.size ++ pcell gc d.vals.toArray 27 :: Lt.frz w4.heap.size w5 := ⟨_, rfl⟩
 rw [← hR0] at hS8
 have hcD : CapC d := hcapD
 have hdn : cNet c.t = cNet d.t := by rw [hdt]
 have hkC : Known w0 R0 (fun w' => CAt w' d ∧ Cells w' gc 0 d.vals) := fun w' _ hR => by
  refine ⟨psN_at hcD fun p hp => hR p (by rw [hR0]; exact List.mem_append_left _ hp), ?_⟩
  have p1 : w'.heap[gc]? = some (.cells d.vals.toArray 27 (0, 0)) := hR _ (by rw [hR0]; exact List.mem_append_right _ (List.mem_cons_self ..))
  exact cells_heap p1
 have hkN : Known w0 R0 (fun w' => Row 2 encN w' aN (cNet d.t).1 ∧ Row 1 encI w' aA (cNet d.t).2) := fun w' hX' hR => by
  have hsub : ∀ p ∈ Lt.frz w4.heap.size w5, p.P w' := fun p hp => hR p (by rw [hR0]; exact List.mem_append_right _ (List.mem_cons_of_mem _ hp))
  exact ⟨Known.frz (w0 := w0) encN_ok hON w' hX' hsub, Known.frz (w0 := w0) encI_ok hOA w' hX' hsub⟩
 clear hS hS4 hS5 hS6 hS7 hO0 hR0
 obtain ⟨m, e1, e2, e3, e4, e5, e6, e7⟩ : ∃ m : RM, gF = m.gF ∧ gs = m.gs ∧ d = m.d ∧ aN = m.aN ∧ cN = m.cN ∧ aA = m.aA ∧ cA = m.cA := ⟨⟨gF, gs, d, aN, cN, aA, cA⟩, rfl, rfl, rfl, rfl, rfl, rfl, rfl⟩
 subst e1 e2 e3 e4 e5 e6 e7
 have hS9 := Sep.pickL (pre := [_, _, _, _]) [2, 3, 1, 0] pnone hS8 rfl
 clear hS8
 have z2' : m.d.lat.2.2.length ≤ 100000 := by rw [hdl]; exact z2
 refine W.loopO m.d.lat.2.2.length (fun k b cp w' => k ≤ m.d.lat.2.2.length ∧ Ext w0 w' ∧ ∃ a' cap', Lt.Sep w0.heap.size w' (rsN w0.heap.size m.gs a' cap' (firstTo m.d.t free k).2 ++ (pcell m.gF (m.vals none 0 0 none 0 0 none 0 0).toArray 61 :: prow 1 encI 3 w0.heap.size b cp (firstTo m.d.t free k).1 :: (R0 ++ rest))))
  (fun k b cp => [(1, .bool free), (2, .pointer (some ⟨gc, 0, none⟩)), (7, .pointer (some ⟨m.gF, 0, none⟩)), (8, .slice b (firstTo m.d.t free k).1.length cp), (9, .int .i64 k)]) (some ⟨gb, 0, none⟩) 0 ⟨Nat.zero_le _, hX8, none, 0, hS9⟩ (fun k a cp w' h => h.1) (by repeat' first | exact trivial | (refine And.intro ?_ ?_) | exact rfl) ?_
 clear hS9
 rintro k bI cp w9 ⟨hk, hX9, a9, cap9, hS9⟩
 obtain ⟨f1, f2, _, _⟩ := firstTo_inv hgd free k hk
 have hsz9 := Below.size hX9
 have hsub9 : ∀ p ∈ R0, p ∈ rsN w0.heap.size m.gs a9 cap9 (firstTo m.d.t free k).2 ++ (pcell m.gF (m.vals none 0 0 none 0 0 none 0 0).toArray 61 :: prow 1 encI 3 w0.heap.size bI cp (firstTo m.d.t free k).1 :: (R0 ++ rest)) := fun p hp => List.mem_append_right _ (List.mem_cons_of_mem _ (List.mem_cons_of_mem _ (List.mem_append_left _ hp)))
 obtain ⟨hC9, x0, x1, x2, x3, x4, x5, x6, x7, x8, _⟩ := hkC.sep hX9 hS9 hsub9
 obtain ⟨c0, c1, c2, c4, c5, c9, c10, c11, c12, c13, c14⟩ := RC'.of (m := m) (ai := none) (ni := 0) (ci := 0) (av := none) (nv := 0) (cv := 0) (as' := none) (ns := 0) (cs := 0) (cells_heap (hS9.cell (i := 2) rfl))
 have RL9 := hC9.lat.row
 have hO9 : Own 1 encI 3 w0.heap.size w9 bI cp (firstTo m.d.t free k).1 := hS9.row (i := 3) rfl
 by_cases hlt : k < m.d.lat.2.2.length
 ·obtain ⟨t, ht⟩ := getI m.d.lat.2.2 hlt
  have hs := firstTo_succ (c := m.d.t) (free := free) ht
  rcases (show (free = true) ∨ (free = false ∧ 1 < t.2.2) ∨ (free = false ∧ ¬ 1 < t.2.2) by cases free <;> by_cases h : 1 < t.2.2 <;> simp [h]) with q0 | ⟨q0, q1⟩ | ⟨q0, q1⟩
  ·subst q0
   have e1 : firstTo m.d.t true (k + 1) = _ := hs.trans (fstep_in (.inl rfl))
   repeat' (first
    | (apply W.condKT; exact rfl; (focus (exact dec_true (by omega); done)))
    | (apply WL.nilc; (iterate 3 exact rfl))
    | (((show WL _ _ _ (⟨_, .call ⟨.value (.func 55), _, _⟩, _, _, _, _⟩ :: _) _ _ _); apply WL.call; (iterate 4 exact rfl); exact rs_Input m.gs _ _ (firstTo m.d.t true k).2 _ _ w0 hX9 hS9 (by omega); rintro v' w8 ⟨hX8, a8, cap8, rfl, hS8⟩; have hO8 : Own 1 encI 3 w0.heap.size w8 bI cp (firstTo m.d.t true k).1 := hS8.row (i := 3) rfl; clear hO9))
    | (apply WL.lit tOk; (iterate 6 exact rfl); (kernel_rfl); exact rfl; intro gb w' hb hge hc hx; (obtain ⟨wL, rfl⟩ : ∃ x, x = w' := ⟨_, rfl⟩; obtain ⟨hxL, rfl⟩ : ∃ x, x = hx := ⟨_, rfl⟩))
    | (apply WL.append1 (z := (2 * (((firstTo m.d.t true k).2.length : Int) + 1))) tOk encI_ok; (iterate 10 exact rfl); assumption; (exact extA); (exact rfl); (assumption); exact rfl; exact rfl; (exact extA); (omega); intro a' cap' w' hO hX' hU hF; (obtain ⟨wA, rfl⟩ : ∃ x, x = w' := ⟨_, rfl⟩; obtain ⟨hOA, rfl⟩ : ∃ x, x = hO := ⟨_, rfl⟩; obtain ⟨hXA, rfl⟩ : ∃ x, x = hX' := ⟨_, rfl⟩; obtain ⟨hFA, rfl⟩ : ∃ x, x = hF := ⟨_, rfl⟩; obtain ⟨hUA, rfl⟩ : ∃ x, x = hU := ⟨_, rfl⟩; obtain ⟨bA, rfl⟩ : ∃ x, x = a' := ⟨_, rfl⟩; obtain ⟨cA, rfl⟩ : ∃ x, x = cap' := ⟨_, rfl⟩; have hSA := Sep.updRow (i := 3) rfl hUA hOA hFA hS8 hxL (Nat.le_trans (Below.size hX8) (Below.size hxL))))
    | (show WL _ _ _ _ _ _ _; first | apply WL.nil | (refine WL.au (k := ?_)) | (apply WL.guardF; exact rfl; exact rfl))
    | (show Z _ _ _ _ _; first | apply Z.then_normal | apply Z.block_normal)
    | (show W _ _ _ _ _ _; first | apply W.seq | apply W.region | apply W.block | apply W.skip | (apply W.condT; exact rfl))
    | fail)
   exact Z.againO bA cA ⟨by omega, hXA, a8, cap8, by rw [e1]; exact hSA⟩ (by repeat' first | exact trivial | (refine And.intro ?_ ?_) | exact rfl | (rw [e1]; exact rfl))
  ·subst q0
   have e1 : firstTo m.d.t false (k + 1) = _ := hs.trans (fstep_in (.inr q1))
   repeat' (first
    | (apply W.condKT; exact rfl; (focus (exact dec_true (by omega))))
    | (apply WL.nilc; (iterate 3 exact rfl))
    | (((show WL _ _ _ (⟨_, .call ⟨.value (.func 55), _, _⟩, _, _, _, _⟩ :: _) _ _ _); apply WL.call; (iterate 4 exact rfl); exact rs_Input m.gs _ _ (firstTo m.d.t false k).2 _ _ w0 hX9 hS9 (by omega); rintro v' w8 ⟨hX8, a8, cap8, rfl, hS8⟩; have hO8 : Own 1 encI 3 w0.heap.size w8 bI cp (firstTo m.d.t false k).1 := hS8.row (i := 3) rfl; clear hO9))
    | (apply WL.lit tOk; (iterate 6 exact rfl); (kernel_rfl); exact rfl; intro gb w' hb hge hc hx; (obtain ⟨wL, rfl⟩ : ∃ x, x = w' := ⟨_, rfl⟩; obtain ⟨hxL, rfl⟩ : ∃ x, x = hx := ⟨_, rfl⟩))
    | (apply WL.append1 (z := (2 * (((firstTo m.d.t false k).2.length : Int) + 1))) tOk encI_ok; (iterate 10 exact rfl); assumption; (exact extA); (exact rfl); (assumption); exact rfl; exact rfl; (exact extA); (omega); intro a' cap' w' hO hX' hU hF; (obtain ⟨wA, rfl⟩ : ∃ x, x = w' := ⟨_, rfl⟩; obtain ⟨hOA, rfl⟩ : ∃ x, x = hO := ⟨_, rfl⟩; obtain ⟨hXA, rfl⟩ : ∃ x, x = hX' := ⟨_, rfl⟩; obtain ⟨hFA, rfl⟩ : ∃ x, x = hF := ⟨_, rfl⟩; obtain ⟨hUA, rfl⟩ : ∃ x, x = hU := ⟨_, rfl⟩; obtain ⟨bA, rfl⟩ : ∃ x, x = a' := ⟨_, rfl⟩; obtain ⟨cA, rfl⟩ : ∃ x, x = cap' := ⟨_, rfl⟩; have hSA := Sep.updRow (i := 3) rfl hUA hOA hFA hS8 hxL (Nat.le_trans (Below.size hX8) (Below.size hxL))))
    | (show WL _ _ _ _ _ _ _; first | apply WL.nil | (refine WL.au (k := ?_)) | (apply WL.index tOk; (iterate 8 exact rfl); assumption; (exact extA); exact rfl; omega; assumption; intro b off h; have hcc := h; first | (obtain ⟨h1, h2, h3, h4, h5, h6, _⟩ := h) | (obtain ⟨h1, h2, h3, _⟩ := h) | (obtain ⟨h1, h2, _⟩ := h) | (obtain ⟨h1, _⟩ := h)))
    | (show Z _ _ _ _ _; first | apply Z.then_normal | apply Z.block_normal)
    | (show W _ _ _ _ _ _; first | apply W.seq | apply W.region | apply W.block | apply W.skip)
    | fail)
   exact Z.againO bA cA ⟨by omega, hXA, a8, cap8, by rw [e1]; exact hSA⟩ (by repeat' first | exact trivial | (refine And.intro ?_ ?_) | exact rfl | (rw [e1]; exact rfl))
  ·subst q0
   have e1 : firstTo m.d.t false (k + 1) = _ := hs.trans (fstep_no (fun hh => hh.elim (fun h => by cases h) q1))
   repeat' (first
    | (apply W.condKT; exact rfl; (focus (exact dec_true (by omega))))
    | (apply W.condKF; exact rfl; (focus (exact dec_false q1; done)))
    | (apply WL.lit tOk; (iterate 6 exact rfl); (kernel_rfl); exact rfl; intro gb w' hb hge hc hx; (obtain ⟨wL, rfl⟩ : ∃ x, x = w' := ⟨_, rfl⟩; obtain ⟨hxL, rfl⟩ : ∃ x, x = hx := ⟨_, rfl⟩))
    | (apply WL.append1 (z := (t.2.2)) tOk encI_ok; (iterate 10 exact rfl); assumption; (exact extA); (exact rfl); (assumption); exact rfl; exact rfl; (exact extA); (omega); intro a' cap' w' hO hX' hU hF; (obtain ⟨wA, rfl⟩ : ∃ x, x = w' := ⟨_, rfl⟩; obtain ⟨hOA, rfl⟩ : ∃ x, x = hO := ⟨_, rfl⟩; obtain ⟨hXA, rfl⟩ : ∃ x, x = hX' := ⟨_, rfl⟩; obtain ⟨hFA, rfl⟩ : ∃ x, x = hF := ⟨_, rfl⟩; obtain ⟨hUA, rfl⟩ : ∃ x, x = hU := ⟨_, rfl⟩; obtain ⟨bA, rfl⟩ : ∃ x, x = a' := ⟨_, rfl⟩; obtain ⟨cA, rfl⟩ : ∃ x, x = cap' := ⟨_, rfl⟩; have hSA := Sep.updRow (i := 3) rfl hUA hOA hFA hS9 hxL (Nat.le_trans hsz9 (Below.size hxL))))
    | (show WL _ _ _ _ _ _ _; first | apply WL.nil | (refine WL.au (k := ?_)) | (apply WL.index tOk; (iterate 8 exact rfl); assumption; (exact extA); exact rfl; omega; assumption; intro b off h; have hcc := h; first | (obtain ⟨h1, h2, h3, h4, h5, h6, _⟩ := h) | (obtain ⟨h1, h2, h3, _⟩ := h) | (obtain ⟨h1, h2, _⟩ := h) | (obtain ⟨h1, _⟩ := h)))
    | (show Z _ _ _ _ _; first | apply Z.then_normal | apply Z.block_normal)
    | (show W _ _ _ _ _ _; first | apply W.seq | apply W.region | apply W.block | apply W.skip)
    | fail)
   exact Z.againO bA cA ⟨by omega, hXA, a9, cap9, by rw [e1]; exact hSA⟩ (by repeat' first | exact trivial | (refine And.intro ?_ ?_) | exact rfl | (rw [e1]; exact rfl))
 obtain rfl : k = m.d.lat.2.2.length := by omega
 obtain ⟨F, hF⟩ : ∃ F, F = firstTo m.d.t free m.d.lat.2.2.length := ⟨_, rfl⟩
 rw [← hF] at hS9 f1 f2 hO9 ⊢
 have hS10 := Sep.newRow (s := 1) (enc := encRow) (el := 22) (a := none) (cap := 0) (l := ([] : List (RowV Int))) (Sep.newRow (s := 1) (enc := encRow) (el := 22) (a := none) (cap := 0) (l := ([] : List (RowV Int))) (Sep.newRow (s := 1) (enc := encRow) (el := 22) (a := none) (cap := 0) (l := ([] : List (RowV Int))) hS9 (Ext.refl _) Own.nil (fun k hk => by cases hk) hsz9) (Ext.refl _) Own.nil (fun k hk => by cases hk) hsz9) (Ext.refl _) Own.nil (fun k hk => by cases hk) hsz9
 have hS11 := Sep.pickL (pre := [_, _, _, _, _, _, _]) [3, 4, 5, 0, 1, 2, 6] pnone hS10 rfl
 clear hS9 hS10
 have hOs : Own 1 encRow 22 w0.heap.size w9 none 0 ([] : List (RowV Int)) := Own.nil
 repeat' (first
  | (apply W.condKF; exact rfl; (focus (exact dec_false (by omega); done)))
  | (apply WL.nilc; (iterate 3 exact rfl))
  | (apply WL.lit tOk; (iterate 6 exact rfl); (kernel_rfl); exact rfl; intro gb w' hb hge hc hx; (obtain ⟨wL, rfl⟩ : ∃ x, x = w' := ⟨_, rfl⟩; obtain ⟨hxL, rfl⟩ : ∃ x, x = hx := ⟨_, rfl⟩; obtain ⟨hcL, rfl⟩ : ∃ x, x = hc := ⟨_, rfl⟩))
  | ((apply WL.append1 (xs := ([] : List (RowV Int))) (z := ((bI, cp, F.1) : RowV Int)) tOk encRow_ok; (iterate 10 exact rfl); exact hOs; exact hxL; exact rfl; exact hcL; exact rfl; exact rfl; exact (hX9.trans hxL); exact (by simp); intro aW cW wM hOM hXM hUM hFM; have hSM := Sep.updRow (i := 5) rfl hUM hOM hFM hS11 hxL (Nat.le_trans hsz9 (Below.size hxL)); have hbM := hSM.cell (i := 2) (gb := m.gF) rfl))
  | ((apply WL.storeF (w0 := w0) tOk; (iterate 4 exact rfl); exact hbM; exact Ext.refl _; (iterate 4 exact rfl); exact hXM; exact hgF0; intro wS hbS hXS hUS))
  | (show WL _ _ _ _ _ _ _; first | apply WL.nil | (refine WL.au (k := ?_)))
  | (show Z _ _ _ _ _; first | apply Z.then_normal | apply Z.then_exit | apply Z.block_exit)
  | (show W _ _ _ _ _ _; first | apply W.seq | apply W.region | apply W.ret | apply W.exit)
  | fail)
 have hSS := Sep.updCell (i := 2) rfl hUS hbS hSM (Ext.refl _) (Below.size hXM)
 have hXS0 : Ext w0 wS := hXS
 have eN : newU c.t free = ⟨F.2, [], [], [F.1]⟩ := by rw [hF, ← hdt]; rfl
 have hKn : RKn w0 m (newU c.t free) [] [] [(bI, cp, F.1)] (prow 1 encI 3 w0.heap.size bI cp F.1 :: R0) := by
  rw [eN]
  refine ⟨rfl, rfl, rfl, fun s hs => ?_, fun w' hX' hR => ?_⟩
  ·rw [List.mem_singleton.1 hs]; exact hO9.noneCap
  ·have k1 := hkC w' hX' fun p hp => hR p (List.mem_cons_of_mem _ hp)
   have k2 := hkN w' hX' fun p hp => hR p (List.mem_cons_of_mem _ hp)
   have k3 : Own 1 encI 3 w0.heap.size w' bI cp F.1 := hR _ (List.mem_cons_self ..)
   exact ⟨k1.1, k2.1, k2.2, fun f hf => (by cases hf), fun f hf => (by cases hf), fun s hs => (by rw [List.mem_singleton.1 hs]; exact Own.row encI_ok k3)⟩
 rw [eN] at hKn ⊢
 exact Z.body1 Tryz.results19 rfl fun q => ⟨m, ⟨a9, cap9, none, 0, [], none, 0, [], aW, cW, [(bI, cp, F.1)], prow 1 encI 3 w0.heap.size bI cp F.1 :: R0⟩, rfl, hdt, hgF0, hXS0.at q, hSS.ext ((Ext.refl _).at q), hKn⟩
end Go.Proofs.YteidpnpbfagaeaaGreat
namespace Go.Proofs.YteidpnpbfagaeaaGreat
open Go Go.Lt Go.RowKit
set_option linter.unusedVariables false
set_option linter.unusedSimpArgs false
set_option maxRecDepth 20000

abbrev exU : CirT := ⟨1, [], [(2, 3, 0)], [], [], [], [], [], ⟨#[]⟩⟩
theorem exU_good : GoodC' exU := by
 refine ⟨by decide, fun x hx => ?_, fun x hx => ?_, fun x hx => ?_, ?_, fun x hx h => ?_, ?_⟩
 ·have : x = 2 := by simpa using hx
  subst this; decide
 ·have : x = 3 := by simpa using hx
  subst this; decide
 ·have : x = (2, 3, 0) := by simpa using hx
  subst this; exact .inl rfl
 ·simp
 ·have : x = 3 := by simpa using hx
  subst this; simp
 ·show (ordL []).length = 0
  rw [ordL_nil]; rfl
theorem exU_net : cNet exU = ([(-1, 0)], [0, 2]) := by
 unfold cNet
 rw [show exU.gates = [] from rfl, ordL_nil]
 rfl
theorem exU_cp (a : Int) (h : a = 0 ∨ a = 1) (I O S : List (List Int)) : cpU exU ⟨[], I, O, S ++ [[a]]⟩ = ([0, a], []) := by
 have hl : UnV.last ⟨[], I, O, S ++ [[a]]⟩ = [a] := by
  unfold UnV.last
  dsimp only
  rw [show (S ++ [[a]]).length - 1 = S.length by simp]
  simp [List.getD]
 unfold cpU
 rw [hl, exU_net]
 show copyV [] [(-1, 0)] [a] = _
 rw [copyV_yes (fun z hz => by rw [List.mem_singleton.1 hz]; unfold hasL; rcases h with rfl | rfl <;> exact ⟨by decide, by decide⟩)]
 rfl
theorem exU_next0 : nextU exU [0, 0] = [1] := by unfold nextU uLit; rw [exU_net]; rfl
theorem exU_next1 : nextU exU [0, 1] = [0] := by unfold nextU uLit; rw [exU_net]; rfl
theorem exU_new : newU exU false = ⟨[], [], [], [[0]]⟩ := by
 have e : firstTo exU false 1 = ([0], []) := by
  show fstep false ([], []) (2, 3, 0) = _
  rw [fstep_no (by simp)]; rfl
 unfold newU
 rw [show exU.lat.length = 1 from rfl, e]
theorem exU_1 : growU exU (newU exU false) = ⟨[], [[]], [[0, 0]], [[0], [1]]⟩ := by
 unfold growU
 rw [exU_new, show (⟨[], [], [], [[0]]⟩ : UnV) = ⟨[], [], [], [] ++ [[0]]⟩ from rfl, exU_cp 0 (.inl rfl), exU_next0]; rfl
theorem exU_2 : growU exU (growU exU (newU exU false)) = ⟨[], [[], []], [[0, 0], [0, 1]], [[0], [1], [0]]⟩ := by
 rw [exU_1]
 unfold growU
 rw [show (⟨[], [[]], [[0, 0]], [[0], [1]]⟩ : UnV) = ⟨[], [[]], [[0, 0]], [[0]] ++ [[1]]⟩ from rfl, exU_cp 1 (.inr rfl), exU_next1]; rfl
set_option maxRecDepth 20000 in
set_option maxHeartbeats 16000000 in
theorem law19_lives (w : World) : Pure Tryz.prog 16 [] w (.bool true) := by
 refine Spec.of _ Tryz.func16 rfl Tryz.ntmps16 (by kernel_rfl) rfl ?_
 repeat' (first
  | ((show WL _ _ _ (⟨_, .build 27 _, _, _, _, _⟩ :: _) _ _ _; apply WL.build (cs := [.int .i64 1, .slice none 0 0, .slice (some ⟨g1, 0, none⟩) 1 1, .slice none 0 0, .slice none 0 0, .slice none 0 0, .slice none 0 0, .slice none 0 0, .string ⟨#[]⟩]) tOk; (iterate 6 exact rfl); (kernel_rfl); kernel_rfl))
  | (apply WL.build tOk; (iterate 7 exact rfl); kernel_rfl)
  | (apply WL.lit tOk; (iterate 6 exact rfl); (kernel_rfl); exact rfl; intro gb w' hb hge hc hx; have hO := Own.of_block ([((2, 3, 0) : T3)]) enc3_ok hb hge rfl; (obtain ⟨g1, rfl⟩ : ∃ x, x = gb := ⟨_, rfl⟩; obtain ⟨w1, rfl⟩ : ∃ x, x = w' := ⟨_, rfl⟩; obtain ⟨hx1, rfl⟩ : ∃ x, x = hx := ⟨_, rfl⟩; obtain ⟨hO1, rfl⟩ : ∃ x, x = hO := ⟨_, rfl⟩))
  | (show WL _ _ _ _ _ _ _; first | apply WL.nil | (refine WL.au (k := ?_)))
  | (show Z _ _ _ _ _; apply Z.then_normal)
  | (show W _ _ _ _ _ _; first | apply W.seq | apply W.region)
  | fail)
 obtain ⟨c, hc⟩ : ∃ c : Circ, c = ⟨1, (none, 0, []), (some ⟨g1, 0, none⟩, 1, [(2, 3, 0)]), (none, 0, []), (none, 0, []), (none, 0, []), (none, 0, []), (none, 0, []), ⟨#[]⟩⟩ := ⟨_, rfl⟩
 have hct : c.t = exU := by rw [hc]
 have nilK : ∀ {α : Type} (s : Nat) (enc : α → List Value), RowK s enc w1 ((none, 0, []) : RowV α) := fun s enc => ⟨Row.nil _ _ _ _, Nat.le_refl _, fun _ => rfl⟩
 have hC : CAt w1 c := by
  rw [hc]
  exact ⟨nilK _ _, ⟨hO1.row enc3_ok, Nat.le_refl _, fun h => by cases h⟩, nilK _ _, nilK _ _, nilK _ _, nilK _ _, nilK _ _⟩
 have hg : GoodC' c.t := by rw [hct]; exact exU_good
 have hz : SzC c.t 100000 := by rw [hct]; unfold SzC; simp
 have hz2 : c.t.syms.length ≤ 100000 := by rw [hct]; simp
 have hnew := un_New c false w1 hC hg hz hz2
 have hv : c.val = .agg #[.int .i64 1, .slice none 0 0, .slice (some ⟨g1, 0, none⟩) 1 1, .slice none 0 0, .slice none 0 0, .slice none 0 0, .slice none 0 0, .slice none 0 0, .string ⟨#[]⟩] := by rw [hc]; rfl
 rw [hv, hct] at hnew
 have hO0 := (newU_ok exU_good false).1
 have hO1k := (growU_ok exU_good hO0).1
 have hN0 : (newU exU false).N.length ≤ 600000 := by rw [exU_new]; exact Nat.zero_le _
 have hF0 : (newU exU false).own.length ≤ 100000 := by rw [exU_new]; exact Nat.zero_le _
 have hN1 : (growU exU (newU exU false)).N.length ≤ 600000 := by rw [exU_1]; exact Nat.zero_le _
 have hF1 : (growU exU (newU exU false)).own.length ≤ 100000 := by rw [exU_1]; decide
 have hs1 : UnV.state ⟨[], [[], []], [[0, 0], [0, 1]], [[0], [1], [0]]⟩ 1 0 = 1 := by decide
 have hs2 : UnV.state ⟨[], [[], []], [[0, 0], [0, 1]], [[0], [1], [0]]⟩ 2 0 = 0 := by decide
 repeat' (first
  | (apply WL.neNilS tOk; (iterate 6 exact rfl))
  | (apply WL.gT; exact rfl; exact rfl; (focus (with_reducible exact dec_true rfl)))
  | (((show WL _ _ _ (⟨_, .call ⟨.value (.func 17), _, _⟩, _, _, _, _⟩ :: _) _ _ _); apply WL.call; (iterate 4 exact rfl); exact hnew; rintro v' w4 ⟨w0, m, x, hX0, rfl, hdt, hU⟩; have hgm : GoodC' m.d.t := (by rw [hdt]; exact exU_good); have hzm : SzC m.d.t 100000 := (by rw [hdt]; unfold SzC; simp); have hw4 : Ext w1 w4 := hX0.trans hU.ext))
  | (((show WL _ _ _ (⟨_, .call ⟨.value (.func 44), _, _⟩, _, _, _, _⟩ :: _) _ _ _); apply WL.call; (iterate 4 exact rfl); (first | (have h_0 := hU1; clear h_0; exact un_Grow hU1 hgm hzm (by rw [hdt]; exact hO1k) hN1 hF1) | exact un_Grow hU hgm hzm (by rw [hdt]; exact hO0) hN0 hF0); (first | (have h_0 := hU1; clear h_0; rintro v' w6 ⟨rfl, x2, hU2⟩; rw [hdt, exU_2] at hU2; have hst1 := un_State hU2 1 0; have hst2 := un_State hU2 2 0; rw [hs1] at hst1; rw [hs2] at hst2) | (rintro v' w5 ⟨rfl, x1, hU1⟩; rw [hdt] at hU1))))
  | (((show WL _ _ _ (⟨_, .call ⟨.value (.func 45), _, _⟩, _, _, _, _⟩ :: _) _ _ _); apply WL.callS; (iterate 4 exact rfl); first | exact hst1 | exact hst2))
  | (((show WL _ _ _ (⟨_, .call ⟨.value (.func 23), _, _⟩, _, _, _, _⟩ :: _) _ _ _); apply WL.call; (iterate 4 exact rfl); exact un_Net hU2 (Nat.zero_le _); rintro v' w7 ⟨hx7, aN, cN, rfl, _⟩))
  | (show WL _ _ _ _ _ _ _; first | apply WL.nil | (refine WL.au (k := ?_)))
  | (show Z _ _ _ _ _; apply Z.then_normal)
  | (show W _ _ _ _ _ _; first | apply W.seq | apply W.region | apply W.ret)
  | fail)
 exact Z.body1 Tryz.results16 rfl fun q => ⟨congrArg Value.bool (dec_true rfl), Ext.at ((hx1.trans (hX0.trans hU2.ext)).trans hx7) q⟩
end Go.Proofs.YteidpnpbfagaeaaGreat
namespace Go.Proofs.YteidpnpbfagaeaaGreat
open Go Go.Lt Go.RowKit
set_option linter.unusedVariables false
set_option linter.unusedSimpArgs false
set_option maxRecDepth 20000

theorem take_eqB {A B : List Bool} {k : Nat} {x y : Bool} (h : A.take k = B.take k) (hx : A[k]? = some x) (hy : B[k]? = some y) (he : x = y) : A.take (k + 1) = B.take (k + 1) := by
 rw [take_succ' hx, take_succ' hy, h, he]
set_option maxHeartbeats 4000000 in
theorem ref01_Same (a b : Option Addr) (ca cb : Nat) (A B : List Bool) (w : World) (RA : Row 1 encB w a A) (RB : Row 1 encB w b B) :
  Still Tryz.prog 32 [.slice a A.length ca, .slice b B.length cb] w (.bool (dec (A = B))) := by
 have hlA := RA.len
 have hlB := RB.len
 by_cases hl : A.length = B.length
 rotate_left
 ·rw [dec_false (fun h => hl (by rw [h]))]
  refine Spec.of _ Tryz.func32 rfl Tryz.ntmps32 (by kernel_rfl) rfl ?_
  repeat' (first
   | (apply W.condKT; exact rfl; (focus (exact dec_true (by omega); done)))
   | (show WL _ _ _ _ _ _ _; first | apply WL.nil | (refine WL.au (k := ?_)))
   | (show Z _ _ _ _ _; first | apply Z.then_normal | apply Z.then_ret)
   | (show W _ _ _ _ _ _; first | apply W.seq | apply W.region | apply W.ret)
   | fail)
  exact Z.body1 Tryz.results32 rfl fun m => ⟨rfl, m, rfl⟩
 refine Spec.of _ Tryz.func32 rfl Tryz.ntmps32 (by kernel_rfl) rfl ?_
 repeat' (first
  | (apply W.condKF; exact rfl; (focus (exact dec_false (by omega); done)))
  | (show WL _ _ _ _ _ _ _; first | apply WL.nil | (refine WL.au (k := ?_)))
  | (show Z _ _ _ _ _; apply Z.then_normal)
  | (show W _ _ _ _ _ _; first | apply W.seq | apply W.region | apply W.block | apply W.skip)
  | fail)
 refine W.loop1 A.length (fun k => k ≤ A.length ∧ A.take k = B.take k) (fun k => [(0, .slice a A.length ca), (1, .slice b B.length cb), (5, .int .i64 k)]) ⟨Nat.zero_le _, rfl⟩ (fun k h => h.1) ⟨rfl, rfl, rfl, trivial⟩ ?_
 rintro k ⟨hk, hT⟩
 by_cases hlt : k < A.length
 ·obtain ⟨x, hx⟩ := getI A hlt
  obtain ⟨y, hy⟩ := getI B (show k < B.length by omega)
  by_cases he : x = y
  ·subst he
   repeat' (first
    | (apply W.condKT; exact rfl; (focus (exact dec_true (by omega))))
    | (apply W.condKF; exact rfl; (focus (exact dec_false (fun h => h rfl); done)))
    | (show WL _ _ _ _ _ _ _; first | apply WL.nil | (refine WL.au (k := ?_)))
    | (show QL _ _ _ _ _ _ _; first | apply QL.nil | (refine QL.au (k := ?_)) | (apply QL.index tOk; (iterate 8 exact rfl); assumption; (exact extA); exact rfl; omega; assumption; intro b off h; have hcc := h; first | (obtain ⟨h1, h2, h3, h4, h5, h6, _⟩ := h) | (obtain ⟨h1, h2, h3, _⟩ := h) | (obtain ⟨h1, h2, _⟩ := h) | (obtain ⟨h1, _⟩ := h)))
    | (show Z _ _ _ _ _; first | apply Z.then_normal | apply Z.block_normal)
    | (show W _ _ _ _ _ _; first | apply W.seq | apply W.region | apply W.block | apply W.skip | (apply W.regionD tMix; kernel_rfl))
    | fail)
   exact Z.again1 ⟨by omega, take_eqB hT hx hy rfl⟩ ⟨rfl, rfl, rfl, trivial⟩
  ·rw [dec_false (fun h => he (by rw [h] at hx; rw [hx] at hy; exact Option.some.inj hy))]
   repeat' (first
    | (apply W.condKT; exact rfl; (focus (exact dec_true (by omega))))
    | (show WL _ _ _ _ _ _ _; first | apply WL.nil | (refine WL.au (k := ?_)))
    | (show QL _ _ _ _ _ _ _; first | apply QL.nil | (refine QL.au (k := ?_)) | (apply QL.index tOk; (iterate 8 exact rfl); assumption; (exact extA); exact rfl; omega; assumption; intro b off h; have hcc := h; first | (obtain ⟨h1, h2, h3, h4, h5, h6, _⟩ := h) | (obtain ⟨h1, h2, h3, _⟩ := h) | (obtain ⟨h1, h2, _⟩ := h) | (obtain ⟨h1, _⟩ := h)))
    | (show Z _ _ _ _ _; first | apply Z.then_normal | apply Z.then_ret | apply Z.block_ret)
    | (show W _ _ _ _ _ _; first | apply W.seq | apply W.region | apply W.block | apply W.skip | apply W.ret | (apply W.regionD tMix; kernel_rfl))
    | fail)
   exact Z.body1 Tryz.results32 rfl fun m => ⟨rfl, m, rfl⟩
 ·obtain rfl : k = A.length := by omega
  have hAB : A = B := by rw [List.take_length] at hT; rw [hT, hl, List.take_length]
  rw [dec_true hAB]
  repeat' (first
   | (apply W.condKF; exact rfl; (focus (exact dec_false (by omega); done)))
   | (show WL _ _ _ _ _ _ _; first | apply WL.nil | (refine WL.au (k := ?_)))
   | (show Z _ _ _ _ _; first | apply Z.then_normal | apply Z.then_exit | apply Z.block_exit)
   | (show W _ _ _ _ _ _; first | apply W.seq | apply W.region | apply W.ret | apply W.exit)
   | fail)
  exact Z.body1 Tryz.results32 rfl fun m => ⟨rfl, m, rfl⟩
abbrev witV (r : RunV) : Value := .agg #[.int .i64 0, .int .i64 0, rowVal r.st, rowVal r.ins]
set_option maxHeartbeats 4000000 in
theorem ref18_Same (r q : RunV) (w : World) (hr : RAt w r) (hq : RAt w q) :
  Pure Tryz.prog 10 [witV r, witV q] w (.bool (dec (r.s = q.s ∧ r.i = q.i))) := by
 have hsm := ref01_Same r.st.1 q.st.1 r.st.2.1 q.st.2.1 r.st.2.2 q.st.2.2
 have hlr := hr.ins.len
 have hlq := hq.ins.len
 have lr : r.i.length = r.ins.2.2.length := List.length_map _
 have lq : q.i.length = q.ins.2.2.length := List.length_map _
 by_cases hs : r.st.2.2 = q.st.2.2
 rotate_left
 ·rw [dec_false (fun h => hs h.1)]
  refine Spec.of _ Tryz.func10 rfl Tryz.ntmps10 (by kernel_rfl) rfl ?_
  repeat' (first
   | (apply WL.box; (iterate 3 exact rfl); intro gb w' hb hge hc hx; have hcc := hc; ((obtain ⟨h1, h2, h3, _⟩ := hc)); (first | (have h_0 := hA; clear h_0; obtain ⟨g3, rfl⟩ : ∃ x, x = gb := ⟨_, rfl⟩; obtain ⟨w3, rfl⟩ : ∃ x, x = w' := ⟨_, rfl⟩; obtain ⟨hx3, rfl⟩ : ∃ x, x = hx := ⟨_, rfl⟩; obtain ⟨y1, y2, y3, y4, _⟩ := hcc) | (obtain ⟨g2, rfl⟩ : ∃ x, x = gb := ⟨_, rfl⟩; obtain ⟨w2, rfl⟩ : ∃ x, x = w' := ⟨_, rfl⟩; obtain ⟨hx2, rfl⟩ : ∃ x, x = hx := ⟨_, rfl⟩; obtain ⟨x1, x2, x3, x4, _⟩ := hcc; have hA := trivial)))
   | (apply WL.gT; exact rfl; exact rfl; (focus ((rw [dec_false hs]; rfl); done)))
   | (apply WL.gF; exact rfl; exact rfl; (focus (exact dec_false (show ¬ (0 : Int) ≠ 0 from fun h => h rfl))))
   | (((show WL _ _ _ (⟨_, .call ⟨.value (.func 32), _, _⟩, _, _, _, _⟩ :: _) _ _ _); apply WL.callS; (iterate 4 exact rfl); exact hsm _ (hr.st.ext extA) (hq.st.ext extA)))
   | (show WL _ _ _ _ _ _ _; first | apply WL.nil | (refine WL.au (k := ?_)) | (apply WL.guardF; exact rfl; exact rfl))
   | (show Z _ _ _ _ _; first | apply Z.then_normal | apply Z.then_ret)
   | (show W _ _ _ _ _ _; first | apply W.seq | apply W.region | apply W.ret | (apply W.condT; exact rfl))
   | fail)
  exact Z.body1 Tryz.results10 rfl fun m => ⟨rfl, Ext.at extA m⟩
 by_cases hl : r.ins.2.2.length = q.ins.2.2.length
 rotate_left
 ·rw [dec_false (fun h => hl (by rw [← lr, ← lq, h.2]))]
  refine Spec.of _ Tryz.func10 rfl Tryz.ntmps10 (by kernel_rfl) rfl ?_
  repeat' (first
   | (apply WL.box; (iterate 3 exact rfl); intro gb w' hb hge hc hx; have hcc := hc; ((obtain ⟨h1, h2, h3, _⟩ := hc)); (first | (have h_0 := hA; clear h_0; obtain ⟨g3, rfl⟩ : ∃ x, x = gb := ⟨_, rfl⟩; obtain ⟨w3, rfl⟩ : ∃ x, x = w' := ⟨_, rfl⟩; obtain ⟨hx3, rfl⟩ : ∃ x, x = hx := ⟨_, rfl⟩; obtain ⟨y1, y2, y3, y4, _⟩ := hcc) | (obtain ⟨g2, rfl⟩ : ∃ x, x = gb := ⟨_, rfl⟩; obtain ⟨w2, rfl⟩ : ∃ x, x = w' := ⟨_, rfl⟩; obtain ⟨hx2, rfl⟩ : ∃ x, x = hx := ⟨_, rfl⟩; obtain ⟨x1, x2, x3, x4, _⟩ := hcc; have hA := trivial)))
   | (apply WL.gF; exact rfl; exact rfl; (focus (first | exact dec_false (show ¬ (0 : Int) ≠ 0 from fun h => h rfl) | (rw [dec_true hs]; rfl))))
   | (apply W.condKT; exact rfl; (focus (exact dec_true (by omega); done)))
   | (((show WL _ _ _ (⟨_, .call ⟨.value (.func 32), _, _⟩, _, _, _, _⟩ :: _) _ _ _); apply WL.callS; (iterate 4 exact rfl); exact hsm _ (hr.st.ext extA) (hq.st.ext extA)))
   | (show WL _ _ _ _ _ _ _; first | apply WL.nil | (refine WL.au (k := ?_)))
   | (show Z _ _ _ _ _; first | apply Z.then_normal | apply Z.then_ret)
   | (show W _ _ _ _ _ _; first | apply W.seq | apply W.region | apply W.ret)
   | fail)
  exact Z.body1 Tryz.results10 rfl fun m => ⟨rfl, Ext.at extA m⟩
 refine Spec.of _ Tryz.func10 rfl Tryz.ntmps10 (by kernel_rfl) rfl ?_
 repeat' (first
  | (apply WL.box; (iterate 3 exact rfl); intro gb w' hb hge hc hx; have hcc := hc; ((obtain ⟨h1, h2, h3, _⟩ := hc)); (first | (have h_0 := hA; clear h_0; obtain ⟨g3, rfl⟩ : ∃ x, x = gb := ⟨_, rfl⟩; obtain ⟨w3, rfl⟩ : ∃ x, x = w' := ⟨_, rfl⟩; obtain ⟨hx3, rfl⟩ : ∃ x, x = hx := ⟨_, rfl⟩; obtain ⟨y1, y2, y3, y4, _⟩ := hcc) | (obtain ⟨g2, rfl⟩ : ∃ x, x = gb := ⟨_, rfl⟩; obtain ⟨w2, rfl⟩ : ∃ x, x = w' := ⟨_, rfl⟩; obtain ⟨hx2, rfl⟩ : ∃ x, x = hx := ⟨_, rfl⟩; obtain ⟨x1, x2, x3, x4, _⟩ := hcc; have hA := trivial)))
  | (apply WL.gF; exact rfl; exact rfl; (focus (first | exact dec_false (show ¬ (0 : Int) ≠ 0 from fun h => h rfl) | (rw [dec_true hs]; rfl))))
  | (apply W.condKF; exact rfl; (focus (exact dec_false (by omega); done)))
  | (((show WL _ _ _ (⟨_, .call ⟨.value (.func 32), _, _⟩, _, _, _, _⟩ :: _) _ _ _); apply WL.callS; (iterate 4 exact rfl); exact hsm _ (hr.st.ext extA) (hq.st.ext extA)))
  | (show WL _ _ _ _ _ _ _; first | apply WL.nil | (refine WL.au (k := ?_)))
  | (show Z _ _ _ _ _; apply Z.then_normal)
  | (show W _ _ _ _ _ _; first | apply W.seq | apply W.region | apply W.block | apply W.skip)
  | fail)
 have hX3 : Ext w w3 := hx2.trans hx3
 have z4 := hx3.cell x4
 have Rr := hr.ins.ext hX3
 have Rq := hq.ins.ext hX3
 refine W.loop1 r.ins.2.2.length (fun k => k ≤ r.ins.2.2.length ∧ r.i.take k = q.i.take k) (fun k => [(2, .pointer (some ⟨g2, 0, none⟩)), (3, .pointer (some ⟨g3, 0, none⟩)), (5, .int .i64 k)]) ⟨Nat.zero_le _, rfl⟩ (fun k h => h.1) ⟨rfl, rfl, rfl, trivial⟩ ?_
 rintro k ⟨hk, hT⟩
 by_cases hlt : k < r.ins.2.2.length
 ·obtain ⟨a, ha⟩ := getI r.ins.2.2 hlt
  obtain ⟨b, hb⟩ := getI q.ins.2.2 (show k < q.ins.2.2.length by omega)
  have ha' : r.i[k]? = some a.2.2 := by show (r.ins.2.2.map (·.2.2))[k]? = _; rw [List.getElem?_map, ha]; rfl
  have hb' : q.i[k]? = some b.2.2 := by show (q.ins.2.2.map (·.2.2))[k]? = _; rw [List.getElem?_map, hb]; rfl
  have Ra := (hr.each a (List.mem_of_getElem? ha)).ext hX3
  have Rb := (hq.each b (List.mem_of_getElem? hb)).ext hX3
  have h2 := ref01_Same a.1 b.1 a.2.1 b.2.1 a.2.2 b.2.2 w3 Ra Rb
  by_cases he : a.2.2 = b.2.2
  ·repeat' (first
    | (apply W.condKT; exact rfl; (focus (exact dec_true (by omega))))
    | (apply W.condKF; exact rfl; (focus ((rw [dec_true he]; rfl); done)))
    | ((show QL _ _ _ _ (⟨_, .call ⟨.value (.func 32), _, _⟩, _, _, _, _⟩ :: _) _ _; apply QL.callS; (iterate 4 exact rfl); exact h2))
    | (show WL _ _ _ _ _ _ _; first | apply WL.nil | (refine WL.au (k := ?_)))
    | (show QL _ _ _ _ _ _ _; first | apply QL.nil | (refine QL.au (k := ?_)) | (apply QL.index tOk; (iterate 8 exact rfl); assumption; (exact extA); exact rfl; omega; assumption; intro b off h; have hcc := h; first | (obtain ⟨h1, h2, h3, h4, h5, h6, _⟩ := h) | (obtain ⟨h1, h2, h3, _⟩ := h) | (obtain ⟨h1, h2, _⟩ := h) | (obtain ⟨h1, _⟩ := h)))
    | (show Z _ _ _ _ _; first | apply Z.then_normal | apply Z.block_normal)
    | (show W _ _ _ _ _ _; first | apply W.seq | apply W.region | apply W.block | apply W.skip | (apply W.regionD tMix; kernel_rfl))
    | fail)
   exact Z.again1 ⟨by omega, by rw [take_succ' ha', take_succ' hb', hT, he]⟩ ⟨rfl, rfl, rfl, trivial⟩
  ·rw [dec_false (fun h => he (by rw [h.2, hb'] at ha'; exact (Option.some.inj ha').symm))]
   repeat' (first
    | (apply W.condKT; exact rfl; (focus (first | exact dec_true (by omega) | (rw [dec_false he]; rfl); done)))
    | ((show QL _ _ _ _ (⟨_, .call ⟨.value (.func 32), _, _⟩, _, _, _, _⟩ :: _) _ _; apply QL.callS; (iterate 4 exact rfl); exact h2))
    | (show WL _ _ _ _ _ _ _; first | apply WL.nil | (refine WL.au (k := ?_)))
    | (show QL _ _ _ _ _ _ _; first | apply QL.nil | (refine QL.au (k := ?_)) | (apply QL.index tOk; (iterate 8 exact rfl); assumption; (exact extA); exact rfl; omega; assumption; intro b off h; have hcc := h; first | (obtain ⟨h1, h2, h3, h4, h5, h6, _⟩ := h) | (obtain ⟨h1, h2, h3, _⟩ := h) | (obtain ⟨h1, h2, _⟩ := h) | (obtain ⟨h1, _⟩ := h)))
    | (show Z _ _ _ _ _; first | apply Z.then_normal | apply Z.then_ret | apply Z.block_ret)
    | (show W _ _ _ _ _ _; first | apply W.seq | apply W.region | apply W.block | apply W.skip | apply W.ret | (apply W.regionD tMix; kernel_rfl))
    | fail)
   exact Z.body1 Tryz.results10 rfl fun m => ⟨rfl, hX3.at m⟩
 ·obtain rfl : k = r.ins.2.2.length := by omega
  have hAB : r.i = q.i := by
   have e1 : r.i.take r.ins.2.2.length = r.i := by rw [← lr, List.take_length]
   have e2 : q.i.take r.ins.2.2.length = q.i := by rw [hl, ← lq, List.take_length]
   rw [e1, e2] at hT; exact hT
  rw [dec_true ⟨hs, hAB⟩]
  repeat' (first
   | (apply W.condKF; exact rfl; (focus (exact dec_false (by omega); done)))
   | (show WL _ _ _ _ _ _ _; first | apply WL.nil | (refine WL.au (k := ?_)))
   | (show Z _ _ _ _ _; first | apply Z.then_normal | apply Z.then_exit | apply Z.block_exit)
   | (show W _ _ _ _ _ _; first | apply W.seq | apply W.region | apply W.ret | apply W.exit)
   | fail)
  exact Z.body1 Tryz.results10 rfl fun m => ⟨rfl, hX3.at m⟩
end Go.Proofs.YteidpnpbfagaeaaGreat
namespace Go.Proofs.YteidpnpbfagaeaaGreat
open Go Go.Lt Go.RowKit
set_option linter.unusedVariables false
set_option linter.unusedSimpArgs false
set_option maxRecDepth 20000

noncomputable abbrev UX.ps (x : UX) (B : Nat) (m : UM) (N : List (Int × Int)) : List Piece := unP B m N x.a x.cap x.af x.cf x.fr x.as' x.cs x.st x.R
noncomputable abbrev RX.ps (x : RX) (B : Nat) (m : RM) (N : List (Int × Int)) : List Piece := rvP B m N x.a x.cap x.ai x.ci x.is x.av x.cv x.vs x.as' x.cs x.ss x.R
structure JAt (w0 w : World) (m : UM) (u : UnV) (x : UX) (mm : RM) (uu : UnV) (xx : RX) (rest : List Piece) : Prop where
 ext : Ext w0 w
 sep : Lt.Sep w0.heap.size w (x.ps w0.heap.size m u.N ++ (xx.ps w0.heap.size mm uu.N ++ rest))
 kp : UKn w0 m u x.fr x.st x.R
 kr : RKn w0 mm uu xx.is xx.vs xx.ss xx.R
theorem perm3 {α : Type} (a b c : List α) : (a ++ (b ++ c)).Perm (b ++ (a ++ c)) := by
 rw [← List.append_assoc, ← List.append_assoc]
 exact List.Perm.append_right c List.perm_append_comm
theorem permB {α : Type} (a b : List α) (p : α) : (p :: (a ++ (b ++ []))).Perm (a ++ (b ++ [p])) := by
 rw [List.append_nil, show a ++ (b ++ [p]) = (a ++ b) ++ [p] from (List.append_assoc _ _ _).symm]
 exact List.perm_append_comm (l₁ := [p])
section
variable {w0 w : World} {m : UM} {u : UnV} {x : UX} {mm : RM} {uu : UnV} {xx : RX} {rest : List Piece}
theorem JAt.p (h : JAt w0 w m u x mm uu xx rest) : UAt w0 w m u x (xx.ps w0.heap.size mm uu.N ++ rest) := ⟨h.ext, h.sep, h.kp⟩
theorem JAt.r (h : JAt w0 w m u x mm uu xx rest) : RAtU w0 w mm uu xx (x.ps w0.heap.size m u.N ++ rest) := ⟨h.ext, Sep.ofPerm (perm3 _ _ _) h.sep, h.kr⟩
theorem JAt.ofP (h : UAt w0 w m u x (xx.ps w0.heap.size mm uu.N ++ rest)) (k : RKn w0 mm uu xx.is xx.vs xx.ss xx.R) : JAt w0 w m u x mm uu xx rest := ⟨h.ext, h.sep, h.kn, k⟩
theorem JAt.ofR (h : RAtU w0 w mm uu xx (x.ps w0.heap.size m u.N ++ rest)) (k : UKn w0 m u x.fr x.st x.R) : JAt w0 w m u x mm uu xx rest := ⟨h.ext, Sep.ofPerm (perm3 _ _ _) h.sep, k, h.kn⟩
theorem JAt.up {w' : World} (h : JAt w0 w m u x mm uu xx rest) (hx : Ext w w') : JAt w0 w' m u x mm uu xx rest := ⟨h.ext.trans hx, h.sep.ext hx, h.kp, h.kr⟩
theorem JAt.front {p : Piece} (h : JAt w0 w m u x mm uu xx [p]) : Lt.Sep w0.heap.size w (p :: (x.ps w0.heap.size m u.N ++ (xx.ps w0.heap.size mm uu.N ++ []))) :=
 Sep.ofPerm (permB _ _ _).symm h.sep
theorem JAt.drop {p : Piece} (h : JAt w0 w m u x mm uu xx [p]) : JAt w0 w m u x mm uu xx [] := ⟨h.ext, (Sep.cons_iff.1 h.front).2.2.2, h.kp, h.kr⟩
structure AskC (gb : Nat) (k i : Int) (w : World) : Prop where
 c1 : w.cell? ⟨gb, 0 + 1, none⟩ = some (.int .i64 k)
 c2 : w.cell? ⟨gb, 0 + 1 + 1, none⟩ = some (.int .i64 i)
theorem AskC.at {gb : Nat} {k i : Int} {w : World} (h : AskC gb k i w) (q : Nat) : AskC gb k i (at' w q) := ⟨((Ext.refl w).at q).cell h.c1, ((Ext.refl w).at q).cell h.c2⟩
theorem JAt.box {gb : Nat} {kd k i : Int} {t : TypeId} (h : JAt w0 w m u x mm uu xx [pcell gb #[.int .i64 kd, .int .i64 k, .int .i64 i] t]) : AskC gb k i w := by
 obtain ⟨_, c1, c2, _⟩ := cells_heap (h.front.cell (i := 0) rfl)
 exact ⟨c1, c2⟩
theorem JAt.boxed {w' : World} {gb : Nat} {cs : Array Value} {t : TypeId} (h : JAt w0 w m u x mm uu xx []) (hx : Ext w w') (hb : w'.heap[gb]? = some (.cells cs t (0, 0))) (hge : w.heap.size ≤ gb) : JAt w0 w' m u x mm uu xx [pcell gb cs t] :=
 ⟨h.ext.trans hx, Sep.ofPerm (permB _ _ _) (Sep.newCell h.sep hx hb hge (Below.size h.ext)), h.kp, h.kr⟩
end
structure AskN (c : CirT) (u u' : UnV) : Prop where
 ok : UOk c u'
 n : u'.N.length ≤ u.N.length + c.ins.length + (cNet c).1.length + 4 * c.lat.length
 o : u'.own.length ≤ max u.own.length 5
theorem AskN.refl {c : CirT} {u : UnV} (h : UOk c u) : AskN c u u := ⟨h, by omega, by omega⟩
theorem AskN.grow {c : CirT} (hg : GoodC' c) {u : UnV} (h : UOk c u) (h5 : u.own.length ≤ 4) : AskN c u (growU c u) := by
 obtain ⟨g1, g2, g3, g4⟩ := growU_ok hg h
 have e : (growU c u).own.length = u.own.length + 1 := by simp [growU]
 exact ⟨g1, by omega, by omega⟩
theorem AskN.unlike {c : CirT} {u : UnV} (h : UOk c u) (i k : Int) : AskN c u (unlikeU u i k).2 := by
 obtain ⟨g1, g2, g3⟩ := unlikeU_ok h i k
 exact ⟨g1, by omega, by omega⟩
theorem dec_self {α : Type} (a : α) : Value.bool (dec (a = a)) = .bool true := congrArg Value.bool (dec_true rfl)
set_option maxHeartbeats 32000000 in
theorem law19_one {w0 w : World} {m : UM} {u : UnV} {x : UX} {mm : RM} {xx : RX} (hJ : JAt w0 w m u x mm u xx []) (hgF : w0.heap.size ≤ mm.gF) (hdm : mm.d.t = m.d.t) (hg : GoodC' m.d.t) (hz : SzC m.d.t 100000) (hU : UOk m.d.t u) (hN : u.N.length ≤ 500000) (hF : u.own.length ≤ 5) (kd k i : Int) (hi9 : i ≤ 9223372036854775807) :
  Lt.Spec Tryz.prog 20 [.pointer (some ⟨m.gf, 0, none⟩), .pointer (some ⟨mm.gF, 0, none⟩), .agg #[.int .i64 kd, .int .i64 k, .int .i64 i]] w (fun v w' => v = .bool true ∧ ∃ u' x' xx', JAt w0 w' m u' x' mm u' xx' [] ∧ AskN m.d.t u u') := by
 have hgm : GoodC' mm.d.t := by rw [hdm]; exact hg
 have hzm : SzC mm.d.t 100000 := by rw [hdm]; exact hz
 have hUm : UOk mm.d.t u := by rw [hdm]; exact hU
 rcases (show kd = 0 ∨ kd = 1 ∨ kd = 2 ∨ kd = 3 ∨ kd = 4 ∨ kd = 5 ∨ (kd ≠ 0 ∧ kd ≠ 1 ∧ kd ≠ 2 ∧ kd ≠ 3 ∧ kd ≠ 4 ∧ kd ≠ 5) by omega) with rfl | rfl | rfl | rfl | rfl | rfl | q0
 ·skip
  by_cases h5 : u.own.length ≤ 4
  ·refine Spec.of _ Tryz.func20 rfl Tryz.ntmps20 (by kernel_rfl) rfl ?_
   repeat' (first
    | (apply WL.box; (iterate 3 exact rfl); intro gb w' hb hge hc hx; have hcc := hc; ((obtain ⟨h1, h2, h3, _⟩ := hc)); (obtain ⟨g0, rfl⟩ : ∃ x, x = gb := ⟨_, rfl⟩; obtain ⟨w1, rfl⟩ : ∃ x, x = w' := ⟨_, rfl⟩; obtain ⟨hx1, rfl⟩ : ∃ x, x = hx := ⟨_, rfl⟩; have hJ1 := hJ.up hx1; obtain ⟨l1, l2, l3⟩ := hJ1.r.lens; obtain ⟨c0, c1, c2, c4, c5, c9, c10, c11, c12, c13, c14⟩ := RC'.of hJ1.r.cells))
    | (apply WL.nilc; (iterate 3 exact rfl))
    | (apply W.condKT; exact rfl; (focus (exact dec_true (by omega))))
    | (apply W.condKF; exact rfl; (focus (exact dec_false (by omega); done)))
    | (((show WL _ _ _ (⟨_, .call ⟨.value (.func 56), _, _⟩, _, _, _, _⟩ :: _) _ _ _); apply WL.call; (iterate 4 exact rfl); exact r19_Grow hJ1.r hgm hzm hUm (by omega) (by omega) hgF; rintro v' w2 ⟨xx2, hR2⟩; rw [hdm] at hR2; have hJ2 := JAt.ofR hR2 hJ1.kp))
    | (((show WL _ _ _ (⟨_, .call ⟨.value (.func 44), _, _⟩, _, _, _, _⟩ :: _) _ _ _); apply WL.call; (iterate 4 exact rfl); exact un_Grow hJ2.p hg hz hU (by omega) (by omega); rintro v' w3 ⟨rfl, x3, hU3⟩; have hJ3 := JAt.ofP hU3 hJ2.kr))
    | (show WL _ _ _ _ _ _ _; first | apply WL.nil | (refine WL.au (k := ?_)))
    | (show Z _ _ _ _ _; first | apply Z.then_normal | apply Z.then_ret | apply Z.block_ret)
    | (show W _ _ _ _ _ _; first | apply W.seq | apply W.region | apply W.block | apply W.skip | apply W.ret)
    | fail)
   exact Z.body1 Tryz.results20 rfl fun q => ⟨dec_self _, growU m.d.t u, x3, xx2, hJ3.up (Ext.at (Ext.refl _) q), AskN.grow hg hU h5⟩
  ·refine Spec.of _ Tryz.func20 rfl Tryz.ntmps20 (by kernel_rfl) rfl ?_
   repeat' (first
    | (apply WL.box; (iterate 3 exact rfl); intro gb w' hb hge hc hx; have hcc := hc; ((obtain ⟨h1, h2, h3, _⟩ := hc)); (obtain ⟨g0, rfl⟩ : ∃ x, x = gb := ⟨_, rfl⟩; obtain ⟨w1, rfl⟩ : ∃ x, x = w' := ⟨_, rfl⟩; obtain ⟨hx1, rfl⟩ : ∃ x, x = hx := ⟨_, rfl⟩; have hJ1 := hJ.up hx1; obtain ⟨l1, l2, l3⟩ := hJ1.r.lens; obtain ⟨c0, c1, c2, c4, c5, c9, c10, c11, c12, c13, c14⟩ := RC'.of hJ1.r.cells))
    | (apply WL.nilc; (iterate 3 exact rfl))
    | (apply W.condKT; exact rfl; (focus (exact dec_true (by omega))))
    | (show WL _ _ _ _ _ _ _; first | apply WL.nil | (refine WL.au (k := ?_)))
    | (show Z _ _ _ _ _; first | apply Z.then_normal | apply Z.then_ret | apply Z.block_ret)
    | (show W _ _ _ _ _ _; first | apply W.seq | apply W.region | apply W.block | apply W.ret)
    | fail)
   exact Z.body1 Tryz.results20 rfl fun q => ⟨rfl, u, x, xx, hJ.up (hx1.at q), AskN.refl hU⟩
 ·skip
  refine Spec.of _ Tryz.func20 rfl Tryz.ntmps20 (by kernel_rfl) rfl ?_
  repeat' (first
   | (show W _ _ (.region 8 _ _) _ _ _; apply W.regionGX (.fl true 0 (.fl true 1 (.fl true 3 (.fl true 6 (.fl true 7 (.fl true 9 (.fl false 2 (.fl false 4 (.fl false 8 (.fl false 10 (.br 5 (.br 11 (.fl true 12 (.fl true 13 .done)) .stop) .stop))))))))))) [4, 5, 8, 10, 11, 12] tMix; kernel_rfl)
   | (apply WL.box; (iterate 3 exact rfl); intro gb w' hb hge hc hx; have hcc := hc; ((obtain ⟨h1, h2, h3, _⟩ := hc)); (obtain ⟨g0, rfl⟩ : ∃ x, x = gb := ⟨_, rfl⟩; obtain ⟨w1, rfl⟩ : ∃ x, x = w' := ⟨_, rfl⟩; obtain ⟨hx1, rfl⟩ : ∃ x, x = hx := ⟨_, rfl⟩))
   | (apply W.condKT; exact rfl; (focus (exact dec_true (by omega))))
   | (apply W.condKF; exact rfl; (focus (exact dec_false (by omega); done)))
   | (((show WL _ _ _ (⟨_, .call ⟨.value (.func 57), _, _⟩, _, _, _, _⟩ :: _) _ _ _); apply WL.callP; (iterate 4 exact rfl); exact un_In (hJ.p.up extA) k i; intro w' hx))
   | (((show WL _ _ _ (⟨_, .call ⟨.value (.func 58), _, _⟩, _, _, _, _⟩ :: _) _ _ _); apply WL.callS; (iterate 4 exact rfl); exact r19_In (hJ.r.up extA) k i))
   | (show SX _ _ _ _ _ _ _ _ _; first | (apply SX.done; intro w' hx) | (apply SX.fl0; exact rfl) | (apply SX.fl1; exact rfl; (exact extA)) | (apply SX.br1; exact rfl; intro w' hx))
   | (show FL _ _ _ _ _ _ _ _; first | apply FL.nilX | (apply FL.loadE tOk; (iterate 5 exact rfl); (assumption)))
   | (show FL _ _ _ _ _ _ _ _; (refine FL.au (k := ?_)))
   | (show Z _ _ _ _ _; (apply Z.sxE; (exact extA)))
   | (show WL _ _ _ _ _ _ _; first | apply WL.nil | (refine WL.au (k := ?_)))
   | (show Z _ _ _ _ _; first | apply Z.then_normal | apply Z.then_ret | apply Z.block_ret)
   | (show W _ _ _ _ _ _; first | apply W.seq | apply W.region | apply W.block | apply W.ret)
   | fail)
  all_goals exact Z.body1 Tryz.results20 rfl fun q => ⟨dec_self _, u, x, xx, hJ.up (Ext.at extA q), AskN.refl hU⟩
 ·skip
  refine Spec.of _ Tryz.func20 rfl Tryz.ntmps20 (by kernel_rfl) rfl ?_
  repeat' (first
   | (show W _ _ (.region 10 _ _) _ _ _; apply W.regionGX (.fl true 0 (.fl true 1 (.fl true 3 (.fl true 6 (.fl true 7 (.fl true 9 (.fl false 2 (.fl false 4 (.fl false 8 (.fl false 10 (.br 5 (.br 11 (.fl true 12 (.fl true 13 .done)) .stop) .stop))))))))))) [4, 5, 8, 10, 11, 12] tMix; kernel_rfl)
   | (apply WL.box; (iterate 3 exact rfl); intro gb w' hb hge hc hx; have hcc := hc; ((obtain ⟨h1, h2, h3, _⟩ := hc)); (obtain ⟨g0, rfl⟩ : ∃ x, x = gb := ⟨_, rfl⟩; obtain ⟨w1, rfl⟩ : ∃ x, x = w' := ⟨_, rfl⟩; obtain ⟨hx1, rfl⟩ : ∃ x, x = hx := ⟨_, rfl⟩))
   | (apply W.condKT; exact rfl; (focus (exact dec_true (by omega))))
   | (apply W.condKF; exact rfl; (focus (exact dec_false (by omega); done)))
   | (((show WL _ _ _ (⟨_, .call ⟨.value (.func 45), _, _⟩, _, _, _, _⟩ :: _) _ _ _); apply WL.callS; (iterate 4 exact rfl); exact un_State (hJ.p.up extA) k i))
   | (((show WL _ _ _ (⟨_, .call ⟨.value (.func 59), _, _⟩, _, _, _, _⟩ :: _) _ _ _); apply WL.callS; (iterate 4 exact rfl); exact r19_State (hJ.r.up extA) k i))
   | (show SX _ _ _ _ _ _ _ _ _; first | (apply SX.done; intro w' hx) | (apply SX.fl0; exact rfl) | (apply SX.fl1; exact rfl; (exact extA)) | (apply SX.br1; exact rfl; intro w' hx))
   | (show FL _ _ _ _ _ _ _ _; first | apply FL.nilX | (apply FL.loadE tOk; (iterate 5 exact rfl); (assumption)))
   | (show FL _ _ _ _ _ _ _ _; (refine FL.au (k := ?_)))
   | (show Z _ _ _ _ _; (apply Z.sxE; (exact extA)))
   | (show WL _ _ _ _ _ _ _; first | apply WL.nil | (refine WL.au (k := ?_)))
   | (show Z _ _ _ _ _; first | apply Z.then_normal | apply Z.then_ret | apply Z.block_ret)
   | (show W _ _ _ _ _ _; first | apply W.seq | apply W.region | apply W.block | apply W.ret)
   | fail)
  all_goals exact Z.body1 Tryz.results20 rfl fun q => ⟨dec_self _, u, x, xx, hJ.up (Ext.at extA q), AskN.refl hU⟩
 ·skip
  have hrl := fun (w9 : World) (h9 : RAtU w0 w9 mm u xx (x.ps w0.heap.size m u.N ++ [])) => r19_Lit hgm hzm hUm.own h9 (by omega) k i hi9
  rw [hdm] at hrl
  refine Spec.of _ Tryz.func20 rfl Tryz.ntmps20 (by kernel_rfl) rfl ?_
  repeat' (first
   | (show W _ _ (.region 12 _ _) _ _ _; apply W.regionGX (.fl true 0 (.fl true 1 (.fl true 3 (.fl true 6 (.fl true 7 (.fl true 9 (.fl false 2 (.fl false 4 (.fl false 8 (.fl false 10 (.br 5 (.br 11 (.fl true 12 (.fl true 13 .done)) .stop) .stop))))))))))) [4, 5, 8, 10, 11, 12] tMix; kernel_rfl)
   | (apply WL.box; (iterate 3 exact rfl); intro gb w' hb hge hc hx; have hcc := hc; ((obtain ⟨h1, h2, h3, _⟩ := hc)); (obtain ⟨g0, rfl⟩ : ∃ x, x = gb := ⟨_, rfl⟩; obtain ⟨w1, rfl⟩ : ∃ x, x = w' := ⟨_, rfl⟩; obtain ⟨hx1, rfl⟩ : ∃ x, x = hx := ⟨_, rfl⟩))
   | (apply W.condKT; exact rfl; (focus (exact dec_true (by omega))))
   | (apply W.condKF; exact rfl; (focus (exact dec_false (by omega); done)))
   | (((show WL _ _ _ (⟨_, .call ⟨.value (.func 60), _, _⟩, _, _, _, _⟩ :: _) _ _ _); apply WL.callP; (iterate 4 exact rfl); exact un_Lit hg (hJ.p.up extA) k i hi9; intro w' hx))
   | (((show WL _ _ _ (⟨_, .call ⟨.value (.func 61), _, _⟩, _, _, _, _⟩ :: _) _ _ _); apply WL.callS; (iterate 4 exact rfl); exact hrl _ (hJ.r.up extA)))
   | (show SX _ _ _ _ _ _ _ _ _; first | (apply SX.done; intro w' hx) | (apply SX.fl0; exact rfl) | (apply SX.fl1; exact rfl; (exact extA)) | (apply SX.br1; exact rfl; intro w' hx))
   | (show FL _ _ _ _ _ _ _ _; first | apply FL.nilX | (apply FL.loadE tOk; (iterate 5 exact rfl); (assumption)))
   | (show FL _ _ _ _ _ _ _ _; (refine FL.au (k := ?_)))
   | (show Z _ _ _ _ _; (apply Z.sxE; (exact extA)))
   | (show WL _ _ _ _ _ _ _; first | apply WL.nil | (refine WL.au (k := ?_)))
   | (show Z _ _ _ _ _; first | apply Z.then_normal | apply Z.then_ret | apply Z.block_ret)
   | (show W _ _ _ _ _ _; first | apply W.seq | apply W.region | apply W.block | apply W.ret)
   | fail)
  all_goals exact Z.body1 Tryz.results20 rfl fun q => ⟨dec_self _, u, x, xx, hJ.up (Ext.at extA q), AskN.refl hU⟩
 ·skip
  have hrl := fun (w9 : World) (h9 : RAtU w0 w9 mm u xx (x.ps w0.heap.size m u.N ++ [])) => r19_Bad hgm hzm hUm h9 (by omega) k i
  rw [hdm] at hrl
  refine Spec.of _ Tryz.func20 rfl Tryz.ntmps20 (by kernel_rfl) rfl ?_
  repeat' (first
   | (show W _ _ (.region 14 _ _) _ _ _; apply W.regionGX (.fl true 0 (.fl true 1 (.fl true 3 (.fl true 6 (.fl true 7 (.fl true 9 (.fl false 2 (.fl false 4 (.fl false 8 (.fl false 10 (.br 5 (.br 11 (.fl true 12 (.fl true 13 .done)) .stop) .stop))))))))))) [4, 5, 8, 10, 11, 12] tMix; kernel_rfl)
   | (apply WL.box; (iterate 3 exact rfl); intro gb w' hb hge hc hx; have hcc := hc; ((obtain ⟨h1, h2, h3, _⟩ := hc)); (obtain ⟨g0, rfl⟩ : ∃ x, x = gb := ⟨_, rfl⟩; obtain ⟨w1, rfl⟩ : ∃ x, x = w' := ⟨_, rfl⟩; obtain ⟨hx1, rfl⟩ : ∃ x, x = hx := ⟨_, rfl⟩))
   | (apply W.condKT; exact rfl; (focus (exact dec_true (by omega))))
   | (apply W.condKF; exact rfl; (focus (exact dec_false (by omega); done)))
   | (((show WL _ _ _ (⟨_, .call ⟨.value (.func 62), _, _⟩, _, _, _, _⟩ :: _) _ _ _); apply WL.callP; (iterate 4 exact rfl); exact un_Bad hg (hJ.p.up extA) k i; intro w' hx))
   | (((show WL _ _ _ (⟨_, .call ⟨.value (.func 63), _, _⟩, _, _, _, _⟩ :: _) _ _ _); apply WL.callS; (iterate 4 exact rfl); exact hrl _ (hJ.r.up extA)))
   | (show SX _ _ _ _ _ _ _ _ _; first | (apply SX.done; intro w' hx) | (apply SX.fl0; exact rfl) | (apply SX.fl1; exact rfl; (exact extA)) | (apply SX.br1; exact rfl; intro w' hx))
   | (show FL _ _ _ _ _ _ _ _; first | apply FL.nilX | (apply FL.loadE tOk; (iterate 5 exact rfl); (assumption)))
   | (show FL _ _ _ _ _ _ _ _; (refine FL.au (k := ?_)))
   | (show Z _ _ _ _ _; (apply Z.sxE; (exact extA)))
   | (show WL _ _ _ _ _ _ _; first | apply WL.nil | (refine WL.au (k := ?_)))
   | (show Z _ _ _ _ _; first | apply Z.then_normal | apply Z.then_ret | apply Z.block_ret)
   | (show W _ _ _ _ _ _; first | apply W.seq | apply W.region | apply W.block | apply W.ret)
   | fail)
  all_goals exact Z.body1 Tryz.results20 rfl fun q => ⟨dec_self _, u, x, xx, hJ.up (Ext.at extA q), AskN.refl hU⟩
 ·skip
  have hrl := fun (w9 : World) (h9 : RAtU w0 w9 mm u xx (x.ps w0.heap.size m u.N ++ [])) => r19_Cons hgm hzm hUm h9 (by omega) k
  rw [hdm] at hrl
  refine Spec.of _ Tryz.func20 rfl Tryz.ntmps20 (by kernel_rfl) rfl ?_
  repeat' (first
   | (show W _ _ (.region 16 _ _) _ _ _; apply W.regionGX (.fl true 0 (.fl true 1 (.fl true 4 (.fl true 5 (.fl false 2 (.fl false 6 (.br 3 (.br 7 (.br 8 (.fl true 9 .done) .stop) .stop) .stop))))))) [3, 6, 7, 8] tMix; kernel_rfl)
   | (apply WL.box; (iterate 3 exact rfl); intro gb w' hb hge hc hx; have hcc := hc; ((obtain ⟨h1, h2, h3, _⟩ := hc)); (obtain ⟨g0, rfl⟩ : ∃ x, x = gb := ⟨_, rfl⟩; obtain ⟨w1, rfl⟩ : ∃ x, x = w' := ⟨_, rfl⟩; obtain ⟨hx1, rfl⟩ : ∃ x, x = hx := ⟨_, rfl⟩))
   | (apply W.condKT; exact rfl; (focus (exact dec_true (by omega))))
   | (apply W.condKF; exact rfl; (focus (exact dec_false (by omega); done)))
   | (((show WL _ _ _ (⟨_, .call ⟨.value (.func 64), _, _⟩, _, _, _, _⟩ :: _) _ _ _); apply WL.call; (iterate 4 exact rfl); exact un_Cons hg hz (hJ.p.up extA) k; rintro v' w5 ⟨hx5, a5, cp5, rfl, hO5⟩))
   | (((show WL _ _ _ (⟨_, .call ⟨.value (.func 65), _, _⟩, _, _, _, _⟩ :: _) _ _ _); apply WL.call; (iterate 4 exact rfl); exact hrl _ (hJ.r.up extA); rintro v' w6 ⟨hx6, a6, cp6, rfl, hO6⟩))
   | (((show WL _ _ _ (⟨_, .call ⟨.value (.func 27), _, _⟩, _, _, _, _⟩ :: _) _ _ _); apply WL.callS; (iterate 4 exact rfl); exact ref_Ints a5 a6 cp5 cp6 _ _ _ ((hO5.row encI_ok).ext extA) ((hO6.row encI_ok).ext extA)))
   | (show SX _ _ _ _ _ _ _ _ _; first | (apply SX.done; intro w' hx) | (apply SX.fl0; exact rfl) | (apply SX.fl1; exact rfl; (exact extA)) | (apply SX.br1; exact rfl; intro w' hx))
   | (show FL _ _ _ _ _ _ _ _; first | apply FL.nilX | (apply FL.loadE tOk; (iterate 5 exact rfl); (assumption)))
   | (show FL _ _ _ _ _ _ _ _; (refine FL.au (k := ?_)))
   | (show Z _ _ _ _ _; (apply Z.sxE; (exact extA)))
   | (show WL _ _ _ _ _ _ _; first | apply WL.nil | (refine WL.au (k := ?_)))
   | (show Z _ _ _ _ _; first | apply Z.then_normal | apply Z.then_ret | apply Z.block_ret)
   | (show W _ _ _ _ _ _; first | apply W.seq | apply W.region | apply W.block | apply W.ret)
   | fail)
  all_goals exact Z.body1 Tryz.results20 rfl fun q => ⟨dec_self _, u, x, xx, hJ.up (Ext.at extA q), AskN.refl hU⟩
 ·skip
  refine Spec.of _ Tryz.func20 rfl Tryz.ntmps20 (by kernel_rfl) rfl ?_
  repeat' (first
   | (show W _ _ (.region 17 _ _) _ _ _; apply W.regionG (.fl true 0 (.fl true 1 (.fl true 3 (.fl true 6 (.fl true 7 (.fl true 9 (.fl false 2 (.fl false 4 (.fl false 8 (.fl false 10 (.br 5 (.br 11 (.fl true 12 (.fl true 13 .done)) .stop) .stop))))))))))) [4, 5, 8, 10, 11, 12] (AskC g0 k i) tMix; kernel_rfl)
   | (apply WL.box; (iterate 3 exact rfl); intro gb w' hb hge hc hx; have hcc := hc; ((obtain ⟨h1, h2, h3, _⟩ := hc)); (obtain ⟨g0, rfl⟩ : ∃ x, x = gb := ⟨_, rfl⟩; obtain ⟨w1, rfl⟩ : ∃ x, x = w' := ⟨_, rfl⟩; obtain ⟨hx1, rfl⟩ : ∃ x, x = hx := ⟨_, rfl⟩; have hJ1 : JAt w0 w1 m u x mm u xx [pcell g0 #[.int .i64 kd, .int .i64 k, .int .i64 i] 55] := hJ.boxed hx1 hb hge; have hC1 := hJ1.box))
   | (apply W.condKF; exact rfl; (focus (exact dec_false (by omega); done)))
   | ((show FL _ _ _ _ _ _ _ _; apply FL.loadK tOk; (iterate 5 exact rfl); (first | exact fun w9 h9 => h9.c1 | exact fun w9 h9 => h9.c2)))
   | (((show WL _ _ _ (⟨_, .call ⟨.value (.func 66), _, _⟩, _, _, _, _⟩ :: _) _ _ _); apply WL.call; (iterate 4 exact rfl); exact un_Unlike hJ1.p hz hU (by omega) k i; rintro v' w3 ⟨rfl, x3, hU3⟩; have hJ3 := JAt.ofP hU3 hJ1.kr; have hC3 := hJ3.box))
   | (((show WL _ _ _ (⟨_, .call ⟨.value (.func 67), _, _⟩, _, _, _, _⟩ :: _) _ _ _); apply WL.call; (iterate 4 exact rfl); exact r19_Unlike hJ3.r hzm hUm (by omega) k i; rintro v' w4 ⟨rfl, x4, hR4⟩; have hJ4 := JAt.ofR hR4 hJ3.kp; have hC4 := hJ4.box))
   | ((show SG _ _ _ _ _ _ _ _ _; apply SG.fl1; exact rfl; intro q; exact hC1.at q))
   | ((show Z _ _ _ _ _; apply Z.sgE; intro q; first | exact hC4.at q | exact hC3.at q | exact hC1.at q))
   | (show WL _ _ _ _ _ _ _; first | apply WL.nil | (refine WL.au (k := ?_)))
   | (show SG _ _ _ _ _ _ _ _ _; first | apply SG.done | (apply SG.fl0; exact rfl) | (apply SG.br1; exact rfl))
   | (show FL _ _ _ _ _ _ _ _; first | apply FL.nilS | (refine FL.au (k := ?_)))
   | (show Z _ _ _ _ _; first | apply Z.then_normal | apply Z.block_normal)
   | (show W _ _ _ _ _ _; first | apply W.seq | apply W.region | apply W.block | apply W.skip | apply W.ret)
   | fail)
  all_goals exact Z.body1 Tryz.results20 rfl fun q => ⟨dec_self _, (unlikeU u k i).2, x3, x4, hJ4.drop.up (Ext.at (Ext.refl _) q), AskN.unlike hU k i⟩
end Go.Proofs.YteidpnpbfagaeaaGreat
namespace Go.Proofs.YteidpnpbfagaeaaGreat
open Go Go.Lt Go.RowKit
set_option linter.unusedVariables false
set_option linter.unusedSimpArgs false
set_option maxRecDepth 20000

theorem net_len3 {c : CirT} (hg : GoodC' c) : (cNet c).1.length ≤ c.ins.length + c.lat.length + c.gates.length := by
 rw [(cNet_ok hg).1.len1]
 have h2 := (ordL_is c.gates).1.le
 unfold CirT.seq
 simp only [List.length_append, List.length_map] at *
 omega
set_option maxRecDepth 20000 in
set_option maxHeartbeats 32000000 in
theorem law_UnrollPlays (c : Circ) (free : Bool) (la ab : Option Addr) (cl cb : Nat) (L : List T3) (ins : List Bool) (w : World) (hC : CAt w c) (RL : Row 3 enc3 w la L) (hL9 : ∀ a ∈ L, a.2.2 ≤ 9223372036854775807) (Rb : Row 1 encB w ab ins) (hcb : ins.length ≤ cb) (hi : ins.length ≤ 1048576) :
  Pure Tryz.prog 4 [c.val, .bool free, .slice la L.length cl, .slice ab ins.length cb] w (.bool true) := by
 have hLl := RL.len
 by_cases hf : FewC c.t 12 ∧ c.max ≤ 300 ∧ L.length ≤ 60
 rotate_left
 ·skip
  rcases (show ¬ FewC c.t 12 ∨ (FewC c.t 12 ∧ ¬ c.max ≤ 300) ∨ (FewC c.t 12 ∧ c.max ≤ 300 ∧ ¬ L.length ≤ 60) by
   by_cases h1 : FewC c.t 12 <;> by_cases h2 : c.max ≤ 300 <;> by_cases h3 : L.length ≤ 60 <;> simp_all) with q0 | ⟨q0, q1⟩ | ⟨q0, q1, q2⟩
  ·refine Spec.of _ Tryz.func4 rfl Tryz.ntmps4 (by kernel_rfl) rfl ?_
   repeat' (first
    | (apply WL.box; (iterate 3 exact rfl); intro gb w' hb hge hc hx; have hcc := hc; ((obtain ⟨h1, h2, h3, _⟩ := hc)))
    | (apply WL.gT; exact rfl; exact rfl; (focus ((rw [dec_false q0]; rfl))))
    | ((show WL _ _ _ (⟨_, .call ⟨.value (.func 15), _, _⟩, _, _, _, _⟩ :: _) _ _ _); apply WL.callP; (iterate 4 exact rfl); exact law11_Few c 12 _; intro w' hx)
    | ((show WL _ _ _ (⟨_, .call ⟨.value (.func 16), _, _⟩, _, _, _, _⟩ :: _) _ _ _); apply WL.callP; (iterate 4 exact rfl); exact law19_lives _; intro w' hx)
    | (show WL _ _ _ _ _ _ _; first | apply WL.nil | (refine WL.au (k := ?_)) | (apply WL.guardF; exact rfl; exact rfl))
    | (show Z _ _ _ _ _; first | apply Z.then_normal | apply Z.then_ret)
    | (show W _ _ _ _ _ _; first | apply W.seq | apply W.region | apply W.ret | (apply W.condT; exact rfl))
    | fail)
   exact Z.body1 Tryz.results4 rfl fun m => ⟨rfl, Ext.at extA m⟩
  ·refine Spec.of _ Tryz.func4 rfl Tryz.ntmps4 (by kernel_rfl) rfl ?_
   repeat' (first
    | (apply WL.box; (iterate 3 exact rfl); intro gb w' hb hge hc hx; have hcc := hc; ((obtain ⟨h1, h2, h3, _⟩ := hc)))
    | (apply WL.gT; exact rfl; exact rfl; (focus (exact dec_true (by omega))))
    | (apply WL.gF; exact rfl; exact rfl; (focus ((rw [dec_true q0]; rfl))))
    | ((show WL _ _ _ (⟨_, .call ⟨.value (.func 15), _, _⟩, _, _, _, _⟩ :: _) _ _ _); apply WL.callP; (iterate 4 exact rfl); exact law11_Few c 12 _; intro w' hx)
    | ((show WL _ _ _ (⟨_, .call ⟨.value (.func 16), _, _⟩, _, _, _, _⟩ :: _) _ _ _); apply WL.callP; (iterate 4 exact rfl); exact law19_lives _; intro w' hx)
    | (show WL _ _ _ _ _ _ _; first | apply WL.nil | (refine WL.au (k := ?_)) | (apply WL.guardF; exact rfl; exact rfl))
    | (show Z _ _ _ _ _; first | apply Z.then_normal | apply Z.then_ret)
    | (show W _ _ _ _ _ _; first | apply W.seq | apply W.region | apply W.ret | (apply W.condT; exact rfl))
    | fail)
   exact Z.body1 Tryz.results4 rfl fun m => ⟨rfl, Ext.at extA m⟩
  ·refine Spec.of _ Tryz.func4 rfl Tryz.ntmps4 (by kernel_rfl) rfl ?_
   repeat' (first
    | (apply WL.box; (iterate 3 exact rfl); intro gb w' hb hge hc hx; have hcc := hc; ((obtain ⟨h1, h2, h3, _⟩ := hc)))
    | (apply WL.gF; exact rfl; exact rfl; (focus (first | (rw [dec_true q0]; rfl) | exact dec_false (by omega); done)))
    | (apply W.condKT; exact rfl; (focus (exact dec_true (by omega))))
    | ((show WL _ _ _ (⟨_, .call ⟨.value (.func 15), _, _⟩, _, _, _, _⟩ :: _) _ _ _); apply WL.callP; (iterate 4 exact rfl); exact law11_Few c 12 _; intro w' hx)
    | ((show WL _ _ _ (⟨_, .call ⟨.value (.func 16), _, _⟩, _, _, _, _⟩ :: _) _ _ _); apply WL.callP; (iterate 4 exact rfl); exact law19_lives _; intro w' hx)
    | (show WL _ _ _ _ _ _ _; first | apply WL.nil | (refine WL.au (k := ?_)))
    | (show Z _ _ _ _ _; first | apply Z.then_normal | apply Z.then_ret)
    | (show W _ _ _ _ _ _; first | apply W.seq | apply W.region | apply W.ret)
    | fail)
   exact Z.body1 Tryz.results4 rfl fun m => ⟨rfl, Ext.at extA m⟩
 obtain ⟨hfew, hmx, hl60⟩ := hf
 obtain ⟨hz, hz7⟩ := few_sz2 hfew (by decide)
 obtain ⟨q1, q2, q3, q4, q5, q6, _, _⟩ := few_iff.1 hfew
 have zi : (c.ins.2.2.length : Int) ≤ 12 := q1
 have zl : (c.lat.2.2.length : Int) ≤ 12 := q2
 have zg : (c.gates.2.2.length : Int) ≤ 12 := q3
 by_cases hg : GoodC' c.t
 rotate_left
 ·skip
  have hne : ¬ chkC c.t = 0 := fun h => hg (chkC_good.1 h)
  refine Spec.of _ Tryz.func4 rfl Tryz.ntmps4 (by kernel_rfl) rfl ?_
  repeat' (first
   | (apply WL.box; (iterate 3 exact rfl); intro gb w' hb hge hc hx; have hcc := hc; ((obtain ⟨h1, h2, h3, _⟩ := hc)))
   | (apply WL.gF; exact rfl; exact rfl; (focus (first | (rw [dec_true hfew]; rfl) | exact dec_false (by omega))))
   | (apply W.condKT; exact rfl; (focus (exact dec_true hne)))
   | (apply W.condKF; exact rfl; (focus (first | exact dec_false (by omega) | exact dec_false (fun h => h ((dec_true rfl).trans (dec_true hne).symm)); done)))
   | (apply WL.eqNil tOk; (iterate 6 exact rfl))
   | ((show WL _ _ _ (⟨_, .call ⟨.value (.func 15), _, _⟩, _, _, _, _⟩ :: _) _ _ _); apply WL.callP; (iterate 4 exact rfl); exact law11_Few c 12 _; intro w' hx)
   | ((show WL _ _ _ (⟨_, .call ⟨.value (.func 16), _, _⟩, _, _, _, _⟩ :: _) _ _ _); apply WL.callP; (iterate 4 exact rfl); exact law19_lives _; intro w' hx)
   | (((show WL _ _ _ (⟨_, .call ⟨.value (.func 9), _, _⟩, _, _, _, _⟩ :: _) _ _ _); apply WL.call; (iterate 4 exact rfl); exact law11_Own c _ (hC.ext extA) hz hz7; rintro v' w2 ⟨hx2, d, rfl, hdt, hOD⟩))
   | (((show WL _ _ _ (⟨_, .call ⟨.value (.func 17), _, _⟩, _, _, _, _⟩ :: _) _ _ _); apply WL.callP; (iterate 4 exact rfl); (have hne9 := un_NewE d free w2 hOD.at (by rw [hdt]; exact hz) (by rw [hdt]; exact hg); rw [hdt] at hne9; exact hne9); intro w3 hx3))
   | ((show WL _ _ _ (⟨_, .call ⟨.value (.func 18), _, _⟩, _, _, _, _⟩ :: _) _ _ _); apply WL.callP; (iterate 4 exact rfl); exact ref11_Check c _ (hC.ext extA) hz; intro w' hx)
   | (show WL _ _ _ _ _ _ _; first | apply WL.nil | (refine WL.au (k := ?_)))
   | (show Z _ _ _ _ _; first | apply Z.then_normal | apply Z.then_ret)
   | (show W _ _ _ _ _ _; first | apply W.seq | apply W.region | apply W.skip | apply W.ret)
   | fail)
  exact Z.body1 Tryz.results4 rfl fun m => ⟨rfl, Ext.at extA m⟩
 have hnl := net_len3 hg
 have zi' : c.t.ins.length ≤ 12 := by have : c.t.ins.length = c.ins.2.2.length := rfl; omega
 have zl' : c.t.lat.length ≤ 12 := by have : c.t.lat.length = c.lat.2.2.length := rfl; omega
 have zg' : c.t.gates.length ≤ 12 := by have : c.t.gates.length = c.gates.2.2.length := rfl; omega
 have hck : chkC c.t = 0 := chkC_good.2 hg
 refine Spec.of _ Tryz.func4 rfl Tryz.ntmps4 (by kernel_rfl) rfl ?_
 repeat' (first
  | (apply WL.box; (iterate 3 exact rfl); intro gb w' hb hge hc hx; have hcc := hc; ((obtain ⟨h1, h2, h3, _⟩ := hc)); (have hcells := hcc; obtain ⟨gc, rfl⟩ : ∃ x, x = gb := ⟨_, rfl⟩; obtain ⟨wc, rfl⟩ : ∃ x, x = w' := ⟨_, rfl⟩; obtain ⟨hxc, rfl⟩ : ∃ x, x = hx := ⟨_, rfl⟩))
  | (apply WL.gF; exact rfl; exact rfl; (focus (first | (rw [dec_true hfew]; rfl) | exact dec_false (show ¬ (0 : Int) ≠ 0 from fun h => h rfl) | exact dec_false (by omega))))
  | (apply W.condKF; exact rfl; (focus (first | exact dec_false (show ¬ (0 : Int) ≠ 0 from fun h => h rfl) | exact dec_false (by omega) | exact dec_false (fun h => h (dec_false (fun h => h rfl)).symm); done)))
  | (apply WL.eqNilS tOk; (iterate 6 exact rfl))
  | ((show WL _ _ _ (⟨_, .call ⟨.value (.func 15), _, _⟩, _, _, _, _⟩ :: _) _ _ _); apply WL.callP; (iterate 4 exact rfl); exact law11_Few c 12 _; intro w' hx; (obtain ⟨w1, rfl⟩ : ∃ x, x = w' := ⟨_, rfl⟩; obtain ⟨hx1, rfl⟩ : ∃ x, x = hx := ⟨_, rfl⟩))
  | (((show WL _ _ _ (⟨_, .call ⟨.value (.func 9), _, _⟩, _, _, _, _⟩ :: _) _ _ _); apply WL.call; (iterate 4 exact rfl); exact law11_Own c _ (hC.ext extA) hz hz7; rintro v' w2 ⟨hx2, d, rfl, hdt, hOD⟩))
  | (((show WL _ _ _ (⟨_, .call ⟨.value (.func 17), _, _⟩, _, _, _, _⟩ :: _) _ _ _); apply WL.call; (iterate 4 exact rfl); exact un_New d free w2 hOD.at (by rw [hdt]; exact hg) (by rw [hdt]; exact hz) (by rw [hdt]; exact hz7); rintro v' w3 ⟨w0, m, x0, hX0, rfl, hmt, hU0⟩; rw [hdt] at hmt hU0; have hXw3 : Ext w w3 := (hxc.trans (hx1.trans hx2)).trans (hX0.trans hU0.ext); have hcells3 := Cells.ext ((hx1.trans hx2).trans (hX0.trans hU0.ext)) hcells))
  | (((show WL _ _ _ (⟨_, .call ⟨.value (.func 18), _, _⟩, _, _, _, _⟩ :: _) _ _ _); apply WL.callP; (iterate 4 exact rfl); (have h9 := ref11_Check c _ (hC.ext hXw3) hz; rw [hck] at h9; exact h9); intro w4 hx4))
  | (((show WL _ _ _ (⟨_, .call ⟨.value (.func 19), _, _⟩, _, _, _, _⟩ :: _) _ _ _); apply WL.call; (iterate 4 exact rfl); exact ref19_New c free _ w0 _ (hU0.ext.trans extA) (hU0.sep.ext extA) (hC.ext (hXw3.trans extA)) hg hz hz7; rintro v' w5 ⟨mm, xx0, rfl, hmmt, hgF, hR0⟩))
  | (show WL _ _ _ _ _ _ _; first | apply WL.nil | (refine WL.au (k := ?_)))
  | (show Z _ _ _ _ _; apply Z.then_normal)
  | (show W _ _ _ _ _ _; first | apply W.seq | apply W.region | apply W.block | apply W.skip)
  | fail)
 have hJ0 : JAt w0 w5 m (newU c.t free) x0 mm (newU c.t free) xx0 [] := JAt.ofR hR0 hU0.kn
 have hgm : GoodC' m.d.t := by rw [hmt]; exact hg
 have hzm : SzC m.d.t 100000 := by rw [hmt]; exact hz
 have hzmm : SzC mm.d.t 100000 := by rw [hmmt]; exact hz
 have hmm2 : mm.d.t = m.d.t := by rw [hmmt, hmt]
 have hXw0 : Ext w w0 := (hxc.trans (hx1.trans hx2)).trans hX0
 obtain ⟨hok0, hN0⟩ := newU_ok hg free
 refine W.loopW L.length (fun k w' => k ≤ L.length ∧ ∃ u x xx, JAt w0 w' m u x mm u xx [] ∧ UOk c.t u ∧ u.N.length ≤ 100 + 100 * k ∧ u.own.length ≤ 5) (fun k => [(2, .slice la L.length cl), (3, .slice ab ins.length cb), (9, .pointer (some ⟨m.gf, 0, none⟩)), (11, .pointer (some ⟨mm.gF, 0, none⟩)), (12, .int .i64 k)]) ⟨Nat.zero_le _, _, x0, xx0, hJ0, hok0, by omega, Nat.zero_le _⟩ (fun k w' h => h.1) (by repeat' first | exact trivial | (refine And.intro ?_ ?_) | exact rfl) ?_
 rintro k wk ⟨hk, u, x, xx, hJ, hUo, hNk, hok⟩
 have hXk : Ext w wk := hXw0.trans hJ.ext
 by_cases hlt : k < L.length
 ·obtain ⟨a, ha⟩ := getI L hlt
  have RLk := RL.ext hXw0
  have hXJ : Ext w0 wk := hJ.ext
  have hone : ∀ w9, Ext wk w9 → Lt.Spec Tryz.prog 20 [.pointer (some ⟨m.gf, 0, none⟩), .pointer (some ⟨mm.gF, 0, none⟩), .agg (enc3 a).toArray] w9 (fun v w' => v = .bool true ∧ ∃ u' x' xx', JAt w0 w' m u' x' mm u' xx' [] ∧ AskN c.t u u') := fun w9 h9 => by
   have h1 := law19_one (hJ.up h9) hgF hmm2 hgm hzm (by rw [hmt]; exact hUo) (by omega) (by omega) a.1 a.2.1 a.2.2 (hL9 a (List.mem_of_getElem? ha))
   rw [hmt] at h1
   exact h1
  repeat' (first
   | (show W _ _ (.region 12 _ _) _ _ _; apply W.regionG (.fl true 0 (.fl true 1 (.fl true 2 (.fl true 3 (.fl true 4 (.fl false 5 (.br 6 (.fl true 7 (.fl true 8 (.fl true 9 (.fl true 11 (.fl true 12 (.fl true 13 (.br 10 (.br 14 (.fl true 15 (.fl true 16 (.fl true 17 .done))) .stop) (.br 14 (.fl true 15 (.br 10 (.fl true 16 (.fl true 17 .done)) .stop)) .stop)))))))) .stop))))))) [7, 8, 9, 10, 11, 12, 13, 14, 15, 16, 17] (Ext w0) tMix; kernel_rfl)
   | (apply W.condKT; exact rfl; (focus (exact dec_true (by omega))))
   | (apply W.condKF; exact rfl; (focus (exact dec_false (by omega); done)))
   | (apply FL.nilc; (iterate 3 exact rfl))
   | (((show WL _ _ _ (⟨_, .call ⟨.value (.func 20), _, _⟩, _, _, _, _⟩ :: _) _ _ _); apply WL.call; (iterate 4 exact rfl); exact hone _ extA; rintro v' w6 ⟨rfl, u6, x6, xx6, hJ6, hA6⟩; have hXJ6 : Ext w0 w6 := hJ6.ext; obtain ⟨l1, l2, l3⟩ := hJ6.r.lens; obtain ⟨c0, c1, c2, c4, c5, c9, c10, c11, c12, c13, c14⟩ := RC'.of hJ6.r.cells))
   | (((show WL _ _ _ (⟨_, .call ⟨.value (.func 21), _, _⟩, _, _, _, _⟩ :: _) _ _ _); apply WL.callS; (iterate 4 exact rfl); exact un_Len (hJ6.p.up extA)))
   | (show WL _ _ _ _ _ _ _; first | apply WL.nil | (refine WL.au (k := ?_)))
   | (show SG _ _ _ _ _ _ _ _ _; first | apply SG.done | (apply SG.fl0; exact rfl) | (apply SG.fl1; exact rfl; (focus ((intro m; first | assumption | (apply Ext.at; (exact extA)) | apply But.of_at; first | exact But.upd (by assumption) | exact But.ext extA | (refine But.trans ?_ (But.upd (by assumption)); exact But.ext extA) | exact But.at _ _ _); done))) | (apply SG.br1; exact rfl) | (apply SG.br; exact rfl))
   | (show FL _ _ _ _ _ _ _ _; first | (apply FL.loadAE tOk; (iterate 5 exact rfl); assumption; exact rfl) | (apply FL.indexE tOk; (iterate 8 exact rfl); assumption; exact rfl; omega; assumption; intro b off h; have hcc := h; first | (obtain ⟨h1, h2, h3, h4, h5, h6, _⟩ := h) | (obtain ⟨h1, h2, h3, _⟩ := h) | (obtain ⟨h1, h2, _⟩ := h) | (obtain ⟨h1, _⟩ := h)))
   | (show FL _ _ _ _ _ _ _ _; first | apply FL.nilS | (refine FL.au (k := ?_)))
   | (show Z _ _ _ _ _; first | (apply Z.sgL; exact rfl) | (apply Z.sgE; (focus ((intro m; first | assumption | (apply Ext.at; (exact extA)) | apply But.of_at; first | exact But.upd (by assumption) | exact But.ext extA | (refine But.trans ?_ (But.upd (by assumption)); exact But.ext extA) | exact But.at _ _ _); done))))
   | (show Z _ _ _ _ _; first | apply Z.then_normal | apply Z.block_normal)
   | (show W _ _ _ _ _ _; first | apply W.seq | apply W.region | apply W.block | apply W.skip)
   | fail)
  all_goals exact Z.againW ⟨by omega, u6, x6, xx6, hJ6.up extA, hA6.ok, by have := hA6.n; omega, by have := hA6.o; omega⟩ (by repeat' first | exact trivial | (refine And.intro ?_ ?_) | exact rfl)
 obtain rfl : k = L.length := by omega
 obtain ⟨l1, l2, l3⟩ := hJ.r.lens
 have RNr : Row 2 encN wk xx.a u.N := (hJ.r.sep.row (i := 1) (a := xx.a) (cap := xx.cap) (l := u.N) (s := 2) (enc := encN) rfl).row encN_ok
 obtain ⟨s0, _⟩ := cells_heap (hJ.r.sep.cell (i := 0) (gb := mm.gs) rfl)
 obtain ⟨c0, c1, c2, c4, c5, c9, c10, c11, c12, c13, c14⟩ := RC'.of hJ.r.cells
 repeat' (first
  | (show W _ _ (.region 14 _ _) _ _ _; apply W.regionGX (.fl true 0 (.fl true 2 (.fl true 3 (.fl true 4 (.fl false 5 (.fl true 6 (.fl true 7 (.fl false 8 (.br 1 (.br 9 (.fl true 10 .done) .stop) .stop))))))))) [1, 7, 8, 9, 10] tMix; kernel_rfl)
  | (apply W.condKF; exact rfl; (focus (exact dec_false (by omega); done)))
  | (apply FL.nilc; (iterate 3 exact rfl))
  | (((show WL _ _ _ (⟨_, .call ⟨.value (.func 23), _, _⟩, _, _, _, _⟩ :: _) _ _ _); apply WL.call; (iterate 4 exact rfl); exact un_Net (hJ.p.up extA) (by omega); rintro v' w6 ⟨hx6, aN, cN, rfl, hON⟩))
  | (((show WL _ _ _ (⟨_, .call ⟨.value (.func 22), _, _⟩, _, _, _, _⟩ :: _) _ _ _); apply WL.callS; (iterate 4 exact rfl); exact ref07_Same aN xx.a cN xx.cap u.N _ ((hON.row encN_ok).ext extA) (RNr.ext extA)))
  | (show SX _ _ _ _ _ _ _ _ _; first | (apply SX.done; intro w' hx) | (apply SX.fl0; exact rfl) | (apply SX.fl1; exact rfl; (exact extA)) | (apply SX.br1; exact rfl; intro w' hx))
  | (show FL _ _ _ _ _ _ _ _; first | apply FL.nilX | (apply FL.loadE tOk; (iterate 5 exact rfl); (assumption)))
  | (show FL _ _ _ _ _ _ _ _; (refine FL.au (k := ?_)))
  | (show Z _ _ _ _ _; (apply Z.sxE; (exact extA)))
  | (show WL _ _ _ _ _ _ _; first | apply WL.nil | (refine WL.au (k := ?_)))
  | (show Z _ _ _ _ _; first | apply Z.then_normal | apply Z.then_exit | apply Z.block_exit)
  | (show W _ _ _ _ _ _; first | apply W.seq | apply W.region | apply W.block | apply W.skip | apply W.exit | (apply W.condF; exact rfl))
  | fail)
 all_goals
  have e0 : (-1 : Int) = ((0 : Nat) : Int) - 1 := rfl
  have hRu : UOk m.d.t u := by rw [hmt]; exact hUo
  have hRm : UOk mm.d.t u := by rw [hmmt]; exact hUo
  have hrun1 : ∀ (k : Int) w9, Ext wk w9 → Lt.Spec Tryz.prog 24 [.pointer (some ⟨m.gf, 0, none⟩), .slice ab ins.length cb, .int .i64 k] w9 (IsRunV w9 (runU u ins k)) := fun k w9 h9 => by
   by_cases hkr : 0 ≤ k ∧ k < (u.own.length : Int)
   ·exact un_Run (hJ.p.up h9) hzm hRu (by omega) (by omega) ab cb ins k (Rb.ext (hXk.trans h9)) hcb hi hkr
   ·exact un_RunN (hJ.p.up h9) _ ins k hkr
  have hrun2 : ∀ (k : Int) w9, Ext wk w9 → Lt.Spec Tryz.prog 25 [.pointer (some ⟨mm.gF, 0, none⟩), .slice ab ins.length cb, .int .i64 k] w9 (IsRunV w9 (runU u ins k)) := fun k w9 h9 => by
   by_cases hkr : 0 ≤ k ∧ k < (u.own.length : Int)
   ·exact r19_Run (hJ.r.up h9) hzmm hRm (by omega) (by omega) ab cb ins k (Rb.ext (hXk.trans h9)) hi hkr
   ·exact r19_RunN (hJ.r.up h9) _ ins k hkr
  refine W.loopW (u.own.length + 2) (fun j w' => j ≤ u.own.length + 2 ∧ Ext wk w') (fun j => [(3, .slice ab ins.length cb), (9, .pointer (some ⟨m.gf, 0, none⟩)), (11, .pointer (some ⟨mm.gF, 0, none⟩)), (13, .int .i64 ((j : Int) - 1))]) ⟨Nat.zero_le _, extA⟩ (fun k w' h => h.1) (by repeat' first | exact trivial | (refine And.intro ?_ ?_) | exact rfl | (rw [e0]; exact rfl)) ?_
  rintro j wj ⟨hj, hXj⟩
  have c11j := hXj.cell c11
  by_cases hjl : j < u.own.length + 2
  ·have es : (j : Int) - 1 + 1 = ((j + 1 : Nat) : Int) - 1 := by omega
   repeat' (first
    | (apply W.condKT; exact rfl; (focus (exact dec_true (by omega))))
    | (apply WL.build tOk; (iterate 7 exact rfl); kernel_rfl)
    | (apply WL.nilc; (iterate 3 exact rfl))
    | (((show WL _ _ _ (⟨_, .call ⟨.value (.func 24), _, _⟩, _, _, _, _⟩ :: _) _ _ _); apply WL.call; (iterate 4 exact rfl); exact hrun1 _ _ hXj; rintro v' w7 ⟨hx7, r, rfl, hR7, hr1, hr2⟩))
    | (((show WL _ _ _ (⟨_, .call ⟨.value (.func 25), _, _⟩, _, _, _, _⟩ :: _) _ _ _); apply WL.call; (iterate 4 exact rfl); exact hrun2 _ _ (hXj.trans hx7); rintro v' w8 ⟨hx8, r8, rfl, hR8, hs1, hs2⟩))
    | (((show WL _ _ _ (⟨_, .call ⟨.value (.func 10), _, _⟩, _, _, _, _⟩ :: _) _ _ _); apply WL.callP; (iterate 4 exact rfl); (have h9 := ref18_Same r r8 w8 (hR7.ext hx8) hR8; rw [dec_true (show r.s = r8.s ∧ r.i = r8.i from ⟨hr1.trans hs1.symm, hr2.trans hs2.symm⟩)] at h9; exact h9); intro w9 hx9))
    | (show WL _ _ _ _ _ _ _; first | apply WL.nil | (refine WL.au (k := ?_)))
    | (show Z _ _ _ _ _; first | apply Z.then_normal | apply Z.block_normal)
    | (show W _ _ _ _ _ _; first | apply W.seq | apply W.region | apply W.block | apply W.skip | (apply W.condF; exact rfl))
    | fail)
   exact Z.againW ⟨by omega, hXj.trans extA⟩ (by repeat' first | exact trivial | (refine And.intro ?_ ?_) | exact rfl | (rw [es]; exact rfl))
  repeat' (first
   | (apply W.condKF; exact rfl; (focus (exact dec_false (by omega); done)))
   | (apply WL.nilc; (iterate 3 exact rfl))
   | ((show WL _ _ _ (⟨_, .call ⟨.value (.func 16), _, _⟩, _, _, _, _⟩ :: _) _ _ _); apply WL.callP; (iterate 4 exact rfl); exact law19_lives _; intro w' hx)
   | (show WL _ _ _ _ _ _ _; first | apply WL.nil | (refine WL.au (k := ?_)))
   | (show Z _ _ _ _ _; first | apply Z.then_normal | apply Z.then_exit | apply Z.block_exit)
   | (show W _ _ _ _ _ _; first | apply W.seq | apply W.region | apply W.ret | apply W.exit)
   | fail)
  exact Z.body1 Tryz.results4 rfl fun q => ⟨rfl, Ext.at ((hXk.trans hXj).trans extA) q⟩
end Go.Proofs.YteidpnpbfagaeaaGreat
namespace Go.Proofs.YteidpnpbfagaeaaGreat
open Go Go.Lt Go.RowKit Go.ChangeShapes Go.WideShapes Go.ChangeAt Go.Deep
set_option linter.unusedVariables false
set_option linter.unusedSimpArgs false
set_option maxRecDepth 20000

set_option maxRecDepth 20000 in
theorem circ_of {H : Type} {en : TypeId × Value → H} {w : World} {base : Nat} {spare : Nat → Bool} {held : Bool} {r : Reach} {b0 : Nat} {v : Value} {d : DataW H} {ps : List MemPlace} (hval : Value.okWide Tryz.prog w r b0 27 v) (hd : DataW.Trod en Tryz.prog w base spare held 27 v d ps) : ∃ c : Circ, v = c.val ∧ CAt w c := by
 obtain ⟨⟨m, ins, lat, outs, bads, cons, gates, syms, com, _⟩, hv, _, ki, kl, ko, kb, kc, kg, ks, _⟩ := struct_of (reads_struct Tryz.underlying27 (by kernel_rfl) (by kernel_rfl) (readsF_cons (reads_int Tryz.underlying3) (readsF_cons (reads_row (s := 1) (reads_int Tryz.underlying3) (by kernel_rfl) Tryz.underlying22 (fun _ => rfl) (by decide)) (readsF_cons (reads_row (s := 3) (reads_triple' (s0 := 1) (s1 := 1) (s2 := 1) Tryz.underlying69 (reads_int Tryz.underlying3) (reads_int Tryz.underlying3) (reads_int Tryz.underlying3) (by kernel_rfl) rfl rfl rfl (by kernel_rfl) (by kernel_rfl) (by kernel_rfl)) (by kernel_rfl) Tryz.underlying23 (fun _ => rfl) (by decide)) (readsF_cons (reads_row (s := 1) (reads_int Tryz.underlying3) (by kernel_rfl) Tryz.underlying22 (fun _ => rfl) (by decide)) (readsF_cons (reads_row (s := 1) (reads_int Tryz.underlying3) (by kernel_rfl) Tryz.underlying22 (fun _ => rfl) (by decide)) (readsF_cons (reads_row (s := 1) (reads_int Tryz.underlying3) (by kernel_rfl) Tryz.underlying22 (fun _ => rfl) (by decide)) (readsF_cons (reads_row (s := 3) (reads_triple' (s0 := 1) (s1 := 1) (s2 := 1) Tryz.underlying86 (reads_int Tryz.underlying3) (reads_int Tryz.underlying3) (reads_int Tryz.underlying3) (by kernel_rfl) rfl rfl rfl (by kernel_rfl) (by kernel_rfl) (by kernel_rfl)) (by kernel_rfl) Tryz.underlying24 (fun _ => rfl) (by decide)) (readsF_cons (reads_row (s := 3) (reads_triple' (s0 := 1) (s1 := 1) (s2 := 1) Tryz.underlying119 (reads_int Tryz.underlying5) (reads_int Tryz.underlying3) (reads_string Tryz.underlying9) (by kernel_rfl) rfl rfl rfl (by kernel_rfl) (by kernel_rfl) (by kernel_rfl)) (by kernel_rfl) Tryz.underlying25 (fun _ => rfl) (by decide)) (readsF_cons (reads_string Tryz.underlying9) (readsF_nil _))))))))))) Tryz.underlying27 hval hd
 exact ⟨⟨m, ins, lat, outs, bads, cons, gates, syms, com⟩, hv, ⟨ki.1, ki.2.1, ki.2.2.2.1⟩, ⟨kl.1, kl.2.1, kl.2.2.2.1⟩, ⟨ko.1, ko.2.1, ko.2.2.2.1⟩, ⟨kb.1, kb.2.1, kb.2.2.2.1⟩, ⟨kc.1, kc.2.1, kc.2.2.2.1⟩, ⟨kg.1, kg.2.1, kg.2.2.2.1⟩, ⟨ks.1, ks.2.1, ks.2.2.2.1⟩⟩
end Go.Proofs.YteidpnpbfagaeaaGreat
namespace Go.Proofs.YteidpnpbfagaeaaGreat
open Go Go.Lt Go.ChangeShapes Go.WideShapes Go.ChangeAt Go.RowKit
set_option linter.unusedVariables false
set_option linter.unusedSimpArgs false
set_option maxRecDepth 20000
open Go.ChangeMaps (open_string shut_string)
namespace unrollPlays
theorem own : ownKnob Tryz.prog.godebug = none := by kernel_rfl
theorem laidOut : laidOutB Tryz.prog = true := factLaid
theorem one_le {H : Type} (d : DataW H) : 1 ≤ Rows.uptoBulk d := by
 cases d with
 | lit l => cases l <;> simp [Rows.uptoBulk]
 | nil => simp [Rows.uptoBulk]
 | ptr d => simp [Rows.uptoBulk]
 | slice elems spare => simp [Rows.uptoBulk]
 | agg parts => simp [Rows.uptoBulk]
 | iface t d => simp [Rows.uptoBulk]
 | map entries => simp [Rows.uptoBulk]
 | held h => simp [Rows.uptoBulk]
theorem length_le {H : Type} (l : List (DataW H)) : l.length ≤ Rows.uptoBulkAll l := by
 induction l with
 | nil => simp [Rows.uptoBulkAll]
 | cons x r ih => have := one_le x; simp only [Rows.uptoBulkAll, List.length_cons]; omega
theorem bulk_slice {H : Type} {P : Program} {en : TypeId × Value → H} {w : World} {base : Nat} {spare : Nat → Bool} {held : Bool} {t e : TypeId} {d : DataW H} {ps : List MemPlace} {a : Option Addr} {n cap : Nat} (ht : P.underlying t = some (.slice e)) (hd : DataW.Trod en P w base spare held t (.slice a n cap) d ps) : n ≤ Rows.uptoBulk d := by
 obtain ⟨fuel, hf⟩ := hd
 rcases Go.Deep.open_slice ht hf with ⟨hcs, hx⟩ | ⟨a0, len0, cap0, q0, q, D, Pl, hcs, _, hl, hm, hmm, hx, _⟩
 ·simp only [Value.cells, List.cons.injEq, Value.slice.injEq, and_true] at hcs
  rw [hcs.2.1]; omega
 ·simp only [Value.cells, List.cons.injEq, Value.slice.injEq, and_true] at hcs
  simp only [Prod.mk.injEq] at hx
  rw [hx.1, hcs.2.1]
  have h3 := length_le ((List.range len0).map D)
  simp only [List.length_map, List.length_range] at h3
  simp only [Rows.uptoBulk]
  omega
set_option maxRecDepth 100000 in
theorem contract (H : Type) (enc : TypeId × Value → H) (W : World) (base : Nat) (args : Array Value) (ds gs : List (DataW H)) (before : List MemPlace)
  (hval0 : ∀ (j : Nat) t v, Tryz.f4.params[j]? = some t → args[j]? = some v → Value.okWide Tryz.prog W .any base t v)
  (hW : DataW.Whole enc Tryz.prog Tryz.f4.params.toList Rows.unrollPlaysSpec.vars false W args.toList ds gs before) (hk : Rows.uptoSmall H (ds ++ gs) = true) :
  Calls Tryz.prog 4 args W fun e W' => ∃ v, e = .returned v ∧ Rows.unrollPlaysSpec.post enc Tryz.prog Tryz.f4 false true false false W args v W' := by
 have hval : ∀ (j : Nat) t v, Tryz.f4.params[j]? = some t → args[j]? = some v → Value.okWide Tryz.prog W .any base t v := hval0
 have hW' := hW
 obtain ⟨p, q, hA0, hV, rfl, hfz, hnd⟩ := hW
 have hA : DataW.TrodAll enc Tryz.prog W 0 (fun _ => true) true Tryz.f4.params.toList args.toList ds p := hA0
 rw [Tryz.params4] at hA hval
 obtain ⟨v0, vs0, d0, ds0, p0, q0, hargs, rfl, rfl, h0, r0⟩ := trodAll_cons hA
 obtain ⟨v1, vs1, d1, ds1, p1, q1, rfl, rfl, rfl, h1, r1⟩ := trodAll_cons r0
 obtain ⟨v2, vs2, d2, ds2, p2, q2, rfl, rfl, rfl, h2, r2⟩ := trodAll_cons r1
 obtain ⟨v3, vs3, d3, ds3, p3, q3, rfl, rfl, rfl, h3, r3⟩ := trodAll_cons r2
 obtain ⟨rfl, rfl, rfl⟩ := trodAll_nil r3
 obtain rfl : args = #[v0, v1, v2, v3] := by cases args; simp_all
 obtain ⟨rfl, rfl⟩ := trodVars_none hV
 have k0 := h0
 have lt0 : ∀ x ∈ p0, x.block < W.heap.size := by obtain ⟨m, hm⟩ := k0; exact DataW.trod_lt m _ _ _ hm
 have k1 := h1
 have lt1 : ∀ x ∈ p1, x.block < W.heap.size := by obtain ⟨m, hm⟩ := k1; exact DataW.trod_lt m _ _ _ hm
 have k2 := h2
 have lt2 : ∀ x ∈ p2, x.block < W.heap.size := by obtain ⟨m, hm⟩ := k2; exact DataW.trod_lt m _ _ _ hm
 have k3 := h3
 have lt3 : ∀ x ∈ p3, x.block < W.heap.size := by obtain ⟨m, hm⟩ := k3; exact DataW.trod_lt m _ _ _ hm
 obtain ⟨c0, rfl, hC0⟩ := circ_of (hval 0 27 v0 rfl rfl) h0
 obtain ⟨b1, rfl, rfl, rfl⟩ := open_bool Tryz.underlying4 (hval 1 4 v1 rfl rfl) h1
 obtain ⟨a2, l2, cap2, rfl, hl2, hm2, hna2, R2, w2⟩ := row_of (s := 3) (reads_triple' (s0 := 1) (s1 := 1) (s2 := 1) Tryz.underlying55 (reads_int Tryz.underlying3) (reads_int Tryz.underlying3) (reads_int Tryz.underlying3) (by kernel_rfl) rfl rfl rfl (by kernel_rfl) (by kernel_rfl) (by kernel_rfl)) (by kernel_rfl) Tryz.underlying45 (fun _ => rfl) (by decide) (hval 2 45 v2 rfl rfl) h2
 obtain ⟨a3, l3, cap3, rfl, hl3, hm3, hna3, R3, w3⟩ := row_of (s := 1) (reads_bool Tryz.underlying4) (by kernel_rfl) Tryz.underlying28 (fun _ => rfl) (by decide) (hval 3 28 v3 rfl rfl) h3
 have hk9 : Rows.uptoBulkAll _ ≤ 1048576 := of_decide_eq_true hk
 simp only [Rows.uptoBulkAll, List.cons_append, List.nil_append, List.append_nil] at hk9
 have hb2 : l2.length ≤ 1048576 := by have h9 := bulk_slice Tryz.underlying45 k2; omega
 have hb3 : l3.length ≤ 1048576 := by have h9 := bulk_slice Tryz.underlying28 k3; omega
 clear hA0 hval0
 refine (Spec.law (law_UnrollPlays c0 b1 a2 a3 cap2 cap3 l2 l3 W hC0 R2 (fun a ha => by have h9 := (w2 a ha).2.2; simp [Lit.wf, IntKind.min, IntKind.max, IntKind.signed, IntKind.bits] at h9; omega) R3 hl3 hb3)).mono fun e W' ⟨he, bel⟩ => ?_
 subst he
 exact ⟨_, rfl, _, _, _, [], _, [], hW', trodAll_mk1 (shut_bool Tryz.underlying4 _), (trodAll_cons_mk (Below.trod laidOut (by kernel_rfl) (of_decide_eq_true (by kernel_rfl)) k0 bel lt0) (trodAll_cons_mk (Below.trod laidOut (by kernel_rfl) (of_decide_eq_true (by kernel_rfl)) k1 bel lt1) (trodAll_cons_mk (Below.trod laidOut (by kernel_rfl) (of_decide_eq_true (by kernel_rfl)) k2 bel lt2) (trodAll_cons_mk (Below.trod laidOut (by kernel_rfl) (of_decide_eq_true (by kernel_rfl)) k3 bel lt3) trodAll_mk0)))), rfl, bel.frame _, fun h => by cases h⟩
set_option maxRecDepth 100000 in
theorem lifted (os : Os) (started : os.Started) (H : Type) (enc : TypeId × Value → H) (F : Stop.Interp) :
  ReturnsInHanded {} Tryz.checked os 4 .any ((Rows.OpenSpec.upto Rows.unrollPlaysSpec).pre6 enc Tryz.prog Tryz.f4 Rows.unrollPlaysUptoRow.domain false) (((Rows.OpenSpec.upto Rows.unrollPlaysSpec).at F).post enc Tryz.prog Tryz.f4 false true false false) := by
 refine returnsInHanded_of_cond (C := Tryz.checked) (s := Rows.OpenSpec.upto Rows.unrollPlaysSpec) (k := Rows.uptoSmall) rfl own started (by kernel_rfl) Tryz.func4
  (OpenSpec.witness (enc := enc) (C := Tryz.checked) (s := Rows.OpenSpec.upto Rows.unrollPlaysSpec) (k := Rows.uptoSmall) rfl false ⟨#[], #[.agg #[.int .i64 0, .slice none 0 0, .slice none 0 0, .slice none 0 0, .slice none 0 0, .slice none 0 0, .slice none 0 0, .slice none 0 0, .string ⟨#[]⟩], .bool false, .slice none 0 0, .slice none 0 0], []⟩ 8 (by kernel_rfl) (by kernel_rfl) (by kernel_rfl)
   (x := ([.agg [.lit (.int .i64 0), .nil, .nil, .nil, .nil, .nil, .nil, .nil, .lit (.string [])], .lit (.bool false), .nil, .nil], [], [])) (by kernel_rfl) rfl (by kernel_rfl)) ?_
 intro W base args ds gs before hval hW _ hk _
 exact contract H enc W base args ds gs before hval hW hk
theorem j0 : (Rows.unrollPlaysUptoRow.wf (OpenSpec.ofChange Rows.unrollPlaysSpec)) = true := by kernel_rfl
theorem j3 : (Tryz.f4.params.all (Tryz.prog.readableRec ·)) = true := by kernel_rfl
theorem j4 : (namedTie Tryz.prog Rows.unrollPlaysUptoRow.named Rows.unrollPlaysSpec.vars) = true := by kernel_rfl
theorem j5 : ((Rows.unrollPlaysUptoRow.stops == [])) = true := by kernel_rfl
theorem j7 : ((Rows.unrollPlaysUptoRow.knobs == [])) = true := by kernel_rfl
theorem j9 : ((Rows.unrollPlaysUptoRow.inPlace == Tryz.prog.inPlace 4)) = true := by kernel_rfl
theorem j10 : ((Rows.unrollPlaysUptoRow.unfollowed == Tryz.prog.unfollowed 4)) = true := by kernel_rfl
theorem j11 : ((Rows.unrollPlaysUptoRow.recurses == Tryz.prog.recurses 4)) = true := by kernel_rfl
theorem j12 : ((Rows.unrollPlaysUptoRow.named == Tryz.prog.varsNamed 4)) = true := by kernel_rfl
theorem j13 : ((Rows.unrollPlaysUptoRow.maps == (Tryz.f4.params.toList ++ Rows.unrollPlaysSpec.plain.varTypes Tryz.prog).any (Tryz.prog.mapsRec ·))) = true := by kernel_rfl
theorem j14 : ((Rows.unrollPlaysUptoRow.ifaces == (Tryz.f4.params.toList ++ Rows.unrollPlaysSpec.plain.varTypes Tryz.prog).any (Tryz.prog.ifacesRec ·))) = true := by kernel_rfl
theorem j15 : ((Rows.unrollPlaysUptoRow.mapsOut == Tryz.prog.mapsAmong Tryz.f4.resultTypes.toList)) = true := by kernel_rfl
theorem j16 : ((Rows.unrollPlaysUptoRow.loops == (Tryz.f4.params.toList ++ Rows.unrollPlaysSpec.plain.varTypes Tryz.prog).any (Tryz.prog.loopsFrom ·))) = true := by kernel_rfl
theorem j17 : ((Rows.unrollPlaysUptoRow.wideKeys == (Tryz.f4.params.toList ++ Rows.unrollPlaysSpec.plain.varTypes Tryz.prog ++ Tryz.f4.resultTypes.toList).any (Tryz.prog.wideKeysFrom ·))) = true := by kernel_rfl
theorem j18 : (Rows.unrollPlaysSpec.vars.all (Tryz.prog.varReadable ·)) = true := by kernel_rfl
theorem j19 : (Tryz.f4.resultTypes.all (fun t => Tryz.prog.readableRec t && decide (t < Tryz.prog.types.size))) = true := by kernel_rfl
theorem j20 : ((Rows.unrollPlaysUptoRow.ifacesOut == Tryz.f4.resultTypes.toList.any (Tryz.prog.ifacesRec ·))) = true := by kernel_rfl
theorem j21 : ((Rows.unrollPlaysUptoRow.loopsOut == Tryz.f4.resultTypes.toList.any (Tryz.prog.loopsFrom ·))) = true := by kernel_rfl
theorem j22 : ((Rows.unrollPlaysUptoRow.plainKeys == Tryz.prog.plainKeys)) = true := by rw [show Rows.unrollPlaysUptoRow.plainKeys = Rows.coiExtendsRow.plainKeys by kernel_rfl]; exact factKeys
theorem j23 : (Rows.unrollPlaysUptoRow.shortTexts.isNone) = true := by kernel_rfl
theorem j26 : ((Rows.unrollPlaysUptoRow.lifted == Tryz.prog.liftsFinal)) = true := by rw [show Rows.unrollPlaysUptoRow.lifted = Rows.coiExtendsRow.lifted by kernel_rfl]; exact factLifts
theorem j27 : ((Tryz.prog.make == some Rows.unrollPlaysUptoRow.make)) = true := by rw [show Rows.unrollPlaysUptoRow.make = Rows.coiExtendsRow.make by kernel_rfl]; exact factMake
theorem j28 : ((Rows.unrollPlaysUptoRow.kinds == (if Rows.unrollPlaysUptoRow.domain.isEmpty then [] else Tryz.f4.params.toList.map fun t => match Tryz.prog.underlying t with | some (.int k) => some k | _ => none))) = true := by kernel_rfl
theorem j29 : ((Rows.unrollPlaysUptoRow.pinned == Rows.unrollPlaysUptoRow.pinnedBy)) = true := by kernel_rfl
theorem j30 : ((Rows.unrollPlaysUptoRow.veiled == (Tryz.f4.params.toList ++ Rows.unrollPlaysSpec.plain.varTypes Tryz.prog ++ Tryz.f4.resultTypes.toList).any (Tryz.prog.veiledRec ·))) = true := by kernel_rfl
theorem j31 : (Rows.unrollPlaysUptoRow.veiledFits Tryz.prog Tryz.f4.params.toList (Tryz.f4.params.toList ++ Rows.unrollPlaysSpec.plain.varTypes Tryz.prog ++ Tryz.f4.resultTypes.toList)) = true := by kernel_rfl
set_option maxRecDepth 100000 in
theorem closed : joinedFacts Tryz.checked.prog 4 Tryz.f4 Rows.unrollPlaysSpec Rows.unrollPlaysUptoRow = true := by unfold joinedFacts; exact (band (band (band (band (band (band (band (band (band (band (band (band (band (band (band (band (band (band (band (band (band (band (band (band (band (band (band (band (band (band (band j0 factLaid) factMaps) j3) j4) j5) factStops) j7) factKnobs) j9) j10) j11) j12) j13) j14) j15) j16) j17) j18) j19) j20) j21) j22) j23) factHeard) factEnter) j26) j27) j28) j29) j30) j31)
theorem named : Tryz.checked.prog.funcNamed Rows.unrollPlaysUptoRow.func = some 4 := by kernel_rfl
theorem over : Rows.unrollPlaysUptoRow.holds Tryz.pinned (Rows.OpenSpec.upto Rows.unrollPlaysSpec) :=
 OpenClaim.holds_of_cond 4 Tryz.f4 rfl rfl rfl rfl rfl rfl rfl ⟨rfl, rfl, rfl, rfl, rfl⟩ rfl rfl rfl rfl rfl named Tryz.func4 closed
  (of_decide_eq_true (by kernel_rfl)) (by unfold Func.isWrapper; first | (rw [if_pos (by decide +kernel)]; kernel_rfl) | (rw [if_neg (by decide +kernel)]; exact ⟨rfl, rfl⟩))
  (fun os started H enc _ F => lifted os started H enc F)
theorem proved : Rows.UnrollPlaysUptoSaid := over
end unrollPlays
end Go.Proofs.YteidpnpbfagaeaaGreat
