/- CoiMeans: a property breaks in what is reduced of any circuit at just the step at which it does in the circuit, and stuck latches are what they are in all runs. No conditions. -/
import Derived.Test.YteidpnpbfagaeaaRows
import Derived.Lib.SmallJoins
import Derived.KernelRfl
import Derived.WalkKit
import Derived.ProofKit
import Derived.Deep.Quiet
import Derived.Deep.LoopGhost
import Derived.StillTail
import Derived.Test.YteidpnpbfagaeaaProg
import Derived.OpenShut
import Derived.ShutString
import Derived.ChangeOld
import Derived.Deep.Slices
import Derived.SizedLaws
import Derived.Laws.StructEq
import Derived.Laws.Externs
import Derived.MapKept
import Derived.Laws.CopyRow
import Derived.Laws.IdiomCopy
import Derived.Test.YteidpnpbfagaeaaCoiMeansP5
set_option linter.unusedVariables false
set_option linter.unusedSimpArgs false
set_option maxRecDepth 20000
set_option maxHeartbeats 32000000
namespace Go.Proofs.Yteidpnpbfagaeaa
open Go Go.Lt Go.RowKit

open Classical in
noncomputable def putK (ks : List Int) (a : Int) : List Int := if a ∈ ks then ks else ks ++ [a]
theorem putK_mem (ks : List Int) (a p : Int) : p ∈ putK ks a ↔ p ∈ ks ∨ p = a := by
 unfold putK
 split
 ·rename_i h
  exact ⟨.inl, fun hh => hh.elim id fun e => by rw [e]; exact h⟩
 ·rw [List.mem_append, List.mem_singleton]
theorem mset_keys : ∀ (ks : List Int) (a : Int), mset a true (keysL true ks) = keysL true ks
 | [], _ => rfl
 | k :: ks, a => by
  show (bif dec (a = k) then (k, true) :: keysL true ks else (k, true) :: mset a true (keysL true ks)) = _
  rw [mset_keys ks a]
  cases dec (a = k) <;> rfl
theorem mget_inC {ks : List Int} {a : Int} (h : a ∈ ks) : mget a (keysL true ks) = some true := by rw [mget_keys, dTt h]; rfl
theorem mget_noC {ks : List Int} {a : Int} (h : a ∉ ks) : mget a (keysL true ks) = none := by rw [mget_keys, dFf h]; rfl
theorem putK_old {ks : List Int} {a : Int} (h : a ∈ ks) : putK ks a = ks := by unfold putK; rw [if_pos h]
theorem putK_new {ks : List Int} {a : Int} (h : a ∉ ks) : putK ks a = ks ++ [a] := by unfold putK; rw [if_neg h]
theorem coi_Needs (c : Circ) (prop : Int) (w : World) (hC : CAt w c) (hg : GoodC' c.t) (hz : SzC c.t 100000) :
  Lt.Spec Try.prog 73 [c.val, .int .i64 prop] w (IsFresh2 1 encI 3 1 encI 3 w (laV c.t prop) (inV c.t prop)) := by
 have z1 : c.ins.2.2.length <= 100000 := hz.1
 have z2 : c.lat.2.2.length <= 100000 := hz.2.1
 have hnl := net_len hg hz
 have hsl : (skV c.t).length = c.lat.2.2.length := stuck_len
 have efr := free_out c.t
 refine Spec.of _ Try.func73 rfl Try.ntmps73 (by kernel_rfl) rfl ?_
 repeat' (first | (apply WL.box; (iterate 3 exact rfl); intro gc wc hb hge hc hxc; have hcc := hc; obtain ⟨h1, h2, h3, _⟩ := hc; (have hcells := hcc)) | (apply WL.call (f := 29); (iterate 4 exact rfl); exact coi_Stuck c _ (hC.ext extA) hg hz; rintro v' w1 ⟨hx1, aS, cS, rfl, hOS⟩) | (show WL _ _ _ (⟨some 6, .alloc _, _, _, _, _⟩ :: _) _ _ _; apply WL.alloc tOk; (iterate 3 exact rfl); intro g6 w2 hb6 hge6 hx2) | (show WL _ _ _ (⟨none, .store _ (.tmp 6) _, _, _, _, _⟩ :: _) _ _ _; apply WL.storeB (w0 := w1) tOk; (iterate 4 exact rfl); exact hb6; exact Ext.refl _; kernel_rfl; kernel_rfl; kernel_rfl; exact hx2; exact hge6; intro w3 hb3 hc3 hX3 hU3; obtain ⟨k6, _⟩ := id hc3; have hX13 : Ext w1 w3 := hX3; have hXc3 : Ext wc w3 := hx1.trans hX13; have RS := (hOS.row eIk).ext hX13; obtain ⟨y0, y1, y2, y3, y4, y5, y6, y7, y8, _⟩ := Cells.ext hXc3 hcells) | (apply WL.call (f := 123); (iterate 4 exact rfl); exact coi_upTo c.lat.2.2.length _ z2; rintro v' w4 ⟨hx4, aU, cU, rfl, hOU⟩) | (apply WL.call (f := 122); (iterate 4 exact rfl); exact slices_DeleteFunc aU cU (allI c.lat.2.2.length) 124 [.pointer (some ⟨g6, 0, none⟩)] (outQ (skV c.t)) w4 w3 hOU hx4 (by rw [allI_len]; omega) (fun w' h9 x hx => coi_Needs1 g6 cS aS (skV c.t) x w' (h9.cell k6) (RS.ext h9) (by have := allI_mem.1 hx; omega)); rintro v' w5 ⟨hX5, hU5, rfl, hOF⟩) | (first | apply WL.nil | refine WL.au (k := ?_)) | apply Z.tn | (first | apply W.seq | apply W.region))
 have hXw5 : Ext w w5 := hxc.trans (hXc3.trans hX5)
 have hc5 : Cells w5 gc 0 c.vals := Cells.ext (hXc3.trans hX5) hcells
 have k65 := hX5.cell k6
 have RS5 := RS.ext hX5
 have hC5 := hC.ext hXw5
 rw [efr] at hOF ⊢
 have RF5 := hOF.row eIk
 have hfl : (freeV c.t).length <= c.lat.2.2.length := sel_le _ _
 have hal : (allI c.ins.2.2.length).length = c.ins.2.2.length := allI_len _
 obtain ⟨O, hO⟩ : ∃ O, O = storeV c.t := ⟨_, rfl⟩
 obtain ⟨q0, q1, q2, q3, q4, q5, q6, q7, q8, _⟩ := id hc5
 clear y0 y1 y2 y3 y4 y5 y6 y7 y8 hb6 hb3 hc3 hU3 hOU hU5
 refine W.cutT (σ := Nat × Nat × Nat × (Option Addr × Nat) × (Option Addr × Nat) × (Option Addr × Nat) × (Option Addr × Nat) × World) (fun s => Ext w5 s.2.2.2.2.2.2.2 /\ Cells s.2.2.2.2.2.2.2 s.1 0 (foldW c s.2.2.2.2.1.1 s.2.2.2.2.1.2 s.2.2.2.2.2.1.1 s.2.2.2.2.2.1.2 (.slice aS (skV c.t).length cS) (.pointer (some ⟨s.2.1, 0, none⟩)) (.slice s.2.2.2.2.2.2.1.1 O.1.length s.2.2.2.2.2.2.1.2)) /\ Row 1 encI s.2.2.2.2.2.2.2 s.2.2.2.2.2.1.1 (cNet c.t).2 /\ Row 1 encI s.2.2.2.2.2.2.2 s.2.2.2.2.2.2.1.1 O.1 /\ ∃ w0 : World, Lt.Sep w0.heap.size s.2.2.2.2.2.2.2 (stN w0.heap.size s.2.1 s.2.2.2.1.1 s.2.2.2.1.2 s.2.2.1 O.2))
  (fun s => [(1, .int .i64 prop), (2, .pointer (some ⟨gc, 0, none⟩)), (7, .slice aU (freeV c.t).length cU), (8, .pointer (some ⟨s.1, 0, none⟩))]) (fun s => s.2.2.2.2.2.2.2) ?_ ?_
 ·skip
  repeat' (first | (show W _ _ (.region 3 _ _) _ _ _; apply W.regionGX (.fl true 2 (.fl true 3 (.fl false 0 (.fl false 1 (.fl false 4 (.fl true 5 (.br 6 (.br 7 (.br 8 (.br 9 .done .stop) .stop) (.br 8 (.br 7 (.br 9 .done .stop) .stop) .stop)) (.br 8 (.br 6 (.br 7 (.br 9 .done .stop) .stop) .stop) .stop)))))))) [1, 4, 5, 6, 7, 8] tMix; kernel_rfl) | (apply FL.loadAE (vs := c.vals) tOk; (iterate 5 exact rfl); exact hc5; exact rfl) | (apply WL.call (f := 123); (iterate 4 exact rfl); exact coi_upTo c.ins.2.2.length _ z1; rintro v' wU ⟨hxU, aV, cV, rfl, hOV⟩) | (show WL _ _ _ (⟨some 8, .alloc _, _, _, _, _⟩ :: _) _ _ _; apply WL.alloc tOk; (iterate 3 exact rfl); intro g8 wA hb8 hge8 hxA) | (apply WL.call (f := 74); (iterate 4 exact rfl); exact coi_fold c (skV c.t) (freeV c.t) (allI c.ins.2.2.length) aS aU aV cS cU cV _ (hC5.ext extA) hg hz (store_ok hg) (by omega) (by omega) (RS5.ext extA) (RF5.ext extA) ((hOV.row eIk).ext extA); rintro v' wF ⟨hxF, aN, cN, aA, cA, gs, r, ar, caps, aO, cO, rfl, RNf, RAf, ROf, hSf, hbf⟩; replace RAf : Row 1 encI wF aA (cNet c.t).2 := RAf; have eO : foldV c.t (skV c.t) (freeV c.t) (allI c.ins.2.2.length) = O := hO.symm; rw [eO] at ROf hSf ⊢) | (show WL _ _ _ (⟨none, .store _ (.tmp 8) _, _, _, _, _⟩ :: _) _ _ _; apply WL.storeB (w0 := w5) tOk; (iterate 4 exact rfl); exact hb8; exact extA; kernel_rfl; kernel_rfl; kernel_rfl; exact extA; exact Nat.le_trans (Below.size extA) hge8; intro w6 hb9 hc9 hX9 hU9; have hA9 : ∀ k, (blk aN = some k ∨ blk aA = some k ∨ blk aO = some k) -> k < wF.heap.size /\ k ≠ g8 := (fun k hk => by have e1 := hbf k hk; refine ⟨e1.2, fun he => ?_⟩; first | (have e2 := Nat.lt_of_lt_of_le (heap_lt hb8) (Nat.le_trans (Below.size (show Ext wA _ from extA)) e1.1); omega) | (have e2 := Nat.lt_of_lt_of_le e1.2 (Nat.le_trans (Below.size (show Ext wF _ from extA)) hge8); omega)); have RA6 := Row.keepU (RAf.ext extA) hU9 (fun k hk => ⟨Nat.lt_of_lt_of_le (hA9 k (.inr (.inl hk))).1 (Below.size extA), (hA9 k (.inr (.inl hk))).2⟩); have RO6 := Row.keepU (ROf.ext extA) hU9 (fun k hk => ⟨Nat.lt_of_lt_of_le (hA9 k (.inr (.inr hk))).1 (Below.size extA), (hA9 k (.inr (.inr hk))).2⟩); have hS6 : ∃ w0 : World, Lt.Sep w0.heap.size w6 (stN w0.heap.size gs ar caps r O.2) := (by first | exact ⟨_, Sep.updNew hSf extA hU9 (Nat.le_trans (Below.size extA) hge8)⟩ | exact ⟨_, Sep.oldU (hSf.ext extA) hU9 (Nat.lt_of_lt_of_le (heap_lt hb8) (Below.size extA))⟩)) | (first | (apply SX.done; intro w' hx) | (apply SX.fl0; exact rfl) | (apply SX.fl1; exact rfl; exact extA) | (apply SX.br1; exact rfl; intro w' hx) | (apply SX.br; exact rfl; (intro w' hx))) | (first | apply FL.nilX | (apply FL.loadE tOk; (iterate 5 exact rfl); assumption)) | refine FL.au (k := ?_) | (first | (apply Z.sxL; exact rfl) | (apply Z.sxE; exact extA)) | apply WL.nil)
  all_goals
   have hXf : Ext w6 _ := (by assumption)
   obtain ⟨w0f, hS6'⟩ := hS6
   exact Z.cut (g8, gs, r, (ar, caps), (aN, cN), (aA, cA), (aO, cO), _) ⟨hX9.trans hXf, Cells.ext hXf hc9, RA6.ext hXf, RO6.ext hXf, w0f, hS6'.ext hXf⟩ (by repeat' first | exact trivial | (refine And.intro ?_ ?_) | exact rfl) rfl
 rintro ⟨g8, gs, r, ⟨ar, caps⟩, ⟨aN, cN⟩, ⟨aA, cA⟩, ⟨aO, cO⟩, w7⟩ ⟨hX57, hc8, RA7, RO7, w0f, hS7⟩
 dsimp only at hX57 hc8 RA7 RO7 hS7 ⊢
 have hc57 : Cells w7 gc 0 c.vals := Cells.ext hX57 hc5
 have hC7 := hC5.ext hX57
 have RF7 := RF5.ext hX57
 obtain ⟨_, _, _, _, _, _, _, _, _, _, _, u11, u12, u13, _⟩ := id hc8
 obtain ⟨p0, p1, p2, p3, p4, p5, p6, p7, p8, _⟩ := id hc57
 have hIO := fold_inv hg (store_ok hg)
 have hO1 : OwnOk c.t O.1 := by rw [hO]; exact fold_ownOk hg hz (store_ok hg) (by omega) (by show (allI c.ins.2.2.length).length <= _; omega)
 have hO2 : O.2.length <= 500000 /\ GNt O.2 := by
  rw [hO]
  refine ⟨?_, hIO.2.2.2.2.good⟩
  have h9 := hIO.2.2.2.1
  have h10 : (allI c.t.ins.length).length = c.ins.2.2.length := allI_len _
  show (foldV c.t (skV c.t) (freeV c.t) (allI c.t.ins.length)).2.length <= 500000
  omega
 have ncn := hC.cons.none
 have RCn := hC7.cons.row
 have hkb : ∀ x ∈ badL c.t prop :: c.cons.2.2, KnL c.t x := fun x hx => want_kn (c := c.t) hg hx
 have z5 : c.cons.2.2.length <= 100000 := hz.2.2.2.2.1
 have eSt : (badL c.t prop :: c.cons.2.2).map (flit c.t O.1) = inSt c.t (badL c.t prop) :: c.cons.2.2.map (inSt c.t) := by rw [hO]; rfl
 repeat' (first | (show W _ _ (.region 6 _ _) _ _ _; apply W.regionGX (.fl true 2 (.fl true 5 (.fl false 0 (.fl false 1 (.fl false 6 (.br 3 (.br 4 (.br 7 (.br 8 (.fl true 9 .done) .stop) .stop) .stop) .stop)))))) [1, 3, 4, 6, 7, 8] tMix; kernel_rfl) | (apply WL.call (f := 62); (iterate 4 exact rfl); exact aig_NetV gs r caps ar O.2 [] w7 w0f hS7 (by omega); rintro v' w8 ⟨hx8, aT, cT, rfl, hOT⟩) | (show WL _ _ _ (⟨some 38, _, _, _, _, _⟩ :: _) _ _ _; apply WL.makeMap (kv := encK) (vv := isB); exact rfl; exact rfl; intro rl w9 hMl hgel hx9) | (show WL _ _ _ (⟨some 39, _, _, _, _, _⟩ :: _) _ _ _; apply WL.makeMap (kv := encK) (vv := isB); exact rfl; exact rfl; intro ri w10 hMi hgei hx10; have hc10 : Cells w10 g8 0 (foldW c aN cN aA cA (.slice aS (skV c.t).length cS) (.pointer (some ⟨gs, 0, none⟩)) (.slice aO O.1.length cO)) := Cells.ext (hx8.trans (hx9.trans hx10)) hc8; have hcc10 : Cells w10 gc 0 c.vals := Cells.ext (hx8.trans (hx9.trans hx10)) hc57) | (apply WL.callP (f := 76); (iterate 4 exact rfl); exact coi_bad c prop _ (hC7.ext extA); intro w' hx) | (apply WL.lit tOk; (iterate 6 exact rfl); kernel_rfl; exact rfl; intro gb w' hb hge hc hx; have hO := Own.of_block ([badL c.t prop]) eIk hb hge rfl; (obtain ⟨hOb, rfl⟩ : ∃ x, x = hO := ⟨_, rfl⟩)) | (show WL _ _ _ (⟨some 47, _, _, _, _, _⟩ :: _) _ _ _; apply WL.appendS (w0 := w10) tOk eIk; (iterate 10 exact rfl); exact (Own.base hOb (Below.size (show Ext w10 _ from extA))); exact extA; exact rfl; exact RCn; exact extA; exact rfl; exact ncn; exact rfl; exact extA; (simp; omega); intro aW cW wW hOW hXW hUW hFW) | (apply WL.call (f := 77); (iterate 4 exact rfl); exact coi_fall c aN aA aO aW cN cA cO cW _ _ O.1 (badL c.t prop :: c.cons.2.2) hg hz hO1 hkb (by simp; omega) _ (RA7.ext extA) (RO7.ext extA) ((Own.row eIk hOW).ext extA) rfl rfl; rintro v' w12 ⟨hx12, aD, cD, rfl, hOD⟩; rw [eSt] at hOD ⊢) | (first | (apply SX.done; intro w' hx) | (apply SX.fl0; exact rfl) | (apply SX.fl1; exact rfl; exact extA) | (apply SX.br1; exact rfl; intro w' hx)) | (first | apply FL.nilX | (apply FL.loadE tOk; (iterate 5 exact rfl); ((focus (apply Ext.cell; rotate_left; assumption; exact extA; done)))) | (apply FL.loadAE tOk; (iterate 5 exact rfl); assumption; exact rfl)) | refine FL.au (k := ?_) | (apply Z.sxE; exact extA) | (first | apply WL.nil | refine WL.au (k := ?_)) | apply Z.tn | (first | apply W.seq | apply W.region | apply W.block))
 obtain ⟨w12b, rfl⟩ : ∃ x, x = w' := ⟨_, rfl⟩; obtain ⟨hx12b, rfl⟩ : ∃ x, x = hx := ⟨_, rfl⟩
 have hx810 : Ext w8 w10 := hx9.trans hx10
 have hX8w : ∀ w', Ext w8 w' -> Ext w7 w' := fun w' h => hx8.trans h
 have hS9 := Sep.newMap (Sep.none' (B := w8.heap.size)) hx9 hMl hgel (Nat.le_refl _)
 have hS10 := Sep.newMap hS9 hx10 hMi hgei (Below.size hx9)
 have hS12 := Sep.newRow hS10 (show Ext w10 w12 from extA) (hOD.base (Below.size (show Ext w8 _ from extA))) (fun q hq => Nat.le_trans (Below.size (show Ext w10 _ from extA)) (hOD.blk_lt q hq).1) (Below.size hx810)
 have RT8 := hOT.row encN_ok
 have hgm : ∀ (w9 : World) (l : List (Int × Int)), True := fun _ _ => trivial
 refine W.loop (σ := (List Int × List Int × List Int) × Option Addr × Nat × World) (fun s => Ext w8 s.2.2.2 /\ NdI c.t prop s.1.1 s.1.2.1 s.1.2.2 /\ Lt.Sep w8.heap.size s.2.2.2 [prow 1 encI 3 w8.heap.size s.2.1 s.2.2.1 s.1.2.2, pmap encK isB ri (keysL true s.1.1), pmap encK isB rl (keysL true s.1.2.1)])
  (fun s => [(2, .pointer (some ⟨gc, 0, none⟩)), (7, .slice aU (freeV c.t).length cU), (8, .pointer (some ⟨g8, 0, none⟩)), (9, .slice aT O.2.length cT), (10, .map (some rl)), (11, .map (some ri)), (12, .slice s.2.1 s.1.2.2.length s.2.2.1)])
  (fun s => s.2.2.2) (fun s => 2 * (c.lat.2.2.length + 1 - s.1.2.1.length) + (if s.1.2.2 = [] then 0 else 1)) (([], [], inSt c.t (badL c.t prop) :: c.cons.2.2.map (inSt c.t)), aD, cD, w12b) ⟨extA, ndI_first.resolve_right (fun h => h hg), hS12.ext hx12b⟩ (by repeat' first | exact trivial | (refine And.intro ?_ ?_) | exact rfl) rfl ?_
 clear hS12 hS10 hS9 hOD hOW hUW hFW hOb hMl hMi
 rintro ⟨⟨kI, kL, todo⟩, bT, cpT, w13⟩ ⟨hX13', hI, hS⟩
 dsimp only at hX13' hI hS ⊢
 have hc13 : Cells w13 gc 0 c.vals := Cells.ext (hx8.trans hX13') hc57
 have hg13 := Cells.ext (hx8.trans hX13') hc8
 obtain ⟨y0, y1, y2, y3, y4, y5, y6, y7, y8, _⟩ := id hc13
 have RF13 := RF7.ext (hx8.trans hX13')
 have hkLl := nd_len hI.b
 have hkl' : kL.length <= c.lat.2.2.length := hkLl
 by_cases hne : todo = []
 ·subst hne
  have hMi : MapIs encK isB w13 ri (keysL true kI) := hS.map (i := 1) rfl
  have hMl : MapIs encK isB w13 rl (keysL true kL) := hS.map (i := 2) rfl
  have hbi := (hS.lt (i := 1) rfl rfl).1
  have hbl := (hS.lt (i := 2) rfl rfl).1
  have hX513 : Ext w5 w13 := hX57.trans (hx8.trans hX13')
  have hX313 : Ext w3 w13 := hX5.trans hX513
  have hOF13 := hOF.ext hX513
  have h58 : w5.heap.size <= w8.heap.size := Below.size (hX57.trans hx8)
  have hnl2 : ∀ k, w8.heap.size <= k -> blk aU ≠ some k := fun k hk he => by have := (hOF.blk_lt k he).2; omega
  have eLa := ndI_la hI
  have eIn := ndI_in hI
  have hc3' : Cells w3 gc 0 c.vals := Cells.ext hXc3 hcells
  have hXw3 : Ext w w3 := hxc.trans hXc3
  clear y0 y1 y2 y3 y4 y5 y6 y7 y8 hc13 hg13
  obtain ⟨_, y1, y2, _⟩ := id hc3'
  have hn2 := coi_Needs2 aU cU rl (freeV c.t) kL w13 w3 hOF13 hX313 (by omega) hMl (hnl2 rl hbl)
  rw [eLa] at hn2
  repeat' (first | (apply W.cKF; exact rfl; exact dFf (by simp)) | (show W _ _ (.region 22 _ _) _ _ _; apply W.regionG (.fl true 0 (.fl true 1 (.fl true 2 (.fl true 4 (.fl true 5 (.fl true 9 (.fl false 6 (.fl true 7 (.br 3 (.br 8 (.br 10 (.fl true 11 (.fl true 12 .done)) .stop) .stop) .stop))))))))) [3, 8, 10, 11] (Ext w3) tMix; kernel_rfl) | (show WL _ _ _ (⟨_, .call ⟨.value (.tmp 96), _, _⟩, _, _, _, _⟩ :: _) _ _ _; apply WL.call; (iterate 4 exact rfl); exact hn2; rintro v' w16 ⟨hX16, rfl, hO16, hk16⟩; have hMi16 : MapIs encK isB w16 ri (keysL true kI) := hMi.keep (hk16 ri hMi.lt (hnl2 ri hbi))) | (apply WL.call (f := 123); (iterate 4 exact rfl); exact coi_upTo c.ins.2.2.length _ z1; rintro v' w17 ⟨hx17, aV, cV, rfl, hOV⟩) | (show WL _ _ _ (⟨_, .call ⟨.value (.tmp 100), _, _⟩, _, _, _, _⟩ :: _) _ _ _; apply WL.call; (iterate 4 exact rfl); (have hn3 := coi_Needs2 aV cV ri (allI c.ins.2.2.length) kI w17 w16 hOV hx17 (by omega) (hMi16.ext hx17) (fun he => by have h1 := (hOV.blk_lt ri he).1; have h2 := hMi16.lt; omega); rw [eIn] at hn3; exact hn3); rintro v' w18 ⟨hX18, rfl, hO18, _⟩) | (first | apply WL.nil | refine WL.au (k := ?_)) | (first | apply SG.done | (apply SG.fl0; exact rfl) | (apply SG.fl1; exact rfl; (focus ((intro m; first | assumption | (apply Ext.at; exact extA) | apply But.of_at; first | exact But.upd (by assumption) | exact But.ext extA | (refine But.trans ?_ (But.upd (by assumption)); exact But.ext extA) | exact But.at _ _ _); done))) | (apply SG.br1; exact rfl)) | (apply FL.loadE tOk; (iterate 5 exact rfl); assumption) | (first | apply FL.nilS | refine FL.au (k := ?_)) | (apply Z.sgE; (focus ((intro m; first | assumption | (apply Ext.at; exact extA) | apply But.of_at; first | exact But.upd (by assumption) | exact But.ext extA | (refine But.trans ?_ (But.upd (by assumption)); exact But.ext extA) | exact But.at _ _ _); done))) | (first | apply Z.tn | apply Z.tnx | apply Z.bkx) | (first | apply W.seq | apply W.region | apply W.ret | apply W.exit))
  have hX1618 : Ext w16 w18 := hX18
  have hXw16 : Ext w w16 := hXw3.trans hX16
  exact Z.body2 Try.results73 rfl rfl fun q => ⟨(hXw16.trans hX1618).at q, aU, cU, aV, cV, rfl, ((hO16.ext hX1618).base (Below.size hXw3)).ext ((Ext.refl _).at q), (hO18.base (Below.size hXw16)).ext ((Ext.refl _).at q)⟩
 have hpos : 0 < todo.length := List.length_pos_iff.2 hne
 have hOt : Own 1 encI 3 w8.heap.size w13 bT cpT todo := hS.row (i := 0) rfl
 have htI : ∀ x ∈ todo, inI64 x := fun x hx => by
  obtain ⟨l, hl, rfl, _⟩ := hI.t x hx
  have h9 := flit_in hg hO1 hl
  rw [hO] at h9
  have h10 : 0 <= inSt c.t l /\ inSt c.t l <= 4611686018427387905 := h9
  unfold inI64; omega
 repeat' (first | (apply W.cKT; exact rfl; exact dTt (by omega)) | (apply WL.call (f := 125); (iterate 4 exact rfl); exact cone_Support aT bT cT cpT O.2 todo w13 (RT8.ext hX13') (hOt.row eIk) hO2.2 (by omega) htI; rintro v' w14 ⟨hx14, aQ, cQ, rfl, hOQ⟩) | (first | apply WL.nil | refine WL.au (k := ?_)) | apply Z.tn | (first | apply W.seq | apply W.region | apply W.block | apply W.skip))
 obtain ⟨sL, hsL⟩ : ∃ sL, sL = supL O.2 todo := ⟨_, rfl⟩
 rw [<- hsL] at hOQ ⊢
 have hS14 := Sep.newRow (s := 1) (enc := encI) (el := 3) (a := none) (cap := 0) (l := ([] : List Int)) (Sep.newRow (Sep.drop hS 1) hx14 (hOQ.base (Below.size hX13')) (fun q hq => (hOQ.blk_lt q hq).1) (Below.size hX13')) (Ext.refl _) Own.nil (fun k hk => by cases hk) (Below.size (hX13'.trans hx14))
 have hg8w := Cells.ext hx8 hc8
 have hc8w : Cells w8 gc 0 c.vals := Cells.ext hx8 hc57
 have RL8 := (hC7.ext hx8).lat.row
 obtain ⟨_, _, x2, _⟩ := id hc8w
 refine W.loop (σ := (Nat × List Int × List Int × List Int) × Option Addr × Nat × World) (fun s => s.1.1 <= sL.length /\ s.1.2.2.2.length <= s.1.2.2.1.length /\ Ext w8 s.2.2.2 /\ NdJ c.t prop kI kL sL s.1.1 s.1.2.1 s.1.2.2.1 s.1.2.2.2 /\ Lt.Sep w8.heap.size s.2.2.2 [prow 1 encI 3 w8.heap.size s.2.1 s.2.2.1 s.1.2.2.2, prow 1 encI 3 w8.heap.size aQ cQ sL, pmap encK isB ri (keysL true s.1.2.1), pmap encK isB rl (keysL true s.1.2.2.1)])
  (fun s => [(2, .pointer (some ⟨gc, 0, none⟩)), (7, .slice aU (freeV c.t).length cU), (8, .pointer (some ⟨g8, 0, none⟩)), (9, .slice aT O.2.length cT), (10, .map (some rl)), (11, .map (some ri)), (12, .slice s.2.1 s.1.2.2.2.length s.2.2.1), (55, .slice aQ sL.length cQ), (56, .int .i64 sL.length), (57, .int .i64 s.1.1)])
  (fun s => s.2.2.2) (fun s => sL.length + 1 - s.1.1) ((0, kI, kL, []), none, 0, w14) ⟨Nat.zero_le _, Nat.zero_le _, hX13'.trans hx14, ndJ_first hI sL, hS14⟩ (by repeat' first | exact trivial | (refine And.intro ?_ ?_) | exact rfl) rfl ?_
 clear hS14 hS hOQ y0 y1 y2 y3 y4 y5 y6 y7 y8 hOt hg13
 rintro ⟨⟨q, jI, jL, t2⟩, b2, cp2, w15⟩ ⟨hq, htj, hX15, hJ, hS⟩
 dsimp only at hq htj hX15 hJ hS ⊢
 have hjl : jL.length <= c.lat.2.2.length := nd_len hJ.b
 have hc15 : Cells w15 gc 0 c.vals := Cells.ext hX15 hc8w
 obtain ⟨y0, y1, y2, y3, y4, y5, y6, y7, y8, _⟩ := id hc15
 by_cases hql : q < sL.length
 ·obtain ⟨v, hv⟩ := getI sL hql
  have hvm : v ∈ supL (storeV c.t).2 todo := by rw [<- hO, <- hsL]; exact List.mem_of_getElem? hv
  obtain ⟨hnd, hv1, hvM⟩ := ndI_meets hg hI hvm
  have hti : c.t.ins.length = c.ins.2.2.length := rfl
  have RQ15 : Row 1 encI w15 aQ sL := Own.row eIk (hS.row (i := 1) rfl)
  have hsLn := RQ15.len
  have hMi : MapIs encK isB w15 ri (keysL true jI) := hS.map (i := 2) rfl
  have hMl : MapIs encK isB w15 rl (keysL true jL) := hS.map (i := 3) rfl
  have hbi := (hS.lt (i := 2) rfl rfl).1
  have hbl := (hS.lt (i := 3) rfl rfl).1
  by_cases hvi : v <= (c.ins.2.2.length : Int)
  ·repeat' (first | (apply W.cKT; exact rfl; exact dTt (by omega)) | (apply WL.mapPutF (B := 0) (w0 := w8) (vv := isB) (v := true) tOk keyI; (iterate 6 exact rfl); exact hMi; exact hX15; exact hbi; intro w16 hM16 hX16 hU16; have hM17 : MapIs encK isB w16 ri (keysL true (putK jI (v - 1))) := (by by_cases hin : (v - 1) ∈ jI; (rw [mget_inC hin] at hM16; dsimp only at hM16; rw [mset_keys] at hM16; rw [putK_old hin]; exact hM16); (rw [mget_noC hin] at hM16; dsimp only at hM16; rw [putK_new hin, keysL_snoc]; exact hM16))) | (first | apply WL.nil | refine WL.au (k := ?_) | (apply WL.index tOk; (iterate 8 exact rfl); assumption; exact extA; exact rfl; omega; assumption; intro b off h; have hcc := h; first | (obtain ⟨h1, h2, h3, h4, h5, h6, _⟩ := h) | (obtain ⟨h1, h2, h3, _⟩ := h) | (obtain ⟨h1, h2, _⟩ := h) | (obtain ⟨h1, _⟩ := h))) | (first | apply Z.tn | apply Z.tnx | apply Z.bkx) | (first | apply W.seq | apply W.region | apply W.block | apply W.skip | apply W.exit))
   have hS16 := Sep.updMap (i := 2) rfl hU16 hM17 hS (Ext.refl _) (Below.size hX15)
   have hX16' : Ext w8 w16 := hX16
   exact Z.again ((q + 1, putK jI (v - 1), jL, t2), b2, cp2, w16) ⟨by dsimp only; omega, htj, hX16', ndJ_in hJ hv hnd hv1 hvi (fun p => putK_mem jI (v - 1) p), hS16⟩ (by dsimp only; omega) (by repeat' first | exact trivial | (refine And.intro ?_ ?_) | exact rfl) rfl
  obtain ⟨j, hj⟩ := getI (freeV c.t) (show (v - 1 - (c.ins.2.2.length : Int)).toNat < (freeV c.t).length by omega)
  have hjf := free_mem.1 (List.mem_of_getElem? hj)
  have RF15 := (RF7.ext hx8).ext hX15
  by_cases hjm : j ∈ jL
  ·repeat' (first | (apply W.cKT; exact rfl; (focus (exact dTt (by omega)))) | (apply W.cKF; exact rfl; (focus (first | exact dFf (by omega) | (rw [dTt hjm]; rfl); done))) | (apply WL.lookKeys tOk keyI; (iterate 8 exact rfl); exact hMl) | (first | apply WL.nil | refine WL.au (k := ?_) | (apply WL.index tOk; (iterate 8 exact rfl); assumption; exact extA; exact rfl; omega; assumption; intro b off h; have hcc := h; first | (obtain ⟨h1, h2, h3, h4, h5, h6, _⟩ := h) | (obtain ⟨h1, h2, h3, _⟩ := h) | (obtain ⟨h1, h2, _⟩ := h) | (obtain ⟨h1, _⟩ := h))) | (first | apply Z.tn | apply Z.bkn) | (first | apply W.seq | apply W.region | apply W.block | apply W.skip))
   exact Z.again ((q + 1, jI, jL, t2), b2, cp2, w15) ⟨by dsimp only; omega, htj, hX15, ndJ_old hJ hv (by omega) hj hjm, hS⟩ (by dsimp only; omega) (by repeat' first | exact trivial | (refine And.intro ?_ ?_) | exact rfl) rfl
  ·obtain ⟨t, ht⟩ := getI c.lat.2.2 (show j.toNat < c.lat.2.2.length from by have := hjf.2.1; have h9 : c.t.lat.length = c.lat.2.2.length := rfl; omega)
   have hkn := kLu hg (used_next (c := c.t) (List.mem_of_getElem? ht))
   have eFl : flit c.t O.1 t.2.1 = inSt c.t t.2.1 := by rw [hO]; rfl
   have hflit := fun (w9 : World) (h9 : Ext w8 w9) => coi_flit c aN aA aO cN cA cO (.slice aS (skV c.t).length cS) (.pointer (some ⟨gs, 0, none⟩)) O.1 hg hz hO1 t.2.1 hkn w9 ((RA7.ext hx8).ext h9) ((RO7.ext hx8).ext h9) rfl rfl
   rw [eFl] at hflit
   repeat' (first | (apply W.cKT; exact rfl; (focus (first | exact dTt (by omega) | (rw [dFf hjm]; rfl); done))) | (apply W.cKF; exact rfl; (focus (exact dFf (by omega)))) | (show W _ _ (.region 19 _ _) _ _ _; apply W.regionG (.fl true 0 (.fl true 2 (.fl true 4 (.fl false 1 (.fl false 3 (.fl true 5 (.fl true 6 (.fl false 7 (.br 8 (.br 9 (.br 10 (.fl true 11 .done) .stop) .stop) .stop))))))))) [3, 5, 6, 7, 8, 9, 10] (Ext w8) tMix; kernel_rfl) | (apply WL.lookKeys tOk keyI; (iterate 8 exact rfl); exact hMl) | (apply WL.mapPutF (B := 0) (w0 := w8) (vv := isB) (v := true) tOk keyI; (iterate 6 exact rfl); exact hMl; exact hX15; exact hbl; intro w16 hM16 hX16 hU16; have hM17 : MapIs encK isB w16 rl (keysL true (jL ++ [j])) := (by rw [mget_noC hjm] at hM16; dsimp only at hM16; rw [keysL_snoc]; exact hM16); have hS16 := Sep.updMap (i := 3) rfl hU16 hM17 hS (Ext.refl _) (Below.size hX15); have hX16' : Ext w8 w16 := hX16; clear hX16; have hO16 : Own 1 encI 3 w8.heap.size w16 b2 cp2 t2 := hS16.row (i := 0) rfl) | (apply WL.callP (f := 75); (iterate 4 exact rfl); exact hflit _ extA; intro w17 hx17) | (apply WL.lit tOk; (iterate 6 exact rfl); kernel_rfl; exact rfl; intro gb wL hb hge hc hxL) | (apply WL.ap1 (z := (inSt c.t t.2.1)) tOk eIk; (iterate 10 exact rfl); assumption; exact extA; exact rfl; assumption; exact rfl; exact rfl; exact extA; omega; intro bA cA wA hOA hXA hUA hFA; (have hSA := Sep.uRw (i := 0) rfl hUA hOA hFA hS16 extA (Below.size extA))) | (first | apply WL.nil | refine WL.au (k := ?_) | (apply WL.index tOk; (iterate 8 exact rfl); assumption; exact extA; exact rfl; omega; assumption; intro b off h; have hcc := h; first | (obtain ⟨h1, h2, h3, h4, h5, h6, _⟩ := h) | (obtain ⟨h1, h2, h3, _⟩ := h) | (obtain ⟨h1, h2, _⟩ := h) | (obtain ⟨h1, _⟩ := h))) | (first | apply SG.done | (apply SG.fl0; exact rfl) | (apply SG.fl1; exact rfl; (focus ((intro m; first | assumption | (apply Ext.at; exact extA) | apply But.of_at; first | exact But.upd (by assumption) | exact But.ext extA | (refine But.trans ?_ (But.upd (by assumption)); exact But.ext extA) | exact But.at _ _ _); done))) | (apply SG.br1; exact rfl)) | (first | (apply FL.loadE tOk; (iterate 5 exact rfl); assumption) | (apply FL.loadAE tOk; (iterate 5 exact rfl); assumption; exact rfl) | (apply FL.indexE tOk; (iterate 8 exact rfl); assumption; exact rfl; omega; assumption; intro b off h; have hcc := h; first | (obtain ⟨h1, h2, h3, h4, h5, h6, _⟩ := h) | (obtain ⟨h1, h2, h3, _⟩ := h) | (obtain ⟨h1, h2, _⟩ := h) | (obtain ⟨h1, _⟩ := h))) | (first | apply FL.nilS | refine FL.au (k := ?_)) | (apply Z.sgE; (focus ((intro m; first | assumption | (apply Ext.at; exact extA) | apply But.of_at; first | exact But.upd (by assumption) | exact But.ext extA | (refine But.trans ?_ (But.upd (by assumption)); exact But.ext extA) | exact But.at _ _ _); done))) | (first | apply Z.tn | apply Z.bkn) | (first | apply W.seq | apply W.region | apply W.block | apply W.skip))
   all_goals
    exact Z.again ((q + 1, jI, jL ++ [j], t2 ++ [inSt c.t t.2.1]), bA, cA, _) ⟨by dsimp only; omega, by dsimp only; rw [List.length_append, List.length_append]; simpa using htj, extA, ndJ_new hJ hv hnd (by omega) hj ht hjm, hSA.ext extA⟩ (by dsimp only; omega) (by repeat' first | exact trivial | (refine And.intro ?_ ?_) | exact rfl) rfl
 obtain rfl : q = sL.length := by omega
 repeat' (first | (apply W.cKF; exact rfl; exact dFf (by omega)) | (first | apply WL.nil | refine WL.au (k := ?_)) | (first | apply Z.tn | apply Z.bkn | apply Z.tnx | apply Z.bkx) | (first | apply W.seq | apply W.region | apply W.exit))
 have hI2 : NdI c.t prop jI jL t2 := ndJ_end hg hI (by rw [hsL, hO]) hJ
 have hS2 := Sep.pickL (pre := [_, _, _, _]) (tl := []) [0, 2, 3] pnone hS rfl
 have hgl := hJ.g
 exact Z.again ((jI, jL, t2), b2, cp2, w15) ⟨hX15, hI2, hS2⟩ (by
  dsimp only
  rw [if_neg hne]
  by_cases h9 : t2 = []
  ·rw [if_pos h9]; omega
  ·rw [if_neg h9]; have := hgl.2 h9; omega) (by repeat' first | exact trivial | (refine And.intro ?_ ?_) | exact rfl) rfl
end Go.Proofs.Yteidpnpbfagaeaa
namespace Go.Lt
open Go.RowKit

def swapB (w : World) (g : Nat) (o : Obj) : World := { w with heap := w.heap.setIfInBounds g o }
section
variable {w wl w0 w' : World} {g k B : Nat} {o : Obj}
theorem swapB_size (w : World) (g : Nat) (o : Obj) : (swapB w g o).heap.size = w.heap.size := by simp [swapB]
theorem swapB_at (h : g < w.heap.size) : (swapB w g o).heap[g]? = some o := by simp [swapB, h]
theorem swapB_ne (h : k ≠ g) : (swapB w g o).heap[k]? = w.heap[k]? := by
 unfold swapB
 exact Array.getElem?_setIfInBounds_ne (fun he => h he.symm)
theorem swapB_old (h : Ext wl w) (hg : wl.heap.size <= g) : Ext wl (swapB w g o) :=
 ⟨h.os, h.tape, h.output, by rw [swapB_size]; exact h.size, fun k hk => by rw [swapB_ne (by omega)]; exact h.block k hk⟩
theorem swapB_ext (hl : Ext wl w0) (hl' : Ext wl w') (h : Ext w0 w) (hU : Upd B (some ⟨g, 0, none⟩) w w') (hg : g < w0.heap.size) (hb : w'.heap[g]? = some o) : Ext (swapB w0 g o) w' := by
 refine ⟨hl'.os.trans hl.os.symm, hl'.tape.trans hl.tape.symm, hl'.output.trans hl.output.symm, by rw [swapB_size]; exact Nat.le_trans h.size hU.size, fun k hk => ?_⟩
 rw [swapB_size] at hk
 by_cases he : k = g
 ·subst he; rw [swapB_at hg]; exact hb
 ·rw [swapB_ne he]
  refine (hU.grown.block k (Nat.lt_of_lt_of_le hk h.size) fun h2 => he ?_).trans (h.block k hk)
  simp only [blk, Option.map_some, Option.some.injEq] at h2
  exact h2
theorem Row.swapB {α : Type} {s : Nat} {enc : α -> List Value} {a : Option Addr} {l : List α} (h : Row s enc w a l) (hn : blk a ≠ some g) : Row s enc (swapB w g o) a l :=
 Row.keep h fun k hk => swapB_ne fun he => hn (by rw [hk, he])
theorem swapB_cell {b : Nat} {v : Value} (h : w.cell? ⟨b, 0, none⟩ = some v) (hn : b ≠ g) : (swapB w g o).cell? ⟨b, 0, none⟩ = some v := by
 simp only [World.cell?] at h ⊢
 rw [swapB_ne hn]; exact h
end
theorem Sep.updOldS {B B' g : Nat} {w w' : World} {ps : List Piece} (hS : Lt.Sep B w ps) (hU : Upd B' (some ⟨g, 0, none⟩) w w') (hg : g < B) : Lt.Sep B w' ps := by
 refine ⟨fun i p h => ⟨p.keep (hS.holds i p h).1 (fun k hk => hU.grown.block k ((hS.holds i p h).2 k hk).2 (fun he => ?_)), fun k hk => ⟨((hS.holds i p h).2 k hk).1, Nat.lt_of_lt_of_le ((hS.holds i p h).2 k hk).2 hU.grown.size⟩⟩, hS.apart⟩
 have h1 := ((hS.holds i p h).2 k hk).1
 simp only [blk, Option.map_some, Option.some.injEq] at he
 omega
theorem Sep.putAtS {B : Nat} {w : World} {ps : List Piece} {p' : Piece} (i : Nat) (hS : Lt.Sep B w (p' :: ps)) : Lt.Sep B w (ps.set i p') := by
 refine Lt.Sep.pick (fun j => if j = i then 0 else j + 1) hS (fun j p h => ?_) (fun j k _ _ hne => ?_)
 ·rw [List.getElem?_set] at h
  by_cases hj : i = j
  ·rw [if_pos hj] at h
   rw [if_pos hj.symm]
   split at h
   ·exact h
   ·cases h
  ·rw [if_neg hj] at h
   rw [if_neg (fun h => hj h.symm)]
   exact h
 ·split <;> split <;> omega
end Go.Lt
namespace Go.Proofs.Yteidpnpbfagaeaa
open Go Go.Lt Go.RowKit

theorem coi_Reduce1 (g cT : Nat) (aT : Option Addr) (c : CirT) (prop : Int) (hg : GoodC' c) (hz : SzC c 100000) (x : Int) (hx : x ∈ wantW c prop) (w : World) (hc : w.cell? ⟨g, 0, none⟩ = some (.slice aT (atT (redF c prop).2 (keepP c prop) ((redF c prop).2.length + 1)).length cT)) (R : Row 1 encI w aT (atT (redF c prop).2 (keepP c prop) ((redF c prop).2.length + 1))) :
  Still Try.prog 80 ([.int .i64 x] ++ [.pointer (some ⟨g, 0, none⟩)]) w (.int .i64 (nowL c prop x)) := by
 obtain ⟨z, hz1, hz2, hz3, hz4, hz5, hz6⟩ := now_at hg hz hx
 rw [hz4]
 refine Spec.of _ Try.func80 rfl Try.ntmps80 (by kernel_rfl) rfl ?_
 repeat' (first | (apply WL.andA; (iterate 4 exact rfl)) | (apply WL.xorI; (iterate 4 exact rfl); omega; omega) | (first | apply WL.nil | refine WL.au (k := ?_) | (apply WL.index tOk; (iterate 8 exact rfl); assumption; exact extA; exact rfl; omega; assumption; intro b off h; have hcc := h; first | (obtain ⟨h1, h2, h3, h4, h5, h6, _⟩ := h) | (obtain ⟨h1, h2, h3, _⟩ := h) | (obtain ⟨h1, h2, _⟩ := h) | (obtain ⟨h1, _⟩ := h))) | apply Z.tn | (first | apply W.seq | apply W.region | apply W.ret))
 exact Z.bd1 Try.results80 rfl fun m => ⟨rfl, m, rfl⟩
structure RdB (wF : World) (g10 g18 : Nat) (bW : Option Addr) (wt : List Int) (aN : Option Addr) (CW : List (Int × Int)) (aT : Option Addr) (cT : Nat) (AT : List Int) (V : List Value) (w0 : World) : Prop where
 old : Ext wF w0
 rwt : Row 1 encI w0 bW wt
 rnt : Row 2 encN w0 aN CW
 c18 : w0.cell? ⟨g18, 0, none⟩ = some (.slice aT AT.length cT)
 rat : Row 1 encI w0 aT AT
 out : w0.heap[g10]? = some (.cells V.toArray 27 (0, 0))
structure RdN (wF : World) (g10 g18 : Nat) (bW aN aT : Option Addr) : Prop where
 old : wF.heap.size <= g10
 nw : blk bW ≠ some g10
 nn : blk aN ≠ some g10
 nt : blk aT ≠ some g10
 n18 : g18 ≠ g10
section
variable {wF w0 : World} {g10 g18 : Nat} {bW : Option Addr} {wt : List Int} {aN : Option Addr} {CW : List (Int × Int)} {aT : Option Addr} {cT : Nat} {AT : List Int} {V : List Value}
theorem RdB.swap (h : RdB wF g10 g18 bW wt aN CW aT cT AT V w0) (hn : RdN wF g10 g18 bW aN aT) (V' : List Value) : RdB wF g10 g18 bW wt aN CW aT cT AT V' (swapB w0 g10 (.cells V'.toArray 27 (0, 0))) :=
 ⟨swapB_old h.old hn.old, Row.swapB h.rwt hn.nw, Row.swapB h.rnt hn.nn, swapB_cell h.c18 hn.n18, Row.swapB h.rat hn.nt, swapB_at (heap_lt h.out)⟩
end
abbrev dQ (B : Nat) (ai : Option Addr) (ci : Nat) (I : List Int) (al : Option Addr) (cl : Nat) (L : List T3) (ab : Option Addr) (cb : Nat) (Bd : List Int) (ac : Option Addr) (cc : Nat) (C : List Int) (ag : Option Addr) (cg : Nat) (G : List T3) : List Piece :=
 [prow 1 encI 3 B ai ci I, prow 3 enc3 87 B al cl L, prow 3 enc3 89 B ag cg G, prow 1 encI 3 B ac cc C, prow 1 encI 3 B ab cb Bd]
def OutS (P : List Value -> World -> Prop) (B : Nat) (mx : Int) (ai : Option Addr) (ci : Nat) (I : List Int) (al : Option Addr) (cl : Nat) (L : List T3) (ab : Option Addr) (cb : Nat) (Bd : List Int) (ac : Option Addr) (cc : Nat) (C : List Int) (ag : Option Addr) (cg : Nat) (G : List T3) (w' : World) : Prop :=
 ∃ w0 : World, w0.heap.size = B /\ P (dV mx ai ci I al cl L ab cb Bd.length ac cc C ag cg G) w0 /\ Ext w0 w' /\ Lt.Sep B w' (dQ B ai ci I al cl L ab cb Bd ac cc C ag cg G)
theorem OutS.up {wF w0 : World} {g10 g18 : Nat} {bW : Option Addr} {wt : List Int} {aN : Option Addr} {CW : List (Int × Int)} {aT : Option Addr} {cT : Nat} {AT : List Int} {V : List Value} {w w1 wl : World} {B' : Nat} {mx : Int} {ai : Option Addr} {ci : Nat} {I : List Int} {al : Option Addr} {cl : Nat} {L : List T3} {ab : Option Addr} {cb : Nat} {Bd : List Int} {ac : Option Addr} {cc : Nat} {C : List Int} {ag : Option Addr} {cg : Nat} {G : List T3}
  (h : RdB wF g10 g18 bW wt aN CW aT cT AT V w0) (hn : RdN wF g10 g18 bW aN aT) (hl : Ext wl wF) (hX' : Ext wl w1) (hX : Ext w0 w) (hU : Upd B' (some ⟨g10, 0, none⟩) w w1)
  (hb : w1.heap[g10]? = some (.cells (dV mx ai ci I al cl L ab cb Bd.length ac cc C ag cg G).toArray 27 (0, 0))) (hS : Lt.Sep w0.heap.size w (dQ w0.heap.size ai ci I al cl L ab cb Bd ac cc C ag cg G)) :
  OutS (RdB wF g10 g18 bW wt aN CW aT cT AT) w0.heap.size mx ai ci I al cl L ab cb Bd ac cc C ag cg G w1 :=
 ⟨_, swapB_size _ _ _, h.swap hn _, swapB_ext (hl.trans h.old) hX' hX hU (heap_lt h.out) hb, hS.updOldS hU (heap_lt h.out)⟩
theorem coi_Reduce (c : Circ) (prop : Int) (w : World) (hC : CAt w c) (hg : GoodC' c.t) (hz : SzC c.t 100000) :
  Lt.Spec Try.prog 26 [c.val, .int .i64 prop] w (fun v w' => Ext w w' /\ ∃ (d : Circ) (aL aI : Option Addr) (cL cI : Nat), v = .tuple #[d.val, .slice aL (laV c.t prop).length cL, .slice aI (inV c.t prop).length cI] /\ d.t = redC c.t prop /\ CAt w' d) := by
 have z1 : c.ins.2.2.length <= 100000 := hz.1
 have z2 : c.lat.2.2.length <= 100000 := hz.2.1
 have z5 : c.cons.2.2.length <= 100000 := hz.2.2.2.2.1
 have hlaL : (laV c.t prop).length <= c.lat.2.2.length := sel_le _ _
 have hinL : (inV c.t prop).length <= c.ins.2.2.length := sel_le _ _
 refine Spec.of _ Try.func26 rfl Try.ntmps26 (by kernel_rfl) rfl ?_
 repeat' (first | (apply WL.box; (iterate 3 exact rfl); intro gc wc hb hge hc hxc; have hcc := hc; obtain ⟨h1, h2, h3, _⟩ := hc; (have hcells := hcc)) | (show WL _ _ _ (⟨some 4, .alloc _, _, _, _, _⟩ :: _) _ _ _; apply WL.alloc tOk; (iterate 3 exact rfl); intro g4 w2 hb4 hge4 hx2; have hc2 := Cells.ext hx2 hcells) | (apply WL.call (f := 73); (iterate 4 exact rfl); exact coi_Needs c prop _ (hC.ext extA) hg hz; rintro v' w3 ⟨hx3, aL, cL, aI, cI, rfl, hOL, hOI⟩; have hc3 : Cells w3 gc 0 c.vals := Cells.ext hx3 hc2; have RL3 := hOL.row eIk; have RI3 := hOI.row eIk; have hC3 := hC.ext ((hxc.trans hx2).trans hx3)) | (first | apply WL.nil | refine WL.au (k := ?_)) | apply Z.tn | (first | apply W.seq | apply W.region))
 have hXw3 : Ext w w3 := (hxc.trans hx2).trans hx3
 obtain ⟨O, hO⟩ : ∃ O, O = redF c.t prop := ⟨_, rfl⟩
 refine W.cutT (σ := Nat × World) (fun s => Ext w3 s.2 /\ ∃ (gs r caps cN cA cO cS : Nat) (ar aN aA aO aS : Option Addr), Cells s.2 s.1 0 (foldW c aN cN aA cA (.slice aS (skV c.t).length cS) (.pointer (some ⟨gs, 0, none⟩)) (.slice aO O.1.length cO)) /\ Row 1 encI s.2 aA (cNet c.t).2 /\ Row 1 encI s.2 aO O.1 /\ ∃ w0 : World, Lt.Sep w0.heap.size s.2 (stN w0.heap.size gs ar caps r O.2))
  (fun s => [(1, .int .i64 prop), (2, .pointer (some ⟨gc, 0, none⟩)), (4, .pointer (some ⟨g4, 0, none⟩)), (7, .slice aL (laV c.t prop).length cL), (8, .slice aI (inV c.t prop).length cI), (9, .pointer (some ⟨s.1, 0, none⟩))]) (fun s => s.2) ?_ ?_
 ·skip
  repeat' (first | (show W _ _ (.region 2 _ _) _ _ _; apply W.regionGX (.fl true 3 (.fl true 4 (.fl false 0 (.fl false 1 (.br 2 (.br 5 (.br 6 (.br 7 .done .stop) .stop) (.br 6 (.br 5 (.br 7 .done .stop) .stop) .stop)) (.br 6 (.br 2 (.br 5 (.br 7 .done .stop) .stop) .stop) .stop)))))) [1, 2, 5, 6] tMix; kernel_rfl) | (apply FL.loadAE (vs := c.vals) tOk; (iterate 5 exact rfl); exact hc3; exact rfl) | (apply WL.call (f := 29); (iterate 4 exact rfl); exact coi_Stuck c _ (hC3.ext extA) hg hz; rintro v' wU ⟨hxU, aS, cS, rfl, hOS⟩) | (show WL _ _ _ (⟨some 9, .alloc _, _, _, _, _⟩ :: _) _ _ _; apply WL.alloc tOk; (iterate 3 exact rfl); intro g9 wA hbA hgeA hxA) | (apply WL.call (f := 74); (iterate 4 exact rfl); exact coi_fold c (skV c.t) (laV c.t prop) (inV c.t prop) aS aL aI cS cL cI _ (hC3.ext extA) hg hz (need_ok hg prop) (by omega) (by omega) ((hOS.row eIk).ext extA) (RL3.ext extA) (RI3.ext extA); rintro v' wF ⟨hxF, aN, cN, aA, cA, gs, r, ar, caps, aO, cO, rfl, RNf, RAf, ROf, hSf, hbf⟩; replace RAf : Row 1 encI wF aA (cNet c.t).2 := RAf; have eO : foldV c.t (skV c.t) (laV c.t prop) (inV c.t prop) = O := hO.symm; rw [eO] at ROf hSf ⊢) | (show WL _ _ _ (⟨none, .store _ (.tmp 9) _, _, _, _, _⟩ :: _) _ _ _; apply WL.storeB (w0 := w3) tOk; (iterate 4 exact rfl); exact hbA; exact extA; kernel_rfl; kernel_rfl; kernel_rfl; exact extA; exact Nat.le_trans (Below.size extA) hgeA; intro w6 hb9 hc9 hX9 hU9; have hA9 : ∀ k, (blk aN = some k ∨ blk aA = some k ∨ blk aO = some k) -> k < wF.heap.size /\ k ≠ g9 := (fun k hk => by have e1 := hbf k hk; refine ⟨e1.2, fun he => ?_⟩; first | (have e2 := Nat.lt_of_lt_of_le (heap_lt hbA) (Nat.le_trans (Below.size (show Ext wA _ from extA)) e1.1); omega) | (have e2 := Nat.lt_of_lt_of_le e1.2 (Nat.le_trans (Below.size (show Ext wF _ from extA)) hgeA); omega)); have RA6 := Row.keepU (RAf.ext extA) hU9 (fun k hk => ⟨Nat.lt_of_lt_of_le (hA9 k (.inr (.inl hk))).1 (Below.size extA), (hA9 k (.inr (.inl hk))).2⟩); have RO6 := Row.keepU (ROf.ext extA) hU9 (fun k hk => ⟨Nat.lt_of_lt_of_le (hA9 k (.inr (.inr hk))).1 (Below.size extA), (hA9 k (.inr (.inr hk))).2⟩); have hS6 : ∃ w0 : World, Lt.Sep w0.heap.size w6 (stN w0.heap.size gs ar caps r O.2) := (by first | exact ⟨_, Sep.updNew hSf extA hU9 (Nat.le_trans (Below.size extA) hgeA)⟩ | exact ⟨_, Sep.oldU (hSf.ext extA) hU9 (Nat.lt_of_lt_of_le (heap_lt hbA) (Below.size extA))⟩)) | (first | (apply SX.done; intro w' hx) | (apply SX.fl0; exact rfl) | (apply SX.fl1; exact rfl; exact extA) | (apply SX.br1; exact rfl; intro w' hx) | (apply SX.br; exact rfl; (intro w' hx))) | apply FL.nilX | refine FL.au (k := ?_) | (first | (apply Z.sxL; exact rfl) | (apply Z.sxE; exact extA)) | apply WL.nil)
  all_goals
   have hXf : Ext w6 _ := (by assumption)
   exact Z.cut (g9, _) ⟨hX9.trans hXf, gs, r, caps, cN, cA, cO, cS, ar, aN, aA, aO, aS, Cells.ext hXf hc9, RA6.ext hXf, RO6.ext hXf, by obtain ⟨w0f, hS6'⟩ := hS6; exact ⟨w0f, hS6'.ext hXf⟩⟩ (by repeat' first | exact trivial | (refine And.intro ?_ ?_) | exact rfl) rfl
 rintro ⟨g9, w7⟩ ⟨hX37, gs, r, caps, cN, cA, cO, cS, ar, aN, aA, aO, aS, hf7, RA7, RO7, w0f, hS7⟩
 dsimp only at hX37 hf7 RA7 RO7 hS7 ⊢
 have hXw7 : Ext w w7 := hXw3.trans hX37
 have hc7 : Cells w7 gc 0 c.vals := Cells.ext hX37 hc3
 have hC7 := hC3.ext hX37
 have RL7 := RL3.ext hX37
 have RI7 := RI3.ext hX37
 have hb4' : ∀ w', Ext w3 w' -> w'.heap[g4]? = _ := fun w' h => (hx3.trans h).heap hb4
 clear hcells hc2 hc3 RL3 RI3
 repeat' (first | (show WL _ _ _ (⟨_, .build 27 _, _, _, _, _⟩ :: _) _ _ _; apply WL.build (cs := [.int .i64 0, .slice none 0 0, .slice none 0 0, .slice none 0 0, .slice none 0 0, .slice none 0 0, .slice none 0 0, .slice none 0 0, .string ⟨#[]⟩]) tOk; (iterate 6 exact rfl); kernel_rfl; kernel_rfl) | (apply WL.alloc tOk; (iterate 3 exact rfl); intro g10 w8 hb8 hge8 hx8) | (apply WL.storeB (w0 := w7) tOk; (iterate 4 exact rfl); assumption; exact extA; (iterate 3 exact rfl); exact extA; assumption; intro w9 hb9 hc hX9 hU; have hcc := hc; obtain ⟨h1, h2, _⟩ := hc) | (first | apply WL.nil | refine WL.au (k := ?_)) | apply Z.tn | (first | apply W.seq | apply W.region | apply W.block))
 have hb9' : w9.heap[g10]? = some (.cells (dV 0 none 0 [] none 0 [] none 0 0 none 0 [] none 0 []).toArray 27 (0, 0)) := hb9
 have hc9 : Cells w9 gc 0 c.vals := Cells.ext hX9 hc7
 have hf9 := Cells.ext hX9 hf7
 have hC9 := hC7.ext hX9
 have RL9 := RL7.ext hX9
 have RA9 := RA7.ext hX9
 have RO9 := RO7.ext hX9
 have hg10 : g10 < w9.heap.size := heap_lt hb9
 have hIO := fold_inv hg (need_ok hg prop)
 have hO1 : OwnOk c.t O.1 := by rw [hO]; exact red_ownOk hg hz
 have hflit : ∀ (l : Int), KnL c.t l -> ∀ w8 : World, Ext w9 w8 -> Pure Try.prog 75 [.agg (foldW c aN cN aA cA (.slice aS (skV c.t).length cS) (.pointer (some ⟨gs, 0, none⟩)) (.slice aO O.1.length cO)).toArray, .int .i64 l] w8 (.int .i64 (redL c.t prop l)) := fun l hl w8 h8 => by
  have h := coi_flit c aN aA aO cN cA cO (.slice aS (skV c.t).length cS) (.pointer (some ⟨gs, 0, none⟩)) O.1 hg hz hO1 l hl w8 (RA9.ext h8) (RO9.ext h8) rfl rfl
  rw [show flit c.t O.1 l = redL c.t prop l by rw [hO]; rfl] at h
  exact h
 have hnwl : (nextW c.t prop).length = (laV c.t prop).length := nextW_len
 refine W.loopO (laV c.t prop).length (fun k b cp w' => k <= (laV c.t prop).length /\ Ext w9 w' /\ Own 1 encI 3 w9.heap.size w' b cp ((nextW c.t prop).take k))
  (fun k b cp => [(1, .int .i64 prop), (2, .pointer (some ⟨gc, 0, none⟩)), (4, .pointer (some ⟨g4, 0, none⟩)), (7, .slice aL (laV c.t prop).length cL), (8, .slice aI (inV c.t prop).length cI), (9, .pointer (some ⟨g9, 0, none⟩)), (10, .pointer (some ⟨g10, 0, none⟩)), (11, .slice b ((nextW c.t prop).take k).length cp), (41, .slice aL (laV c.t prop).length cL), (42, .int .i64 (laV c.t prop).length), (43, .int .i64 k)]) none 0 ⟨Nat.zero_le _, Ext.refl _, Own.nil⟩ (fun k a cp w' h => h.1) (by repeat' first | exact trivial | (refine And.intro ?_ ?_) | exact rfl) ?_
 clear hb8 hb9 hb hU hcc h1 h2
 rintro k bW cW wk ⟨hk, hXk, hOk⟩
 have htl : ((nextW c.t prop).take k).length = k := by rw [List.length_take]; omega
 by_cases hlt : k < (laV c.t prop).length
 ·obtain ⟨j, hj⟩ := getI (laV c.t prop) hlt
  have hjb := sel_bd j (List.mem_of_getElem? hj)
  have hjb2 : j < (c.lat.2.2.length : Int) := hjb.2
  obtain ⟨t, ht⟩ := getI c.lat.2.2 (show j.toNat < c.lat.2.2.length by omega)
  have eD : latD c.t j = t := gDo ht
  have hkn := kLu hg (used_next (c := c.t) (List.mem_of_getElem? ht))
  have esk : (nextW c.t prop)[k]? = some (redL c.t prop t.2.1) := by unfold nextW; rw [List.getElem?_map, hj, <- eD]; rfl
  have eT := tkS esk
  have RLt := hC9.lat.row
  obtain ⟨_, u1, u2, _⟩ := id hc9
  repeat' (first | (apply W.cKT; exact rfl; exact dTt (by omega)) | (show W _ _ (.region 8 _ _) _ _ _; apply W.regionG (.fl true 0 (.fl true 2 (.fl true 4 (.fl false 1 (.fl false 3 (.fl true 5 (.fl true 6 (.fl false 7 (.br 8 (.br 9 (.br 10 (.fl true 11 .done) .stop) .stop) .stop))))))))) [3, 5, 6, 7, 8, 9, 10] (Ext w9) tMix; kernel_rfl) | (apply WL.callP (f := 75); (iterate 4 exact rfl); exact hflit t.2.1 hkn _ extA; intro w17 hx17) | (apply WL.lit tOk; (iterate 6 exact rfl); kernel_rfl; exact rfl; intro gb wL hb hge hc hxL) | (apply WL.ap1 (z := (redL c.t prop t.2.1)) tOk eIk; (iterate 10 exact rfl); assumption; exact extA; exact rfl; assumption; exact rfl; exact rfl; exact extA; omega; intro a' cap' w' hO hX' hU hF) | (first | apply WL.nil | refine WL.au (k := ?_) | (apply WL.index tOk; (iterate 8 exact rfl); assumption; exact extA; exact rfl; omega; assumption; intro b off h; have hcc := h; first | (obtain ⟨h1, h2, h3, h4, h5, h6, _⟩ := h) | (obtain ⟨h1, h2, h3, _⟩ := h) | (obtain ⟨h1, h2, _⟩ := h) | (obtain ⟨h1, _⟩ := h))) | (first | apply SG.done | (apply SG.fl0; exact rfl) | (apply SG.fl1; exact rfl; (focus ((intro m; first | assumption | (apply Ext.at; exact extA) | apply But.of_at; first | exact But.upd (by assumption) | exact But.ext extA | (refine But.trans ?_ (But.upd (by assumption)); exact But.ext extA) | exact But.at _ _ _); done))) | (apply SG.br1; exact rfl)) | (first | (apply FL.loadE tOk; (iterate 5 exact rfl); assumption) | (apply FL.loadAE tOk; (iterate 5 exact rfl); assumption; exact rfl) | (apply FL.indexE tOk; (iterate 8 exact rfl); assumption; exact rfl; omega; assumption; intro b off h; have hcc := h; first | (obtain ⟨h1, h2, h3, h4, h5, h6, _⟩ := h) | (obtain ⟨h1, h2, h3, _⟩ := h) | (obtain ⟨h1, h2, _⟩ := h) | (obtain ⟨h1, _⟩ := h))) | (first | apply FL.nilS | refine FL.au (k := ?_)) | (apply Z.sgE; (focus ((intro m; first | assumption | (apply Ext.at; exact extA) | apply But.of_at; first | exact But.upd (by assumption) | exact But.ext extA | (refine But.trans ?_ (But.upd (by assumption)); exact But.ext extA) | exact But.at _ _ _); done))) | (first | apply Z.tn | apply Z.bkn) | (first | apply W.seq | apply W.region | apply W.block | apply W.skip))
  all_goals exact Z.agO a' cap' ⟨by omega, extA, by rw [eT]; exact hO.ext extA⟩ (by repeat' first | exact trivial | (refine And.intro ?_ ?_) | exact rfl | (rw [eT]; exact rfl))
 obtain rfl : k = (laV c.t prop).length := by omega
 have e1 : (nextW c.t prop).take (laV c.t prop).length = nextW c.t prop := by rw [<- hnwl, List.take_length]
 rw [e1] at hOk htl ⊢
 have hkb := bad_kn (c := c.t) hg prop
 obtain ⟨xb, hxb⟩ : ∃ xb, xb = redL c.t prop (badL c.t prop) := ⟨_, rfl⟩
 have hflb := hflit (badL c.t prop) hkb
 rw [<- hxb] at hflb
 repeat' (first | (apply W.cKF; exact rfl; exact dFf (by omega)) | (first | apply WL.nil | refine WL.au (k := ?_)) | (first | apply Z.tn | apply Z.tnx | apply Z.bkx) | (first | apply W.seq | apply W.region | apply W.exit))
 refine W.cutT (σ := Option Addr × Nat × World) (fun s => Ext w9 s.2.2 /\ Own 1 encI 3 w9.heap.size s.2.2 s.1 s.2.1 (nextW c.t prop ++ [xb]))
  (fun s => [(2, .pointer (some ⟨gc, 0, none⟩)), (4, .pointer (some ⟨g4, 0, none⟩)), (7, .slice aL (laV c.t prop).length cL), (8, .slice aI (inV c.t prop).length cI), (9, .pointer (some ⟨g9, 0, none⟩)), (10, .pointer (some ⟨g10, 0, none⟩)), (11, .slice s.1 (nextW c.t prop ++ [xb]).length s.2.1)]) (fun s => s.2.2) ?_ ?_
 ·skip
  repeat' (first | (show W _ _ (.region 10 _ _) _ _ _; apply W.regionG (.fl true 0 (.fl true 3 (.fl false 1 (.fl false 2 (.br 4 (.br 5 (.br 6 (.br 7 (.fl true 8 .done) .stop) .stop) .stop) .stop))))) [2, 4, 5, 6, 7] (Ext w9) tMix; kernel_rfl) | (apply WL.callP (f := 76); (iterate 4 exact rfl); exact coi_bad c prop _ (hC9.ext (hXk.trans extA)); intro w15 hx15) | (apply WL.callP (f := 75); (iterate 4 exact rfl); exact hflb _ (hXk.trans extA); intro w17 hx17) | (apply WL.lit tOk; (iterate 6 exact rfl); kernel_rfl; exact rfl; intro gb wL hb hge hc hxL) | (apply WL.ap1 (z := (xb)) tOk eIk; (iterate 10 exact rfl); assumption; exact extA; exact rfl; assumption; exact rfl; exact rfl; exact extA; omega; intro a' cap' w' hO hX' hU hF) | apply WL.nil | (first | apply SG.done | (apply SG.fl0; exact rfl) | (apply SG.fl1; exact rfl; (focus ((intro m; first | assumption | (apply Ext.at; exact extA) | apply But.of_at; first | exact But.upd (by assumption) | exact But.ext extA | (refine But.trans ?_ (But.upd (by assumption)); exact But.ext extA) | exact But.at _ _ _); done))) | (apply SG.br1; exact rfl)) | (apply FL.loadAE tOk; (iterate 5 exact rfl); assumption; exact rfl) | (first | apply FL.nilS | refine FL.au (k := ?_)) | (apply Z.sgE; (focus ((intro m; first | assumption | (apply Ext.at; exact extA) | apply But.of_at; first | exact But.upd (by assumption) | exact But.ext extA | (refine But.trans ?_ (But.upd (by assumption)); exact But.ext extA) | exact But.at _ _ _); done))))
  all_goals exact Z.cut (a', cap', _) ⟨extA, hO.ext extA⟩ (by repeat' first | exact trivial | (refine And.intro ?_ ?_) | exact rfl) rfl
 clear hOk hXk htl
 rintro ⟨bB, cB, wb⟩ ⟨hXb, hOb⟩
 dsimp only at hXb hOb ⊢
 have hkc : ∀ l ∈ c.cons.2.2, KnL c.t l := fun l hl => kLu hg (used_con (c := c.t) hl)
 have eSt : c.cons.2.2.map (flit c.t O.1) = c.cons.2.2.map (redL c.t prop) := by rw [hO]; rfl
 obtain ⟨wt, hwt⟩ : ∃ wt, wt = wantW c.t prop := ⟨_, rfl⟩
 have ewt : nextW c.t prop ++ [xb] ++ c.cons.2.2.map (redL c.t prop) = wt := by rw [hwt, hxb]; unfold wantW; rw [List.append_assoc]; rfl
 have hwl : wt.length = (laV c.t prop).length + 1 + c.cons.2.2.length := by rw [<- ewt]; simp only [List.length_append, List.length_map, List.length_cons, List.length_nil, hnwl]
 have hRC := fun (w8 : World) (h8 : Ext w9 w8) => (hC9.ext h8).cons.row
 have hRA := fun (w8 : World) (h8 : Ext w9 w8) => RA9.ext h8
 have hRO := fun (w8 : World) (h8 : Ext w9 w8) => RO9.ext h8
 have hcb := Cells.ext hXb hc9
 have hfb := Cells.ext hXb hf9
 obtain ⟨_, _, _, _, _, u5, _⟩ := id hcb
 repeat' (first | (apply WL.call (f := 77); (iterate 4 exact rfl); exact coi_fall c aN aA aO c.cons.1 cN cA cO c.cons.2.1 (.slice aS (skV c.t).length cS) (.pointer (some ⟨gs, 0, none⟩)) O.1 c.cons.2.2 hg hz hO1 hkc (by omega) _ (hRA _ (hXb.trans extA)) (hRO _ (hXb.trans extA)) (hRC _ (hXb.trans extA)) rfl rfl; rintro v' w12 ⟨hx12, aD, cD, rfl, hOD⟩; rw [eSt] at hOD ⊢; have RD := hOD.row eIk; have nD := hOD.nCp) | (show WL _ _ _ (⟨some 72, _, _, _, _, _⟩ :: _) _ _ _; apply WL.appendS (w0 := w9) tOk eIk; (iterate 10 exact rfl); exact hOb; exact extA; exact rfl; exact RD; exact extA; exact rfl; exact nD; exact rfl; exact (hXb.trans extA); (simp only [List.length_append, List.length_map, List.length_cons, List.length_nil, hnwl]; omega); intro aW cW wW hOW hXW hUW hFW; rw [ewt] at hOW ⊢; have RW := hOW.row eIk; have nW := hOW.nCp) | (apply WL.call (f := 78); (iterate 4 exact rfl); exact slices_CloneI aW cW wt _ (RW.ext extA) nW (by omega); rintro v' wK ⟨hxK, aK, cK, rfl, hOK⟩) | (first | apply WL.nil | refine WL.au (k := ?_)) | apply Z.tn | (first | apply W.seq | apply W.region | apply W.block))
 have hXW' : Ext w9 wW := hXW
 clear hXb hOb hcb hfb u5 RD nD hOD hUW hFW
 have hfirst : firstW c.t prop = (inV c.t prop).length + (laV c.t prop).length := rfl
 have hev0 : wt ++ evenL 0 0 = wt := by simp [evenL]
 have hOK0 : Own 1 encI 3 wW.heap.size wK aK cK (wt ++ evenL 0 0) := by rw [hev0]; exact hOK
 refine W.loopO (firstW c.t prop) (fun k b cp w' => k <= firstW c.t prop /\ Ext wW w' /\ Own 1 encI 3 wW.heap.size w' b cp (wt ++ evenL 0 k))
  (fun k b cp => [(2, .pointer (some ⟨gc, 0, none⟩)), (4, .pointer (some ⟨g4, 0, none⟩)), (7, .slice aL (laV c.t prop).length cL), (8, .slice aI (inV c.t prop).length cI), (9, .pointer (some ⟨g9, 0, none⟩)), (10, .pointer (some ⟨g10, 0, none⟩)), (11, .slice aW wt.length cW), (14, .int .i64 (((inV c.t prop).length : Int) + ((laV c.t prop).length : Int))), (15, .slice b (wt ++ evenL 0 k).length cp), (80, .int .i64 (((inV c.t prop).length : Int) + ((laV c.t prop).length : Int))), (81, .int .i64 k)]) aK cK ⟨Nat.zero_le _, hxK, hOK0⟩ (fun k a cp w' h => h.1) (by repeat' first | exact trivial | (refine And.intro ?_ ?_) | exact rfl | (rw [hev0]; exact rfl)) ?_
 clear hOK0 hOK
 rintro k bK cK2 wm ⟨hk, hXm, hOm⟩
 have hkl : (wt ++ evenL 0 k).length = wt.length + k := by rw [List.length_append, evenL_len]
 by_cases hlt : k < firstW c.t prop
 ·have eT : wt ++ evenL 0 (k + 1) = wt ++ evenL 0 k ++ [2 * (k : Int) + 2] := by rw [evenL_succ, Nat.zero_add, List.append_assoc, show 2 * ((k : Int) + 1) = 2 * (k : Int) + 2 by omega]
  repeat' (first | (apply W.cKT; exact rfl; exact dTt (by omega)) | (apply WL.lit tOk; (iterate 6 exact rfl); kernel_rfl; exact rfl; intro gb w' hb hge hc hx) | (apply WL.ap1 (z := (2 * (k : Int) + 2)) tOk eIk; (iterate 10 exact rfl); assumption; exact extA; exact rfl; assumption; exact rfl; exact rfl; exact extA; omega; intro a' cap' w' hO hX' hU hF) | (first | apply WL.nil | refine WL.au (k := ?_)) | (first | apply Z.tn | apply Z.bkn) | (first | apply W.seq | apply W.region | apply W.block | apply W.skip))
  exact Z.agO a' cap' ⟨by omega, hX', by rw [eT]; exact hO⟩ (by repeat' first | exact trivial | (refine And.intro ?_ ?_) | exact rfl | (rw [eT]; exact rfl))
 obtain rfl : k = firstW c.t prop := by omega
 have eK : wt ++ evenL 0 (firstW c.t prop) = keepW c.t prop := by rw [hwt]; rfl
 rw [eK] at hOm hkl ⊢
 have RKI := hOm.row eIk
 have hX9m : Ext w9 wm := hXW'.trans hXm
 have hfm := Cells.ext hX9m hf9
 obtain ⟨_, _, _, _, _, _, _, _, _, _, _, u11, u12, u13, _⟩ := id hfm
 have hSm := hS7.ext (hX9.trans hX9m)
 have hgn : GNt O.2 := by rw [hO]; exact hIO.2.2.2.2.good
 have hrl : O.2.length <= 500000 := by rw [hO]; exact red_len (prop := prop) hg hz
 have hli : ∀ x ∈ keepW c.t prop, inI64 x := fun x hx => by
  rcases List.mem_append.1 hx with h | h
  ·have h9 := want_has hg h
   rw [hO] at hrl
   unfold hasL at h9; unfold inI64; omega
  ·have h9 := evenL_mem.1 h
   have h10 : firstW c.t prop <= 200000 := by omega
   unfold inI64; omega
 obtain ⟨CW, hCW⟩ : ∃ CW, CW = cutW c.t prop := ⟨_, rfl⟩
 obtain ⟨AT, hAT⟩ : ∃ AT, AT = atT (redF c.t prop).2 (keepP c.t prop) ((redF c.t prop).2.length + 1) := ⟨_, rfl⟩
 have hcut : ∀ (ax : Option Addr) (cx : Nat) (wx : World), Row 2 encN wx ax O.2 -> Row 1 encI wx bK (keepW c.t prop) -> Lt.Spec Try.prog 79 [.slice ax O.2.length cx, .slice bK (keepW c.t prop).length cK2] wx (IsFresh2 2 encN 105 1 encI 3 wx CW AT) := fun ax cx wx h1 h2 => by
  have h := cone_Cut ax bK cx cK2 O.2 (keepW c.t prop) wx h1 h2 hgn (by omega) hli
  have e1 : outTo O.2 (OfP O.2 (keepW c.t prop)) O.2.length = CW := by rw [hCW, hO]; rfl
  have e2 : atT O.2 (OfP O.2 (keepW c.t prop)) (O.2.length + 1) = AT := by rw [hAT, hO]; rfl
  rw [e1, e2] at h; exact h
 repeat' (first | (apply W.cKF; exact rfl; exact dFf (by omega)) | (apply WL.call (f := 62); (iterate 4 exact rfl); exact aig_NetV gs r caps ar O.2 [] wm w0f hSm (by omega); rintro v' wn ⟨hxn, aX, cX, rfl, hOX⟩; have RX := hOX.row encN_ok) | (apply WL.call (f := 79); (iterate 4 exact rfl); exact hcut aX cX _ (RX.ext extA) (RKI.ext extA); rintro v' wC ⟨hxC, aM, cM, aT, cT, rfl, hOM, hOT⟩) | (apply WL.alloc tOk; (iterate 3 exact rfl); intro g18 wd hb18 hge18 hx18) | (apply WL.storeB (w0 := wC) tOk; (iterate 4 exact rfl); assumption; exact extA; (iterate 3 exact rfl); exact extA; assumption; intro wl hbl hc hXl hU; have hcc := hc; obtain ⟨h1, h2, _⟩ := hc) | (first | apply WL.nil | refine WL.au (k := ?_)) | (first | apply Z.tn | apply Z.tnx | apply Z.bkx) | (first | apply W.seq | apply W.region | apply W.block | apply W.exit))
 have hX9n : Ext w9 wn := hX9m.trans hxn
 have hX9l : Ext w9 wl := hX9n.trans (show Ext wn wl from extA)
 have hXWl : Ext wW wl := hXm.trans (show Ext wm wl from extA)
 have hXCl : Ext wC wl := extA
 have hN : RdN w7 g10 g18 aW aM aT := by
  have e1 := Below.size hX9n
  have e2 := Below.size hxC
  exact ⟨hge8, fun h => (by have := (hOW.blk_lt g10 h).1; omega), fun h => (by have := (hOM.blk_lt g10 h).1; omega), fun h => (by have := (hOT.blk_lt g10 h).1; omega), by omega⟩
 have hcM := hOM.capLe
 have hcW := hOW.capLe
 have hRl : RdB w7 g10 g18 aW wt aM CW aT cT AT (dV 0 none 0 (evenL 0 0) none 0 [] none 0 0 none 0 [] none 0 []) wl := ⟨hX9.trans hX9l, RW.ext hXWl, (hOM.row encN_ok).ext hXCl, (cHp hbl).1, (hOT.row eIk).ext hXCl, hX9l.heap hb9'⟩
 obtain ⟨B, hB⟩ : ∃ B, B = wl.heap.size := ⟨_, rfl⟩
 have hst0 : OutS (RdB w7 g10 g18 aW wt aM CW aT cT AT) B 0 none 0 (evenL 0 0) none 0 [] none 0 [] none 0 [] none 0 [] wl := by
  rw [hB]
  exact ⟨wl, rfl, hRl, Ext.refl _, Sep.newRow (Sep.newRow (Sep.newRow (Sep.newRow (Sep.newRow (Sep.none' (B := wl.heap.size) (w := wl)) (Ext.refl _) Own.nil (fun k hk => by cases hk) (Nat.le_refl _)) (Ext.refl _) Own.nil (fun k hk => by cases hk) (Nat.le_refl _)) (Ext.refl _) Own.nil (fun k hk => by cases hk) (Nat.le_refl _)) (Ext.refl _) Own.nil (fun k hk => by cases hk) (Nat.le_refl _)) (Ext.refl _) Own.nil (fun k hk => by cases hk) (Nat.le_refl _)⟩
 have hg10w : w.heap.size <= g10 := Nat.le_trans (Below.size hXw7) hge8
 have hclo : ∀ (V : List Value) (wz : World), RdB w7 g10 g18 aW wt aM CW aT cT AT V wz -> ∀ x ∈ wt, ∀ w9 : World, Ext wz w9 -> Still Try.prog 80 ([.int .i64 x] ++ [.pointer (some ⟨g18, 0, none⟩)]) w9 (.int .i64 (nowL c.t prop x)) := fun V wz hR x hxm w9 h9 => coi_Reduce1 g18 cT aT c.t prop hg hz x (by rw [<- hwt]; exact hxm) w9 (by rw [<- hAT]; exact h9.cell hR.c18) (by rw [<- hAT]; exact hR.rat.ext h9)
 refine W.loopW (inV c.t prop).length (fun k w' => k <= (inV c.t prop).length /\ ∃ (ai : Option Addr) (ci : Nat), OutS (RdB w7 g10 g18 aW wt aM CW aT cT AT) B 0 ai ci (evenL 0 k) none 0 [] none 0 [] none 0 [] none 0 [] w')
  (fun k => [(2, .pointer (some ⟨gc, 0, none⟩)), (4, .pointer (some ⟨g4, 0, none⟩)), (7, .slice aL (laV c.t prop).length cL), (8, .slice aI (inV c.t prop).length cI), (10, .pointer (some ⟨g10, 0, none⟩)), (11, .slice aW wt.length cW), (14, .int .i64 (((inV c.t prop).length : Int) + ((laV c.t prop).length : Int))), (17, .slice aM CW.length cM), (19, fnv 80 [.pointer (some ⟨g18, 0, none⟩)]), (101, .int .i64 (inV c.t prop).length), (102, .int .i64 k)]) ⟨Nat.zero_le _, none, 0, hst0⟩ (fun k w' h => h.1) (by repeat' first | exact trivial | (refine And.intro ?_ ?_) | exact rfl) ?_
 clear hst0 hRl hB hbl hb18 hge18 hOM hOT hOX RX RKI hOm hfm hSm hkl u11 u12 u13 hcut RL9 RA9 RO9 hf9 hf7 RA7 RO7 hS7 hOW hX9l hXWl hXCl hX9n hcc h1 h2 hli hRC hRA hRO hflit hflb hC9 hc9
 rintro k wq ⟨hk, ai, ci, w0, hsz, hR, hXq, hS⟩
 have hel := evenL_len 0 k
 by_cases hlt : k < (inV c.t prop).length
 ·subst hsz
  have eT : evenL 0 (k + 1) = evenL 0 k ++ [2 * (k : Int) + 2] := by rw [evenL_succ, Nat.zero_add, show 2 * ((k : Int) + 1) = 2 * (k : Int) + 2 by omega]
  have hRg := hS.row (i := 0) rfl
  have hout := hR.out
  have hXw0 : Ext w w0 := hXw7.trans hR.old
  obtain ⟨n0, n1, n2, _⟩ := cHp hR.out
  repeat' (first | (apply W.cKT; exact rfl; exact dTt (by omega)) | (apply WL.lit tOk; (iterate 6 exact rfl); kernel_rfl; exact rfl; intro gb w' hb hge hc hx) | (apply WL.ap1 (z := (2 * (k : Int) + 2)) tOk eIk; (iterate 10 exact rfl); assumption; exact extA; exact rfl; assumption; exact rfl; exact rfl; exact extA; omega; intro aZ cZ wA hO hXA hU hF; (replace hS := Sep.uRw (i := 0) rfl hU hO hF hS extA (by (exact Below.size extA))); (try simp only [List.set_cons_zero, List.set_cons_succ] at hS); (try have hR0 := hS.row (i := 0) rfl); (try have hR1 := hS.row (i := 1) rfl); (try have hR2 := hS.row (i := 2) rfl); (try have hR3 := hS.row (i := 3) rfl); (try have hR4 := hS.row (i := 4) rfl)) | (apply WL.storeF (w0 := w) tOk; (iterate 4 exact rfl); exact hout; exact extA; (iterate 4 exact rfl); exact extA; exact hg10w; intro w' hb hX' hU) | (first | apply WL.nil | refine WL.au (k := ?_)) | (first | apply Z.tn | apply Z.bkn) | (first | apply W.seq | apply W.region | apply W.block | apply W.skip))
  exact Z.agW ⟨by omega, aZ, cZ, by rw [eT]; exact OutS.up hR hN hXw7 hX' (show Ext w0 wA from extA) hU hb hS⟩ (by repeat' first | exact trivial | (refine And.intro ?_ ?_) | exact rfl | (rw [eT]; exact rfl))
 obtain rfl : k = (inV c.t prop).length := by omega
 obtain ⟨LL, hLL⟩ : ∃ LL, LL = latsG (inV c.t prop).length ((nextW c.t prop).map (nowL c.t prop)) (resW c.t prop) := ⟨_, rfl⟩
 have hLLl : LL.length = (laV c.t prop).length := by rw [hLL, latsG_len, List.length_map, hnwl]
 repeat' (first | (apply W.cKF; exact rfl; exact dFf (by omega)) | (first | apply WL.nil | refine WL.au (k := ?_)) | (first | apply Z.tn | apply Z.tnx | apply Z.bkx) | (first | apply W.seq | apply W.region | apply W.block | apply W.exit))
 refine W.loopW (laV c.t prop).length (fun k w' => k <= (laV c.t prop).length /\ ∃ (al : Option Addr) (cl : Nat), OutS (RdB w7 g10 g18 aW wt aM CW aT cT AT) B 0 ai ci (evenL 0 (inV c.t prop).length) al cl (LL.take k) none 0 [] none 0 [] none 0 [] w')
  (fun k => [(2, .pointer (some ⟨gc, 0, none⟩)), (4, .pointer (some ⟨g4, 0, none⟩)), (7, .slice aL (laV c.t prop).length cL), (8, .slice aI (inV c.t prop).length cI), (10, .pointer (some ⟨g10, 0, none⟩)), (11, .slice aW wt.length cW), (14, .int .i64 (((inV c.t prop).length : Int) + ((laV c.t prop).length : Int))), (17, .slice aM CW.length cM), (19, fnv 80 [.pointer (some ⟨g18, 0, none⟩)]), (114, .slice aL (laV c.t prop).length cL), (115, .int .i64 (laV c.t prop).length), (116, .int .i64 k)]) ⟨Nat.zero_le _, none, 0, w0, hsz, hR, hXq, hS⟩ (fun k w' h => h.1) (by repeat' first | exact trivial | (refine And.intro ?_ ?_) | exact rfl) ?_
 clear hS hXq hel hR hsz
 clear w0
 rintro k wq ⟨hk, al, cl, w0, hsz, hR, hXq, hS⟩
 have hel := evenL_len 0 (inV c.t prop).length
 have htl : (LL.take k).length = k := by rw [List.length_take]; omega
 by_cases hlt : k < (laV c.t prop).length
 ·subst hsz
  obtain ⟨j, hj⟩ := getI (laV c.t prop) hlt
  have hjb := sel_bd j (List.mem_of_getElem? hj)
  have hjb2 : j < (c.lat.2.2.length : Int) := hjb.2
  obtain ⟨t, ht⟩ := getI c.lat.2.2 (show j.toNat < c.lat.2.2.length by omega)
  have eD : latD c.t j = t := gDo ht
  obtain ⟨x, hx⟩ := getI (nextW c.t prop) (show k < (nextW c.t prop).length by omega)
  have hxw : wt[k]? = some x := by rw [hwt]; unfold wantW; rw [List.getElem?_append_left (by omega)]; exact hx
  have hxm : x ∈ wt := List.mem_of_getElem? hxw
  have hwk : k < wt.length := lGt hxw
  obtain ⟨r, hr⟩ : ∃ r, r = if 1 < t.2.2 then 2 * ((((inV c.t prop).length + k : Nat) : Int) + 1) else t.2.2 := ⟨_, rfl⟩
  have hLk : LL[k]? = some (2 * (((inV c.t prop).length : Int) + (k : Int) + 1), nowL c.t prop x, r) := by
   rw [hLL, latsG_get (by rw [List.length_map]; omega)]
   have e2 : ((nextW c.t prop).map (nowL c.t prop)).getD k 0 = nowL c.t prop x := gDo (by rw [List.getElem?_map, hx]; rfl)
   have e3 : (resW c.t prop).getD k 0 = r := gDo (by unfold resW; rw [tab_get _ hlt, gDo hj, eD, hr])
   rw [e2, e3, show (((inV c.t prop).length + k : Nat) : Int) = ((inV c.t prop).length : Int) + (k : Int) by omega]
  have eT := tkS hLk
  have hXw0 : Ext w w0 := hXw7.trans hR.old
  have hX7q : Ext w7 wq := hR.old.trans hXq
  have RLt := (hC7.ext hX7q).lat.row
  have RWq := hR.rwt.ext hXq
  have RLq := RL7.ext hX7q
  obtain ⟨_, u1, u2, _⟩ := Cells.ext hX7q hc7
  repeat' (first | (apply W.cKT; exact rfl; exact dTt (by omega)) | (first | apply WL.nil | refine WL.au (k := ?_) | (apply WL.index tOk; (iterate 8 exact rfl); assumption; exact extA; exact rfl; omega; assumption; intro b off h; have hcc := h; first | (obtain ⟨h1, h2, h3, h4, h5, h6, _⟩ := h) | (obtain ⟨h1, h2, h3, _⟩ := h) | (obtain ⟨h1, h2, _⟩ := h) | (obtain ⟨h1, _⟩ := h))) | apply Z.tn | (first | apply W.seq | apply W.region | apply W.block | apply W.skip))
  refine W.cutT (σ := Nat × World) (fun s => Ext w0 s.2 /\ Lt.Sep w0.heap.size s.2 (pcell s.1 #[.int .i64 (2 * (((inV c.t prop).length : Int) + (k : Int) + 1)), .int .i64 (nowL c.t prop x), .int .i64 t.2.2] 87 :: dQ w0.heap.size ai ci (evenL 0 (inV c.t prop).length) al cl (LL.take k) none 0 [] none 0 [] none 0 [])) (fun s => [(2, .pointer (some ⟨gc, 0, none⟩)), (4, .pointer (some ⟨g4, 0, none⟩)), (7, .slice aL (laV c.t prop).length cL), (8, .slice aI (inV c.t prop).length cI), (10, .pointer (some ⟨g10, 0, none⟩)), (11, .slice aW wt.length cW), (14, .int .i64 (((inV c.t prop).length : Int) + ((laV c.t prop).length : Int))), (17, .slice aM CW.length cM), (19, fnv 80 [.pointer (some ⟨g18, 0, none⟩)]), (114, .slice aL (laV c.t prop).length cL), (115, .int .i64 (laV c.t prop).length), (116, .int .i64 k), (23, .pointer (some ⟨s.1, 0, none⟩))]) (fun s => s.2) ?_ ?_
  ·repeat' (first | (show W _ _ (.region 29 _ _) _ _ _; apply W.regionG (.fl true 0 (.fl true 1 (.fl true 2 (.fl true 3 (.fl true 4 (.fl true 5 (.fl true 6 (.fl true 7 (.fl true 8 (.fl true 9 (.fl true 12 (.fl true 14 (.fl false 10 (.fl false 13 (.fl true 15 (.fl true 16 (.fl false 17 (.br 11 (.fl true 18 (.br 19 (.br 20 .done .stop) .stop)) (.br 19 (.br 11 (.fl true 18 (.br 20 .done .stop)) .stop) .stop))))))))))))))))))) [11, 13, 15, 16, 17, 18, 19] (Ext wq) tMix; kernel_rfl) | (apply WL.alloc tOk; (iterate 3 exact rfl); intro g22 wa hb hge22 hxa) | (show WL _ _ _ (⟨_, .call ⟨.value (.tmp _), _, _⟩, _, _, _, _⟩ :: _) _ _ _; apply WL.callS; (iterate 4 exact rfl); exact hclo _ _ hR x hxm _ (hXq.trans extA)) | (show FL _ _ _ _ (⟨_, .build 87 _, _, _, _, _⟩ :: _) _ _ _; apply FL.build (cs := [.int .i64 (2 * (((inV c.t prop).length : Int) + (k : Int) + 1)), .int .i64 (nowL c.t prop x), .int .i64 t.2.2]) tOk; (iterate 6 exact rfl); kernel_rfl; kernel_rfl) | (apply WL.storeB (w0 := wq) tOk; (iterate 4 exact rfl); assumption; exact extA; (iterate 3 exact rfl); exact extA; assumption; intro wb hb22 hc hX22 hU; have hcc := hc; obtain ⟨h1, h2, _⟩ := hc) | apply WL.nil | (first | apply SG.done | (apply SG.fl0; exact rfl) | (apply SG.fl1; exact rfl; (focus ((intro m; first | assumption | (apply Ext.at; exact extA) | apply But.of_at; first | exact But.upd (by assumption) | exact But.ext extA | (refine But.trans ?_ (But.upd (by assumption)); exact But.ext extA) | exact But.at _ _ _); done))) | (apply SG.br1; exact rfl) | (apply SG.br; exact rfl)) | (first | (apply FL.loadE tOk; (iterate 5 exact rfl); assumption) | (apply FL.indexE tOk; (iterate 8 exact rfl); assumption; exact rfl; omega; assumption; intro b off h; have hcc := h; first | (obtain ⟨h1, h2, h3, h4, h5, h6, _⟩ := h) | (obtain ⟨h1, h2, h3, _⟩ := h) | (obtain ⟨h1, h2, _⟩ := h) | (obtain ⟨h1, _⟩ := h))) | (first | apply FL.nilS | refine FL.au (k := ?_)) | (first | (apply Z.sgL; exact rfl) | (apply Z.sgE; (focus ((intro m; first | assumption | (apply Ext.at; exact extA) | apply But.of_at; first | exact But.upd (by assumption) | exact But.ext extA | (refine But.trans ?_ (But.upd (by assumption)); exact But.ext extA) | exact But.at _ _ _); done)))))
   all_goals exact Z.cut (g22, wb) ⟨hXq.trans hX22, Sep.newCell hS hX22 hb22 hge22 (Below.size hXq)⟩ ⟨rfl, rfl, rfl, rfl, rfl, rfl, rfl, rfl, rfl, rfl, rfl, rfl, rfl, trivial⟩ rfl
  rintro ⟨g22, wa⟩ ⟨hXa, hSa⟩
  dsimp only at hXa hSa ⊢
  have hg22 : w0.heap.size <= g22 := (hSa.lt (i := 0) rfl rfl).1
  apply W.seq
  refine W.cutT (σ := World) (fun s => Ext w0 s /\ Lt.Sep w0.heap.size s (pcell g22 #[.int .i64 (2 * (((inV c.t prop).length : Int) + (k : Int) + 1)), .int .i64 (nowL c.t prop x), .int .i64 r] 87 :: dQ w0.heap.size ai ci (evenL 0 (inV c.t prop).length) al cl (LL.take k) none 0 [] none 0 [] none 0 [])) (fun s => [(2, .pointer (some ⟨gc, 0, none⟩)), (4, .pointer (some ⟨g4, 0, none⟩)), (7, .slice aL (laV c.t prop).length cL), (8, .slice aI (inV c.t prop).length cI), (10, .pointer (some ⟨g10, 0, none⟩)), (11, .slice aW wt.length cW), (14, .int .i64 (((inV c.t prop).length : Int) + ((laV c.t prop).length : Int))), (17, .slice aM CW.length cM), (19, fnv 80 [.pointer (some ⟨g18, 0, none⟩)]), (114, .slice aL (laV c.t prop).length cL), (115, .int .i64 (laV c.t prop).length), (116, .int .i64 k), (23, .pointer (some ⟨g22, 0, none⟩))]) (fun s => s) ?_ ?_
  ·have hC0 := hSa.cell (i := 0) rfl
   obtain ⟨i0, i1, i2, _⟩ := cHp (hSa.cell (i := 0) rfl)
   by_cases h1 : 1 < t.2.2
   ·rw [if_pos h1, show (((inV c.t prop).length + k : Nat) : Int) = ((inV c.t prop).length : Int) + (k : Int) by omega] at hr
    have hS := hSa
    repeat' (first | (apply W.cKT; exact rfl; exact dTt (by omega)) | (apply WL.storeF (w0 := w0) tOk; (iterate 4 exact rfl); assumption; exact extA; (iterate 4 exact rfl); exact extA; assumption; intro w' hb hX' hU; replace hS := Sep.uCl (i := 0) rfl hU hb hS extA (by (exact Below.size extA)); (try simp only [List.set_cons_zero, List.set_cons_succ] at hS); (try have hR1 := hS.row (i := 1) rfl); (try have hR2 := hS.row (i := 2) rfl); (try have hR3 := hS.row (i := 3) rfl); (try have hR4 := hS.row (i := 4) rfl); (try have hC0 := hS.cell (i := 0) rfl); (try have hD0 := (cHp hC0).1); (try have hE0 := (cHp hC0).2.1); (try have hF0 := (cHp hC0).2.2.1)) | (first | apply WL.nil | refine WL.au (k := ?_)) | apply Z.tn | (first | apply W.seq | apply W.region))
    exact Z.cut w' ⟨extA, by rw [hr]; exact hS⟩ ⟨rfl, rfl, rfl, rfl, rfl, rfl, rfl, rfl, rfl, rfl, rfl, rfl, rfl, trivial⟩ rfl
   ·rw [if_neg h1] at hr
    repeat' (first | (apply W.cKF; exact rfl; exact dFf (by omega)) | (first | apply WL.nil | refine WL.au (k := ?_)) | apply Z.tn | (first | apply W.seq | apply W.region | apply W.skip))
    exact Z.cut wa ⟨hXa, by rw [hr]; exact hSa⟩ ⟨rfl, rfl, rfl, rfl, rfl, rfl, rfl, rfl, rfl, rfl, rfl, rfl, rfl, trivial⟩ rfl
  clear hS hSa hXa
  rintro wa ⟨hXa, hS⟩
  have hR2 := hS.row (i := 2) rfl
  have hC0 := hS.cell (i := 0) rfl
  have hC0' := cHp (hS.cell (i := 0) rfl)
  have hout := hR.out
  obtain ⟨n0, n1, n2, n3, _⟩ := cHp hR.out
  repeat' (first | (apply WL.lit tOk; (iterate 6 exact rfl); kernel_rfl; exact rfl; intro gb w' hb hge hc hx) | (apply WL.ap1 (z := (((2 * (((inV c.t prop).length : Int) + (k : Int) + 1), nowL c.t prop x, r) : T3))) tOk enc3_ok; (iterate 10 exact rfl); assumption; exact extA; exact rfl; assumption; exact rfl; exact rfl; exact extA; omega; intro aZ cZ wA hO hXA hU hF; (replace hS := Sep.uRw (i := 2) rfl hU hO hF hS extA (by (exact Below.size extA))); (try simp only [List.set_cons_zero, List.set_cons_succ] at hS); (try have hR1 := hS.row (i := 1) rfl); (try have hR2 := hS.row (i := 2) rfl); (try have hR3 := hS.row (i := 3) rfl); (try have hR4 := hS.row (i := 4) rfl); (try have hC0 := hS.cell (i := 0) rfl); (try have hD0 := (cHp hC0).1); (try have hE0 := (cHp hC0).2.1); (try have hF0 := (cHp hC0).2.2.1)) | (apply WL.storeF (w0 := w) tOk; (iterate 4 exact rfl); exact hout; exact extA; (iterate 4 exact rfl); exact extA; exact hg10w; intro w' hb hX' hU) | (first | apply WL.nil | refine WL.au (k := ?_)) | (first | apply Z.tn | apply Z.bkn) | apply W.region)
  exact Z.agW ⟨by omega, aZ, cZ, by rw [eT]; exact OutS.up hR hN hXw7 hX' (show Ext w0 wA from extA) hU hb (hS.drop 1)⟩ (by repeat' first | exact trivial | (refine And.intro ?_ ?_) | exact rfl | (rw [eT]; exact rfl))
 obtain rfl : k = (laV c.t prop).length := by omega
 rw [show LL.take (laV c.t prop).length = LL from by rw [<- hLLl, List.take_length]] at hS hR
 clear htl
 have hro := red_ok (prop := prop) hg hz
 have hfo : (inV c.t prop).length + ((nextW c.t prop).map (nowL c.t prop)).length = firstW c.t prop := by rw [List.length_map, hnwl]; rfl
 have hle : firstW c.t prop <= CW.length := by have h9 := hro.only.le; rw [hfo] at h9; rw [hCW]; exact h9
 obtain ⟨GG, hGG⟩ : ∃ GG, GG = gatesG CW (firstW c.t prop) (CW.length - firstW c.t prop) := ⟨_, rfl⟩
 have hGGl : GG.length = CW.length - firstW c.t prop := by rw [hGG, gatesG_len]
 have hCl : CW.length <= 1048576 := by have h9 := cutW_len (prop := prop) hg hz; rw [hCW]; omega
 have hfn : (((inV c.t prop).length : Int) + ((laV c.t prop).length : Int)).toNat = firstW c.t prop := by rw [hfirst]; omega
 obtain ⟨SD, hSD⟩ : ∃ S, S = CW.drop (firstW c.t prop) := ⟨_, rfl⟩
 have hdl : CW.length - firstW c.t prop = SD.length := by rw [hSD, List.length_drop]
 repeat' (first | (apply W.cKF; exact rfl; exact dFf (by omega)) | (apply WL.sliceLO tOk; (iterate 8 exact rfl); omega) | (first | apply WL.nil | refine WL.au (k := ?_)) | (first | apply Z.tn | apply Z.tnx | apply Z.bkx) | (first | apply W.seq | apply W.region | apply W.block | apply W.exit))
 rw [hfn, hdl]
 obtain ⟨aS2, haS⟩ : ∃ a, a = subA aM cM (firstW c.t prop) 2 := ⟨_, rfl⟩
 obtain ⟨cS2, hcS⟩ : ∃ a, a = cM - firstW c.t prop := ⟨_, rfl⟩
 rw [<- haS, <- hcS]
 have hRS : ∀ w9, Row 2 encN w9 aM CW -> Row 2 encN w9 aS2 SD := fun w9 h9 => by rw [haS, hSD]; exact h9.dropAt _ _ hcM
 refine W.loopW SD.length (fun k w' => k <= SD.length /\ ∃ (ag : Option Addr) (cg : Nat), OutS (RdB w7 g10 g18 aW wt aM CW aT cT AT) B 0 ai ci (evenL 0 (inV c.t prop).length) al cl LL none 0 [] none 0 [] ag cg (GG.take k) w')
  (fun k => [(2, .pointer (some ⟨gc, 0, none⟩)), (4, .pointer (some ⟨g4, 0, none⟩)), (7, .slice aL (laV c.t prop).length cL), (8, .slice aI (inV c.t prop).length cI), (10, .pointer (some ⟨g10, 0, none⟩)), (11, .slice aW wt.length cW), (14, .int .i64 (((inV c.t prop).length : Int) + ((laV c.t prop).length : Int))), (17, .slice aM CW.length cM), (19, fnv 80 [.pointer (some ⟨g18, 0, none⟩)]), (155, .slice aS2 SD.length cS2), (156, .int .i64 SD.length), (157, .int .i64 k)]) ⟨Nat.zero_le _, none, 0, w0, hsz, hR, hXq, hS⟩ (fun k w' h => h.1) (by repeat' first | exact trivial | (refine And.intro ?_ ?_) | exact rfl) ?_
 clear hS hXq hR hsz
 clear w0
 rintro k wq ⟨hk, ag, cg, w0, hsz, hR, hXq, hS⟩
 have htl : (GG.take k).length = k := by rw [List.length_take]; omega
 by_cases hlt : k < SD.length
 ·subst hsz
  obtain ⟨x, hx⟩ := getI CW (show firstW c.t prop + k < CW.length by omega)
  have hxs : SD[k]? = some x := by rw [hSD, List.getElem?_drop]; exact hx
  have hGk : GG[k]? = some (2 * (((inV c.t prop).length : Int) + ((laV c.t prop).length : Int) + (k : Int) + 1), max x.1 x.2, min x.1 x.2) := by
   rw [hGG, gatesG_get (show k < CW.length - firstW c.t prop by omega) hx]
   show some (2 * (((firstW c.t prop + k : Nat) : Int) + 1), _, _) = _
   rw [show 2 * (((firstW c.t prop + k : Nat) : Int) + 1) = 2 * (((inV c.t prop).length : Int) + ((laV c.t prop).length : Int) + (k : Int) + 1) by omega]
  have eT := tkS hGk
  have hXw0 : Ext w w0 := hXw7.trans hR.old
  have RSq := hRS wq (hR.rnt.ext hXq)
  have hout := hR.out
  obtain ⟨n0, n1, n2, n3, n4, n5, n6, _⟩ := cHp hR.out
  repeat' (first | (apply W.cKT; exact rfl; exact dTt (by omega)) | (apply WL.alloc tOk; (iterate 3 exact rfl); intro g25 wa hba hge25 hxa) | (apply WL.storeB (w0 := wq) tOk; (iterate 4 exact rfl); assumption; exact extA; (iterate 3 exact rfl); exact extA; assumption; intro wb hb25 hc hX25 hU; have hcc := hc; obtain ⟨h1, h2, _⟩ := hc; (replace hS := Sep.newCell hS hX25 hb25 hge25 (Below.size hXq); have hC0 := hS.cell (i := 0) rfl; have hR2 := hS.row (i := 3) rfl; obtain ⟨i0, i1, _⟩ := cHp hb25)) | (apply WL.min; (iterate 4 exact rfl)) | (apply WL.max; (iterate 4 exact rfl)) | (show WL _ _ _ (⟨_, .build 89 _, _, _, _, _⟩ :: _) _ _ _; apply WL.build (cs := [.int .i64 (2 * (((inV c.t prop).length : Int) + ((laV c.t prop).length : Int) + (k : Int) + 1)), .int .i64 (max x.1 x.2), .int .i64 (min x.1 x.2)]) tOk; (iterate 6 exact rfl); kernel_rfl; kernel_rfl) | (apply WL.lit tOk; (iterate 6 exact rfl); kernel_rfl; exact rfl; intro gb w' hb hge hc hx) | (apply WL.ap1 (z := (((2 * (((inV c.t prop).length : Int) + ((laV c.t prop).length : Int) + (k : Int) + 1), max x.1 x.2, min x.1 x.2) : T3))) tOk enc3_ok; (iterate 10 exact rfl); assumption; exact extA; exact rfl; assumption; exact rfl; exact rfl; exact extA; omega; intro aZ cZ wA hO hXA hU hF; (replace hS := Sep.uRw (i := 3) rfl hU hO hF hS extA (by (exact Below.size extA))); (try simp only [List.set_cons_zero, List.set_cons_succ] at hS); (try have hR1 := hS.row (i := 1) rfl); (try have hR2 := hS.row (i := 2) rfl); (try have hR3 := hS.row (i := 3) rfl); (try have hR4 := hS.row (i := 4) rfl); (try have hC0 := hS.cell (i := 0) rfl); (try have hD0 := (cHp hC0).1); (try have hE0 := (cHp hC0).2.1)) | (apply WL.storeF (w0 := w) tOk; (iterate 4 exact rfl); exact hout; exact extA; (iterate 4 exact rfl); exact extA; exact hg10w; intro w' hb hX' hU) | (first | apply WL.nil | refine WL.au (k := ?_) | (apply WL.index tOk; (iterate 8 exact rfl); assumption; exact extA; exact rfl; omega; assumption; intro b off h; have hcc := h; first | (obtain ⟨h1, h2, h3, h4, h5, h6, _⟩ := h) | (obtain ⟨h1, h2, h3, _⟩ := h) | (obtain ⟨h1, h2, _⟩ := h) | (obtain ⟨h1, _⟩ := h))) | (first | apply Z.tn | apply Z.bkn) | (first | apply W.seq | apply W.region | apply W.block | apply W.skip))
  exact Z.agW ⟨by omega, aZ, cZ, by rw [eT]; exact OutS.up hR hN hXw7 hX' (show Ext w0 wA from extA) hU hb (hS.drop 1)⟩ (by repeat' first | exact trivial | (refine And.intro ?_ ?_) | exact rfl | (rw [eT]; exact rfl))
 obtain rfl : k = SD.length := by omega
 rw [show GG.take SD.length = GG from by rw [<- hdl, <- hGGl, List.take_length]] at hS hR
 clear htl
 have hwb : wt[(laV c.t prop).length]? = some xb := by rw [hwt, hxb]; unfold wantW; rw [List.getElem?_append_right (by omega), show (laV c.t prop).length - (nextW c.t prop).length = 0 by omega]; rfl
 have hwbm : xb ∈ wt := List.mem_of_getElem? hwb
 have hXw0 : Ext w w0 := hXw7.trans hR.old
 subst hsz
 have hout := hR.out
 have hw1 : (laV c.t prop).length < wt.length := lGt hwb
 repeat' (first | (apply W.cKF; exact rfl; exact dFf (by omega)) | (show WL _ _ _ (⟨none, .store _ (.tmp 186) _, _, _, _, _⟩ :: _) _ _ _; apply WL.storeF (w0 := w) tOk; (iterate 4 exact rfl); exact hout; exact extA; (iterate 4 exact rfl); exact extA; exact hg10w; intro wy hby hXy hUy; obtain ⟨w1, hs1, hR1, hX1, hS1⟩ := OutS.up (mx := (CW.length : Nat)) hR hN hXw7 hXy hXq hUy hby hS; rw [<- hs1] at hS1; have RW1 := hR1.rwt; have hout1 := hR1.out; have hXw1 : Ext w w1 := hXw7.trans hR1.old) | (show WL _ _ _ (⟨_, .call ⟨.value (.tmp _), _, _⟩, _, _, _, _⟩ :: _) _ _ _; apply WL.callS; (iterate 4 exact rfl); exact hclo _ _ hR1 xb hwbm _ extA) | (apply WL.lit tOk; (iterate 6 exact rfl); kernel_rfl; exact rfl; intro gB wB hb hge hc hxB; have hO := Own.of_block ([nowL c.t prop xb]) eIk hb hge rfl; (obtain ⟨hOB, rfl⟩ : ∃ x, x = hO := ⟨_, rfl⟩)) | (show WL _ _ _ (⟨none, .store _ (.tmp 195) _, _, _, _, _⟩ :: _) _ _ _; apply WL.storeF (w0 := w) tOk; (iterate 4 exact rfl); exact hout1; exact extA; (iterate 4 exact rfl); exact extA; exact hg10w; intro wx hbx hXx hUx; have hS1b := Sep.putAtS 4 (Sep.newRow' hS1 hxB hOB (Below.size hX1)); obtain ⟨w4, hs4, hR4, hX4, hS4⟩ := OutS.up (mx := (CW.length : Nat)) (Bd := [nowL c.t prop xb]) hR1 hN hXw7 hXx (hX1.trans hxB) hUx hbx hS1b) | (apply WL.sliceLO tOk; (iterate 8 exact rfl); omega) | (first | apply WL.nil | refine WL.au (k := ?_) | (apply WL.index tOk; (iterate 8 exact rfl); assumption; exact extA; exact rfl; omega; assumption; intro b off h; have hcc := h; first | (obtain ⟨h1, h2, h3, h4, h5, h6, _⟩ := h) | (obtain ⟨h1, h2, h3, _⟩ := h) | (obtain ⟨h1, h2, _⟩ := h) | (obtain ⟨h1, _⟩ := h))) | (first | apply Z.tn | apply Z.tnx | apply Z.bkx) | (first | apply W.seq | apply W.region | apply W.block | apply W.exit))
 have hfn2 : (((laV c.t prop).length : Int) + 1).toNat = (laV c.t prop).length + 1 := by omega
 obtain ⟨SW, hSW⟩ : ∃ S, S = wt.drop ((laV c.t prop).length + 1) := ⟨_, rfl⟩
 have hwl2 : wt.length - ((laV c.t prop).length + 1) = SW.length := by rw [hSW, List.length_drop]
 have hSl : SW.length = c.cons.2.2.length := by omega
 rw [hfn2, hwl2]
 obtain ⟨aW2, haW⟩ : ∃ a, a = subA aW cW ((laV c.t prop).length + 1) 1 := ⟨_, rfl⟩
 obtain ⟨cW2, hcW2⟩ : ∃ a, a = cW - ((laV c.t prop).length + 1) := ⟨_, rfl⟩
 rw [<- haW, <- hcW2]
 have hRW : ∀ w9, Row 1 encI w9 aW wt -> Row 1 encI w9 aW2 SW := fun w9 h9 => by rw [haW, hSW]; exact h9.dropAt _ _ hcW
 obtain ⟨CC, hCC⟩ : ∃ CC, CC = (c.cons.2.2.map (redL c.t prop)).map (nowL c.t prop) := ⟨_, rfl⟩
 have hCCl : CC.length = c.cons.2.2.length := by rw [hCC, List.length_map, List.length_map]
 obtain ⟨B, hB⟩ : ∃ B, B = w1.heap.size := ⟨_, rfl⟩
 rw [<- hB] at hs4 hS4
 refine W.loopW SW.length (fun k w' => k <= SW.length /\ ∃ (ac : Option Addr) (cc : Nat), OutS (RdB w7 g10 g18 aW wt aM CW aT cT AT) B (CW.length : Nat) ai ci (evenL 0 (inV c.t prop).length) al cl LL (some ⟨gB, 0, none⟩) 1 [nowL c.t prop xb] ac cc (CC.take k) ag cg GG w')
  (fun k => [(4, .pointer (some ⟨g4, 0, none⟩)), (7, .slice aL (laV c.t prop).length cL), (8, .slice aI (inV c.t prop).length cI), (10, .pointer (some ⟨g10, 0, none⟩)), (19, fnv 80 [.pointer (some ⟨g18, 0, none⟩)]), (200, .slice aW2 SW.length cW2), (201, .int .i64 SW.length), (202, .int .i64 k)]) ⟨Nat.zero_le _, none, 0, w4, hs4, hR4, hX4, hS4⟩ (fun k w' h => h.1) (by repeat' first | exact trivial | (refine And.intro ?_ ?_) | exact rfl) ?_
 clear hS hXq hR hS1 hR1 hX1 hs1 hS4 hR4 hX4 hs4 hB hS1b hXw1 hXw0 hout hout1 RW1 hby hbx hUy hUx hXy hXx hxB hOB
 clear w0
 rintro k wq ⟨hk, ac, cc, w0, hsz, hR, hXq, hS⟩
 have htl : (CC.take k).length = k := by rw [List.length_take]; omega
 by_cases hlt : k < SW.length
 ·subst hsz
  obtain ⟨l, hl⟩ := getI c.cons.2.2 (show k < c.cons.2.2.length by omega)
  have hwk : wt[(laV c.t prop).length + 1 + k]? = some (redL c.t prop l) := by
   rw [hwt]; unfold wantW
   rw [List.getElem?_append_right (by omega), show (laV c.t prop).length + 1 + k - (nextW c.t prop).length = k + 1 by omega, List.getElem?_cons_succ, List.getElem?_map]
   show (c.cons.2.2[k]?).map _ = _
   rw [hl]; rfl
  have hwm : redL c.t prop l ∈ wt := List.mem_of_getElem? hwk
  have hwd : SW[k]? = some (redL c.t prop l) := by rw [hSW, List.getElem?_drop]; exact hwk
  have hCk : CC[k]? = some (nowL c.t prop (redL c.t prop l)) := by rw [hCC, List.getElem?_map, List.getElem?_map, hl]; rfl
  have eT := tkS hCk
  have hXw0 : Ext w w0 := hXw7.trans hR.old
  have RDq := hRW wq (hR.rwt.ext hXq)
  have hRg := hS.row (i := 3) rfl
  have hout : wq.heap[g10]? = _ := hXq.heap hR.out
  obtain ⟨n0, n1, n2, n3, n4, n5, n6, _⟩ := cHp hout
  repeat' (first | (apply W.cKT; exact rfl; exact dTt (by omega)) | (first | apply WL.nil | refine WL.au (k := ?_) | (apply WL.index tOk; (iterate 8 exact rfl); assumption; exact extA; exact rfl; omega; assumption; intro b off h; have hcc := h; first | (obtain ⟨h1, h2, h3, h4, h5, h6, _⟩ := h) | (obtain ⟨h1, h2, h3, _⟩ := h) | (obtain ⟨h1, h2, _⟩ := h) | (obtain ⟨h1, _⟩ := h))) | apply Z.tn | (first | apply W.seq | apply W.region | apply W.block | apply W.skip))
  repeat' (first | (show W _ _ (.region 44 _ _) _ _ _; apply W.regionG (.fl true 0 (.fl true 2 (.fl true 3 (.br 1 (.br 4 (.br 5 (.br 6 (.fl true 7 (.br 8 .done .stop)) .stop) .stop) .stop) (.br 4 (.br 1 (.br 5 (.br 6 (.fl true 7 (.br 8 .done .stop)) .stop) .stop) (.br 5 (.br 1 (.br 6 (.fl true 7 (.br 8 .done .stop)) .stop) .stop) .stop)) .stop))))) [] (Ext wq) tMix; kernel_rfl) | (show WL _ _ _ (⟨_, .call ⟨.value (.tmp _), _, _⟩, _, _, _, _⟩ :: _) _ _ _; apply WL.callS; (iterate 4 exact rfl); exact hclo _ _ hR (redL c.t prop l) hwm _ (hXq.trans extA)) | (apply WL.lit tOk; (iterate 6 exact rfl); kernel_rfl; exact rfl; intro gb w' hb hge hc hx) | (apply WL.ap1 (z := (nowL c.t prop (redL c.t prop l))) tOk eIk; (iterate 10 exact rfl); assumption; exact extA; exact rfl; assumption; exact rfl; exact rfl; exact extA; omega; intro aZ cZ wA hO hXA hU hF; (have hSA := Sep.uRw (i := 3) rfl hU hO hF hS extA (Below.size (hXq.trans extA)); have hXAq : Ext w0 wA := extA)) | (apply WL.storeF (w0 := w) tOk; (iterate 4 exact rfl); exact hR.out; exact hXAq; (iterate 4 exact rfl); exact extA; exact hg10w; intro w' hb hX' hU) | (first | apply WL.nil | refine WL.au (k := ?_)) | (first | apply SG.done | (apply SG.fl0; exact rfl) | (apply SG.br1; exact rfl) | (apply SG.br; exact rfl)) | (first | apply FL.nilS | refine FL.au (k := ?_)) | (apply Z.sgL; exact rfl) | (first | apply Z.tn | apply Z.bkn) | apply W.region)
  all_goals exact Z.agW ⟨by omega, aZ, cZ, by rw [eT]; exact OutS.up hR hN hXw7 hX' hXAq hU hb hSA⟩ (by repeat' first | exact trivial | (refine And.intro ?_ ?_) | exact rfl | (rw [eT]; exact rfl))
 obtain rfl : k = SW.length := by omega
 rw [show CC.take SW.length = CC from by rw [hSl, <- hCCl, List.take_length]] at hS hR
 clear htl
 subst hsz
 obtain ⟨dd, hdd⟩ : ∃ dd : Circ, dd = ⟨(CW.length : Nat), (ai, ci, evenL 0 (inV c.t prop).length), (al, cl, LL), (none, 0, []), (some ⟨gB, 0, none⟩, 1, [nowL c.t prop xb]), (ac, cc, CC), (ag, cg, GG), (none, 0, []), ⟨#[]⟩⟩ := ⟨_, rfl⟩
 have hcd : Cells wq g10 0 dd.vals := by rw [hdd]; exact cHp (hXq.heap hR.out)
 have hX3q : Ext w3 wq := hX37.trans (hR.old.trans hXq)
 have hb4q := hb4' wq hX3q
 have hg4w : w.heap.size <= g4 := Nat.le_trans (Below.size hxc) hge4
 have hg40 : g4 < w0.heap.size := Nat.lt_of_lt_of_le (heap_lt hb4) (Below.size (hx3.trans (hX37.trans hR.old)))
 have hXwq : Ext w wq := hXw7.trans (hR.old.trans hXq)
 repeat' (first | (apply W.cKF; exact rfl; exact dFf (by omega)) | (apply WL.storeB (w0 := w) tOk; (iterate 4 exact rfl); assumption; exact extA; (iterate 3 exact rfl); exact extA; assumption; intro wz hbz hc hXz hUz; have hcc := hc; obtain ⟨h1, h2, _⟩ := hc) | (first | apply WL.nil | refine WL.au (k := ?_)) | (first | apply Z.tn | apply Z.tnx | apply Z.bkx) | (first | apply W.seq | apply W.region | apply W.ret | apply W.exit))
 have hSz := Sep.updOldS hS hUz hg40
 have hdt : dd.t = redC c.t prop := by
  rw [hdd]
  show (⟨(CW.length : Nat), evenL 0 (inV c.t prop).length, LL, [], [nowL c.t prop xb], CC, GG, [], ⟨#[]⟩⟩ : CirT) = genC (inV c.t prop).length ((nextW c.t prop).map (nowL c.t prop)) (resW c.t prop) (restW c.t prop) (cutW c.t prop)
  unfold genC restW
  rw [hfo, <- hCW, <- hLL, <- hGG, <- hxb, hCC]
 have nilK : ∀ {α : Type} (w0 : World) (s : Nat) (enc : α -> List Value), RowK s enc w0 ((none, 0, []) : RowV α) := fun w0 s enc => ⟨Row.nil _ _ _ _, Nat.le_refl _, fun _ => rfl⟩
 have o0 := hSz.row (i := 0) rfl
 have o1 := hSz.row (i := 1) rfl
 have o2 := hSz.row (i := 2) rfl
 have o3 := hSz.row (i := 3) rfl
 have o4 := hSz.row (i := 4) rfl
 have hCd : CAt wz dd := by
  rw [hdd]
  exact ⟨⟨o0.row eIk, o0.capLe, o0.nCp⟩, ⟨o1.row enc3_ok, o1.capLe, o1.nCp⟩, nilK _ _ _, ⟨o4.row eIk, o4.capLe, o4.nCp⟩, ⟨o3.row eIk, o3.capLe, o3.nCp⟩, ⟨o2.row enc3_ok, o2.capLe, o2.nCp⟩, nilK _ _ _⟩
 have hcz : Cells wz g4 0 dd.vals := cHp hbz
 exact Z.bodyCTT tOk Try.results26 rfl rfl rfl rfl rfl rfl hcz fun m => ⟨hXz.at m, dd, aL, aI, cL, cI, rfl, hdt, hCd.ext ((Ext.refl _).at m)⟩

abbrev exK : CirT := ⟨2, [], [(2, 2, 0), (4, 4, 1)], [], [2], [], [], [], ⟨#[]⟩⟩
theorem exK_good : GoodC' exK := by
 refine ⟨by decide, fun x hx => ?_, fun x hx => ?_, fun x hx => ?_, by decide, fun x hx h => ?_, ?_⟩
 ·have : x = 2 ∨ x = 4 := by simpa using hx
  rcases this with rfl | rfl <;> decide
 ·have : x = 2 ∨ x = 4 := by simpa using hx
  rcases this with rfl | rfl <;> decide
 ·have : x = (2, 2, 0) ∨ x = (4, 4, 1) := by simpa using hx
  rcases this with rfl | rfl
  ·exact .inl rfl
  ·exact .inr (.inl rfl)
 ·have : x = 2 ∨ x = 4 := by simpa using hx
  rcases this with rfl | rfl <;> decide
 ·show (ordL []).length = 0
  rw [ordL_nil]; rfl
theorem exK_net : cNet exK = ([(-1, 0), (-1, 0)], [0, 2, 4]) := by
 unfold cNet
 rw [show exK.gates = [] from rfl, ordL_nil]
 rfl
theorem exK_cl2 : cl exK 2 = 2 := by show litI (cNet exK).2 2 = 2; rw [exK_net]; rfl
theorem exK_cl4 : cl exK 4 = 4 := by show litI (cNet exK).2 4 = 4; rw [exK_net]; rfl
theorem exK_tin : tvals [((-1 : Int), (0 : Int)), (-1, 0)] [0, 1] = [0, 0, 1] := by
 unfold tvals tto tstep
 simp [tin, val3]
theorem exK_lit2 : lit3 [0, 0, 1] 2 = 0 := by decide
theorem exK_lit4 : lit3 [0, 0, 1] 4 = 1 := by decide
theorem exK_step : stkS exK [0, 1] = [0, 1] := by
 have e : stkE exK [0, 1] = [0, 0, 1] := by
  unfold stkE
  rw [exK_net]
  exact exK_tin
 have f0 : stkF exK [0, 1] 0 = 0 := by
  unfold stkF
  rw [e]
  refine (if_neg fun h => h.2 ?_).trans rfl
  show lit3 [0, 0, 1] (cl exK 2) = 0
  rw [exK_cl2]; exact exK_lit2
 have f1 : stkF exK [0, 1] 1 = 1 := by
  unfold stkF
  rw [e]
  refine (if_neg fun h => h.2 ?_).trans rfl
  show lit3 [0, 0, 1] (cl exK 4) = 1
  rw [exK_cl4]; exact exK_lit4
 show tab 2 (stkF exK [0, 1]) = _
 show [stkF exK [0, 1] 0, stkF exK [0, 1] 1] = _
 rw [f0, f1]
theorem exK_stuck : skV exK = [0, 1] := (stk_done (c := exK) (k := 0) (Nat.zero_le _) exK_step).symm
theorem exK_free : freeV exK = [] := by
 refine List.eq_nil_iff_forall_not_mem.2 fun j hj => ?_
 obtain ⟨h1, h2, h3⟩ := free_mem.1 hj
 rw [exK_stuck] at h3
 have h4 : j < 2 := h2
 rcases (show j = 0 ∨ j = 1 by omega) with rfl | rfl <;> simp at h3
theorem exK_la (p : Int) : laV exK p = [] := List.eq_nil_iff_forall_not_mem.2 fun j hj => by
 have h := la_free hj
 rw [exK_free] at h
 cases h
theorem exK_in (p : Int) : inV exK p = [] := rfl
theorem exK_fold : foldV exK [0, 1] [] [] = ([0, 0, 1], []) := by
 unfold foldV copyV
 rw [exK_net, show fillC exK [0, 1] [] [] = [0, 1] from rfl, dTt (by intro z hz; unfold hasL; simp at hz; rcases hz with rfl | rfl <;> simp)]
 show ((cto [] [(-1, 0), (-1, 0)] [0, 1] 2).1, (cto [] [(-1, 0), (-1, 0)] [0, 1] 2).2.2) = _
 unfold cto cstep
 simp
theorem exK_redF (p : Int) : redF exK p = ([0, 0, 1], []) := by
 show foldV exK (skV exK) (laV exK p) (inV exK p) = _
 rw [exK_stuck, exK_la, exK_in]
 exact exK_fold
theorem exK_redL : redL exK 0 2 = 0 := by
 show litI (redF exK 0).1 (cl exK 2) = 0
 rw [exK_redF, exK_cl2]; rfl
theorem exK_red : redC exK 0 = ⟨0, [], [], [], [0], [], [], [], ⟨#[]⟩⟩ := by
 have e1 : cutW exK 0 = [] := by
  unfold cutW
  rw [show (redF exK 0).2.length = 0 by rw [exK_redF]; rfl]
  rfl
 have e2 : nextW exK 0 = [] := by unfold nextW; rw [exK_la]; rfl
 have e3 : resW exK 0 = [] := by unfold resW; rw [exK_la]; rfl
 have e4 : restW exK 0 = ⟨[], [0], [], [], ⟨#[]⟩⟩ := by
  unfold restW
  rw [show badL exK 0 = 2 from rfl, exK_redL]
  show (⟨[], [atL (keepP exK 0) 0], [], [], ⟨#[]⟩⟩ : Rest) = _
  rw [show atL (keepP exK 0) 0 = 0 by unfold atL atv; rw [if_pos (by decide)]; rfl]
 unfold redC
 rw [e1, e2, e3, e4, exK_in]
 rfl

set_option maxRecDepth 20000 in
theorem law42_lives (w : World) : Pure Try.prog 25 [] w (.bool true) := by
 refine Spec.of _ Try.func25 rfl Try.ntmps25 (by kernel_rfl) rfl ?_
 repeat' (first | (show WL _ _ _ (⟨_, .build 27 _, _, _, _, _⟩ :: _) _ _ _; apply WL.build (cs := [.int .i64 2, .slice none 0 0, .slice (some ⟨g1, 0, none⟩) 2 2, .slice none 0 0, .slice (some ⟨g2, 0, none⟩) 1 1, .slice none 0 0, .slice none 0 0, .slice none 0 0, .string ⟨#[]⟩]) tOk; (iterate 6 exact rfl); exact rfl; kernel_rfl) | (apply WL.build tOk; (iterate 7 exact rfl); kernel_rfl) | (apply WL.lit tOk; (iterate 6 exact rfl); kernel_rfl; exact rfl; intro g1 w1 hb hge hc hx1; have hO := Own.of_block ([((2, 2, 0) : T3), (4, 4, 1)]) enc3_ok hb hge rfl; (obtain ⟨hO1, rfl⟩ : ∃ x, x = hO := ⟨_, rfl⟩)) | (apply WL.lit tOk; (iterate 6 exact rfl); kernel_rfl; exact rfl; intro g2 w2 hb hge hc hx2; have hO := Own.of_block ([(2 : Int)]) eIk hb hge rfl; (obtain ⟨hO2, rfl⟩ : ∃ x, x = hO := ⟨_, rfl⟩)) | (apply WL.alloc tOk; (iterate 3 exact rfl); intro gb w' hb hge hx) | (apply WL.storeB (w0 := w2) tOk; (iterate 4 exact rfl); assumption; exact extA; (iterate 3 exact rfl); exact extA; assumption; intro w3 hb3 hc hX3 hU; have hcc := hc; obtain ⟨h1, h2, _⟩ := hc; (have hcs := cHp hb3)) | (first | apply WL.nil | refine WL.au (k := ?_)) | apply Z.tn | (first | apply W.seq | apply W.region))
 obtain ⟨c, hc⟩ : ∃ c : Circ, c = ⟨2, (none, 0, []), (some ⟨g1, 0, none⟩, 2, [(2, 2, 0), (4, 4, 1)]), (none, 0, []), (some ⟨g2, 0, none⟩, 1, [2]), (none, 0, []), (none, 0, []), (none, 0, []), ⟨#[]⟩⟩ := ⟨_, rfl⟩
 have hct : c.t = exK := by rw [hc]
 have hX2 : Ext w1 w3 := extA
 have hX : Ext w w3 := extA
 have nilK : ∀ {α : Type} (w0 : World) (s : Nat) (enc : α -> List Value), RowK s enc w0 ((none, 0, []) : RowV α) := fun w0 s enc => ⟨Row.nil _ _ _ _, Nat.le_refl _, fun _ => rfl⟩
 have hC : CAt w3 c := by
  rw [hc]
  exact ⟨nilK _ _ _, ⟨(hO1.row enc3_ok).ext hX2, Nat.le_refl _, fun h => by cases h⟩, nilK _ _ _, ⟨(hO2.row eIk).ext hX3, Nat.le_refl _, fun h => by cases h⟩, nilK _ _ _, nilK _ _ _, nilK _ _ _⟩
 have hg : GoodC' c.t := by rw [hct]; exact exK_good
 have hz : SzC c.t 100000 := by rw [hct]; unfold SzC; simp
 have hred := fun (w9 : World) (h9 : Ext w3 w9) => coi_Reduce c 0 w9 (hC.ext h9) hg hz
 have hstk := fun (w9 : World) (h9 : Ext w3 w9) => coi_Stuck c w9 (hC.ext h9) hg hz
 rw [hct, exK_red, exK_la, exK_in] at hred
 simp only [List.length_nil] at hred
 rw [hct, exK_stuck] at hstk
 have hv : c.val = .agg #[.int .i64 2, .slice none 0 0, .slice (some ⟨g1, 0, none⟩) 2 2, .slice none 0 0, .slice (some ⟨g2, 0, none⟩) 1 1, .slice none 0 0, .slice none 0 0, .slice none 0 0, .string ⟨#[]⟩] := by rw [hc]; rfl
 rw [hv] at hred hstk
 repeat' (first | (apply WL.gT; exact rfl; exact rfl; exact dTt rfl) | (apply WL.call (f := 26); (iterate 4 exact rfl); exact hred _ (Ext.refl _); rintro v' w4 ⟨hx4, d, aL, aI, cL, cI, rfl, hdt, hCd⟩) | (apply WL.alloc tOk; (iterate 3 exact rfl); intro gb w' hb hge hx) | (apply WL.storeB (w0 := w4) tOk; (iterate 4 exact rfl); assumption; exact extA; (iterate 3 exact rfl); exact extA; assumption; intro w5 hb5 hc hX5 hU; have hcc := hc; obtain ⟨h1, h2, _⟩ := hc; (have hcd := cHp hb5)) | (apply WL.call (f := 29); (iterate 4 exact rfl); exact hstk _ extA; rintro v' w6 ⟨hx6, aS, cS, rfl, hOS⟩; have RS := hOS.row eIk) | (apply WL.lit tOk; (iterate 6 exact rfl); kernel_rfl; exact rfl; intro g18 w7 hb hge hc hx7; have hO := Own.of_block ([(0 : Int), 1]) eIk hb hge rfl; (obtain ⟨hO7, rfl⟩ : ∃ x, x = hO := ⟨_, rfl⟩; have R7 := hO7.row eIk)) | (apply WL.callS (f := 14); (iterate 4 exact rfl); exact rIn _ _ _ _ [0, 1] [0, 1] _ (RS.ext extA) R7) | (apply WL.lit tOk; (iterate 6 exact rfl); kernel_rfl; exact rfl; intro g22 w8 hb hge hc hx8; have hO := Own.of_block ([(0 : Int)]) eIk hb hge rfl; (obtain ⟨hO8, rfl⟩ : ∃ x, x = hO := ⟨_, rfl⟩; have hCe : CAt w8 ⟨0, (none, 0, []), (none, 0, []), (none, 0, []), (some ⟨g22, 0, none⟩, 1, [0]), (none, 0, []), (none, 0, []), (none, 0, []), ⟨#[]⟩⟩ := ⟨nilK _ _ _, nilK _ _ _, nilK _ _ _, ⟨hO8.row eIk, Nat.le_refl _, fun h => by cases h⟩, nilK _ _ _, nilK _ _ _, nilK _ _ _⟩; have hsm := fun (w9 : World) (h9 : Ext w8 w9) => ref11_Same d _ w9 (hCd.ext (show Ext w4 w9 from extA)) (hCe.ext h9); rw [dTt (show d.t = _ from hdt)] at hsm)) | (show WL _ _ _ (⟨_, .build 27 _, _, _, _, _⟩ :: _) _ _ _; apply WL.build (cs := [.int .i64 0, .slice none 0 0, .slice none 0 0, .slice none 0 0, .slice (some ⟨g22, 0, none⟩) 1 1, .slice none 0 0, .slice none 0 0, .slice none 0 0, .string ⟨#[]⟩]) tOk; (iterate 6 exact rfl); exact rfl; kernel_rfl) | (apply WL.callP (f := 72); (iterate 4 exact rfl); exact hsm _ extA; intro w10 hx10) | (first | apply WL.nil | refine WL.au (k := ?_)) | apply Z.tn | (first | apply W.seq | apply W.region | apply W.ret))
 exact Z.bd1 Try.results25 rfl fun m => ⟨congrArg Value.bool (dTt rfl), Ext.at extA m⟩

theorem net_len3M {c : CirT} (hg : GoodC' c) : (cNet c).1.length <= c.ins.length + c.lat.length + c.gates.length := by
 rw [(cNet_ok hg).1.len1]
 have h2 := (ordL_is c.gates).1.le
 unfold CirT.seq
 simp only [List.length_append, List.length_map] at *
 omega
theorem outTo_le (n : List (Int × Int)) (P : Nat -> Prop) : ∀ k, (outTo n P k).length <= k
 | 0 => Nat.le_refl _
 | k + 1 => by
  have := outTo_le n P k
  by_cases h : P (k + 1)
  ·rw [outTo_yes h, List.length_append, List.length_singleton]; omega
  ·rw [outTo_no h]; omega

def numB : List Bool -> Nat
 | [] => 0
 | b :: s => b.toNat + 2 * numB s
theorem numB_lt : ∀ s : List Bool, numB s < 2 ^ s.length
 | [] => by decide
 | b :: s => by
  have := numB_lt s
  show b.toNat + 2 * numB s < 2 ^ (s.length + 1)
  rw [Nat.pow_succ]
  cases b <;> simp <;> omega
theorem numB_is : ∀ (s : List Bool) (a : Nat), a < 2 ^ s.length -> (numB s = a ↔ ∀ j, j < s.length -> s.getD j false = a.testBit j)
 | [], a, h => by
  have : a = 0 := by simpa using h
  subst this
  exact ⟨fun _ j hj => absurd hj (Nat.not_lt_zero _), fun _ => rfl⟩
 | b :: s, a, h => by
  have h' : a / 2 < 2 ^ s.length := by
   have : a < 2 ^ (s.length + 1) := h
   rw [Nat.pow_succ] at this; omega
  have ih := numB_is s (a / 2) h'
  have e0 : a.testBit 0 = decide (a % 2 = 1) := Nat.testBit_zero a
  constructor
  ·intro he
   have he : b.toNat + 2 * numB s = a := he
   intro j hj
   cases j with
   | zero =>
    show b = _
    rw [e0]
    cases b
    ·simp at he; rw [decide_eq_false (by omega)]
    ·simp at he; rw [decide_eq_true (by omega)]
   | succ j =>
    rw [Nat.testBit_succ]
    exact ih.1 (by cases b <;> simp at he <;> omega) j (by simpa using hj)
  ·intro hh
   have h0 : b = a.testBit 0 := hh 0 (by simp)
   have h1 : numB s = a / 2 := ih.2 fun j hj => by rw [<- Nat.testBit_succ]; exact hh (j + 1) (by simpa using hj)
   show b.toNat + 2 * numB s = a
   rw [h1, h0, e0]
   by_cases hp : a % 2 = 1
   ·rw [decide_eq_true hp]; simp; omega
   ·rw [decide_eq_false hp]; simp; omega
section
variable {nin : Nat} {next reset : List Int} {b : Int} {N : List (Int × Int)}
end


theorem ref17_power (n : Nat) (w : World) (hn : n <= 20) : Still Try.prog 81 [.int .i64 n] w (.int .i64 (2 ^ n : Nat)) := by
 refine Spec.of _ Try.func81 rfl Try.ntmps81 (by kernel_rfl) rfl ?_
 repeat' (first | (first | apply WL.nil | refine WL.au (k := ?_)) | apply Z.tn | (first | apply W.seq | apply W.region | apply W.block))
 refine W.loop1 n (fun k => k <= n) (fun k => [(0, .int .i64 n), (3, .int .i64 (2 ^ k : Nat)), (4, .int .i64 k)]) (Nat.zero_le _) (fun k h => h) ⟨rfl, rfl, rfl, trivial⟩ ?_
 rintro k hk
 have hp : (2 : Nat) ^ k <= 2 ^ 20 := Nat.pow_le_pow_right (by decide) (by omega)
 have hp2 : (2 : Nat) ^ 20 = 1048576 := rfl
 by_cases hlt : k < n
 ·have hs : ((2 ^ (k + 1) : Nat) : Int) = 2 * ((2 ^ k : Nat) : Int) := by rw [Nat.pow_succ]; omega
  rw [hp2] at hp
  generalize (2 : Nat) ^ k = z at hp hs ⊢
  repeat' (first | (apply W.cKT; exact rfl; exact dTt (by omega)) | (first | apply WL.nil | refine WL.au (k := ?_)) | (first | apply Z.tn | apply Z.bkn) | (first | apply W.seq | apply W.region | apply W.block | apply W.skip))
  exact Z.again1 (by omega) (by rw [hs]; exact ⟨rfl, rfl, rfl, trivial⟩)
 obtain rfl : k = n := by omega
 repeat' (first | (apply W.cKF; exact rfl; exact dFf (by omega)) | (first | apply WL.nil | refine WL.au (k := ?_)) | (first | apply Z.tn | apply Z.tnx | apply Z.bkx) | (first | apply W.seq | apply W.region | apply W.ret | apply W.exit))
 exact Z.bd1 Try.results81 rfl fun m => ⟨rfl, m, rfl⟩
def bitsL (n : Nat) : Nat -> List Bool
 | 0 => []
 | m + 1 => bitsL n m ++ [decide (n / 2 ^ m % 2 = 1)]
theorem bitsL_len (n : Nat) : ∀ m, (bitsL n m).length = m
 | 0 => rfl
 | m + 1 => by rw [bitsL, List.length_append, bitsL_len n m]; rfl
theorem ref17_bits (n m : Nat) (w : World) (hn : n <= 1048576) (hm : m <= 20) : Lt.Spec Try.prog 82 [.int .i64 n, .int .i64 m] w (IsFresh 1 encB 4 w (bitsL n m)) := by
 refine Spec.of _ Try.func82 rfl Try.ntmps82 (by kernel_rfl) rfl ?_
 repeat' (first | (apply WL.lit (len := 0) tOk; (iterate 6 exact rfl); kernel_rfl; exact rfl; intro gb w' hb hge hc hx; have hO0 := Own.ofB0 (enc := encB) (s := 1) hb hge) | (first | apply WL.nil | refine WL.au (k := ?_)) | apply Z.tn | (first | apply W.seq | apply W.region | apply W.block))
 obtain ⟨g0, rfl⟩ : ∃ x, x = gb := ⟨_, rfl⟩; obtain ⟨w1, rfl⟩ : ∃ x, x = w' := ⟨_, rfl⟩
 have hd0 : n / 2 ^ 0 = n := by rw [Nat.pow_zero, Nat.div_one]
 refine W.loopO m (fun k a cp w' => k <= m /\ Ext w w' /\ Own 1 encB 4 w.heap.size w' a cp (bitsL n k)) (fun k a cp => [(0, .int .i64 (n / 2 ^ k : Nat)), (1, .int .i64 m), (5, .slice a (bitsL n k).length cp), (6, .int .i64 k)]) (some ⟨g0, 0, none⟩) 0 ⟨Nat.zero_le _, hx, hO0⟩ (fun k a cp w' h => h.1) ⟨by rw [hd0]; rfl, rfl, rfl, rfl, trivial⟩ ?_
 rintro k a cp w2 ⟨hk, hX2, hO2⟩
 have hl := bitsL_len n k
 have hdl : n / 2 ^ k <= n := Nat.div_le_self _ _
 by_cases hlt : k < m
 ·have e1 : bitsL n (k + 1) = bitsL n k ++ [decide (n / 2 ^ k % 2 = 1)] := rfl
  have e2 : dec ((((n / 2 ^ k : Nat) : Int) % 2) = 1) = decide (n / 2 ^ k % 2 = 1) := by rw [<- dec_decide]; exact dCg (by omega)
  have e3 : ((n / 2 ^ k : Nat) : Int) / 2 = ((n / 2 ^ (k + 1) : Nat) : Int) := by rw [Nat.pow_succ, <- Nat.div_div_eq_div_mul]; omega
  generalize n / 2 ^ k = z at *
  repeat' (first | (apply W.cKT; exact rfl; exact dTt (by omega)) | (apply WL.lit tOk; (iterate 6 exact rfl); kernel_rfl; exact rfl; intro gb w' hb hge hc hx) | (apply WL.ap1 (z := (dec ((z : Int) % 2 = 1))) tOk eBk; (iterate 10 exact rfl); assumption; exact extA; exact rfl; assumption; exact rfl; exact rfl; exact extA; omega; intro a' cap' w' hO hX' hU hF) | (first | apply WL.nil | refine WL.au (k := ?_)) | (first | apply Z.tn | apply Z.bkn) | (first | apply W.seq | apply W.region | apply W.block | apply W.skip))
  rw [e2, <- e1] at hO
  refine Z.agO a' cap' ⟨by omega, extA, hO⟩ ?_
  rw [e1, <- e3, <- e2]
  exact ⟨rfl, rfl, rfl, rfl, trivial⟩
 ·obtain rfl : k = m := by omega
  repeat' (first | (apply W.cKF; exact rfl; exact dFf (by omega)) | (first | apply WL.nil | refine WL.au (k := ?_)) | (first | apply Z.tn | apply Z.tnx | apply Z.bkx) | (first | apply W.seq | apply W.region | apply W.ret | apply W.exit))
  exact Z.bd1 Try.results82 rfl fun m => ⟨Ext.at hX2 m, a, cp, rfl, hO2.ext ((Ext.refl _).at m)⟩
theorem ref17_number (a : Option Addr) (cap : Nat) (l : List Bool) (w : World) (R : Row 1 encB w a l) (hl : l.length <= 20) : Still Try.prog 83 [.slice a l.length cap] w (.int .i64 (numB l : Nat)) := by
 refine Spec.of _ Try.func83 rfl Try.ntmps83 (by kernel_rfl) rfl ?_
 repeat' (first | (first | apply WL.nil | refine WL.au (k := ?_)) | apply Z.tn | (first | apply W.seq | apply W.region | apply W.block))
 refine W.loop1 l.length (fun k => k <= l.length) (fun k => [(0, .slice a l.length cap), (3, .int .i64 (numB (l.drop (l.length - k)) : Nat)), (4, .int .i64 ((l.length : Int) - k - 1))]) (Nat.zero_le _) (fun k h => h) ⟨rfl, by rw [Nat.sub_zero, List.drop_length]; rfl, (by show some (Value.int .i64 _) = some (Value.int .i64 _); congr 2 <;> omega), trivial⟩ ?_
 rintro k hk
 have hlt9 := numB_lt (l.drop (l.length - k))
 have hp : (2 : Nat) ^ (l.drop (l.length - k)).length <= 2 ^ 20 := Nat.pow_le_pow_right (by decide) (by rw [List.length_drop]; omega)
 have hp2 : (2 : Nat) ^ 20 = 1048576 := rfl
 by_cases hlt : k < l.length
 ·obtain ⟨b, hb⟩ := getI l (show l.length - (k + 1) < l.length by omega)
  have hbl := lGt hb
  have e1 : l.drop (l.length - (k + 1)) = b :: l.drop (l.length - k) := by
   rw [List.drop_eq_getElem_cons hbl, show l[l.length - (k + 1)] = b by rw [List.getElem?_eq_getElem hbl] at hb; exact Option.some.inj hb, show l.length - (k + 1) + 1 = l.length - k by omega]
  have hb' : l[((l.length : Int) - k - 1).toNat]? = some b := by rw [show ((l.length : Int) - k - 1).toNat = l.length - (k + 1) by omega]; exact hb
  have e2 : numB (l.drop (l.length - (k + 1))) = b.toNat + 2 * numB (l.drop (l.length - k)) := by rw [e1]; rfl
  generalize numB (l.drop (l.length - k)) = z at *
  cases b with
  | true =>
   have e3 : ((numB (l.drop (l.length - (k + 1))) : Nat) : Int) = 2 * (z : Int) + 1 := by rw [e2]; simp; omega
   repeat' (first | (apply W.cKT; exact rfl; exact dTt (by omega)) | (first | apply WL.nil | refine WL.au (k := ?_) | (apply WL.index tOk; (iterate 8 exact rfl); assumption; exact extA; exact rfl; omega; assumption; intro b off h; have hcc := h; first | (obtain ⟨h1, h2, h3, h4, h5, h6, _⟩ := h) | (obtain ⟨h1, h2, h3, _⟩ := h) | (obtain ⟨h1, h2, _⟩ := h) | (obtain ⟨h1, _⟩ := h))) | (first | apply Z.tn | apply Z.bkn) | (first | apply W.seq | apply W.region | apply W.block | apply W.skip | (apply W.condT; exact rfl)))
   exact Z.again1 (by omega) (by rw [e3]; exact ⟨rfl, rfl, (by show some (Value.int .i64 _) = some (Value.int .i64 _); congr 2; omega), trivial⟩)
  | false =>
   have e3 : ((numB (l.drop (l.length - (k + 1))) : Nat) : Int) = 2 * (z : Int) := by rw [e2]; simp
   repeat' (first | (apply W.cKT; exact rfl; exact dTt (by omega)) | (first | apply WL.nil | refine WL.au (k := ?_) | (apply WL.index tOk; (iterate 8 exact rfl); assumption; exact extA; exact rfl; omega; assumption; intro b off h; have hcc := h; first | (obtain ⟨h1, h2, h3, h4, h5, h6, _⟩ := h) | (obtain ⟨h1, h2, h3, _⟩ := h) | (obtain ⟨h1, h2, _⟩ := h) | (obtain ⟨h1, _⟩ := h))) | (first | apply Z.tn | apply Z.bkn) | (first | apply W.seq | apply W.region | apply W.block | apply W.skip | (apply W.condF; exact rfl)))
   exact Z.again1 (by omega) (by rw [e3]; exact ⟨rfl, rfl, (by show some (Value.int .i64 _) = some (Value.int .i64 _); congr 2; omega), trivial⟩)
 ·obtain rfl : k = l.length := by omega
  rw [Nat.sub_self, List.drop_zero]
  repeat' (first | (apply W.cKF; exact rfl; exact dFf (by omega)) | (first | apply WL.nil | refine WL.au (k := ?_)) | (first | apply Z.tn | apply Z.tnx | apply Z.bkx) | (first | apply W.seq | apply W.region | apply W.ret | apply W.exit))
  exact Z.bd1 Try.results83 rfl fun m => ⟨rfl, m, rfl⟩

def anyTo (f : Nat -> Bool) : Nat -> Bool
 | 0 => false
 | k + 1 => anyTo f k || f k
noncomputable def fS (c : CirT) (s : Nat) : Bool := dec (StartsP c (bitsL s c.lat.length))
noncomputable def nI (c : CirT) (s i : Nat) : Int := (numB (nextV c (bitsL s c.lat.length) (bitsL i c.ins.length)) : Nat)
abbrev pB8 (B : Nat) (r : RowV Bool) : Piece := prow 1 encB 4 B r.1 r.2.1 r.2.2
abbrev wlP (B g7 n : Nat) (sa : Option Addr) (sc : Nat) (S : List Bool) (ba : Option Addr) (bc : Nat) (Bd : List Bool) (na : Option Addr) (nc : Nat) (rs : List (RowV Int)) (X Y : RowV Bool) (PG : Piece) : List Piece :=
 [pcell g7 #[.slice sa n sc, .slice ba n bc, .slice na n nc] 60, prow 1 encB 4 B sa sc S, prow 1 encB 4 B ba bc Bd, prow 1 encRow 22 B na nc rs, PG, pB8 B X, pB8 B Y] ++ rs.map (pI B)
section
variable {B g7 n sc bc nc : Nat} {sa ba na : Option Addr} {S Bd : List Bool} {rs : List (RowV Int)} {X Y : RowV Bool} {PG : Piece} {k : Nat} {r : RowV Int}
theorem wl_in (h : rs[k]? = some r) : (wlP B g7 n sa sc S ba bc Bd na nc rs X Y PG)[7 + k]? = some (pI B r) := by
 show (_ :: _ :: _ :: _ :: _ :: _ :: _ :: rs.map (pI B))[7 + k]? = _
 rw [show 7 + k = k + 1 + 1 + 1 + 1 + 1 + 1 + 1 by omega]
 simp only [List.getElem?_cons_succ, List.getElem?_map, h, Option.map_some]
theorem wl_set : (wlP B g7 n sa sc S ba bc Bd na nc rs X Y PG).set (7 + k) (pI B r) = [pcell g7 #[.slice sa n sc, .slice ba n bc, .slice na n nc] 60, prow 1 encB 4 B sa sc S, prow 1 encB 4 B ba bc Bd, prow 1 encRow 22 B na nc rs, PG, pB8 B X, pB8 B Y] ++ (rs.set k r).map (pI B) := by
 rw [show 7 + k = k + 1 + 1 + 1 + 1 + 1 + 1 + 1 by omega]
 show (_ :: _ :: _ :: _ :: _ :: _ :: _ :: rs.map (pI B)).set _ _ = _
 simp only [List.set_cons_succ, <- List.map_set]
 rfl
end
theorem Sep.nilsZ {B : Nat} {w : World} {ps : List Piece} (hS : Lt.Sep B w ps) (n : Nat) : Lt.Sep B w (ps ++ (List.replicate n ((none, 0, []) : RowV Int)).map (pI B)) := Sep.addNils hS n
theorem Sep.putAt {B : Nat} {w : World} {ps : List Piece} {p' : Piece} (i : Nat) (hS : Lt.Sep B w (p' :: ps)) : Lt.Sep B w (ps.set i p') := by
 refine Lt.Sep.pick (fun j => if j = i then 0 else j + 1) hS (fun j p h => ?_) (fun j k _ _ hne => ?_)
 ·rw [List.getElem?_set] at h
  by_cases hj : i = j
  ·rw [if_pos hj] at h
   rw [if_pos hj.symm]
   split at h
   ·exact h
   ·cases h
  ·rw [if_neg hj] at h
   rw [if_neg (fun h => hj h.symm)]
   exact h
 ·split <;> split <;> omega
noncomputable def stF (c : CirT) (k u : Nat) : Bool := if u < k then fS c u else false
theorem stF_s (c : CirT) (k : Nat) : ∀ u, stF c (k + 1) u = if u = k then fS c k else stF c k u := fun u => by
 unfold stF
 by_cases h : u = k
 ·subst h; rw [if_pos rfl, if_pos (by omega)]
 ·rw [if_neg h]
  by_cases h2 : u < k
  ·rw [if_pos h2, if_pos (by omega)]
  ·rw [if_neg h2, if_neg (by omega)]

def mrk (nx : List Bool) (row : List Int) : List Bool := row.foldl (fun l t => l.set t.toNat true) nx
def goTo (NX : List (List Int)) (now : List Bool) (n : Nat) : Nat -> List Bool
 | 0 => List.replicate n false
 | j + 1 => if now.getD j false then mrk (goTo NX now n j) (NX.getD j []) else goTo NX now n j
def hitTo (Bd now : List Bool) : Nat -> Bool
 | 0 => false
 | j + 1 => hitTo Bd now j || (now.getD j false && Bd.getD j false)
def stepsV (Bd : List Bool) (NX : List (List Int)) (n : Nat) : Nat -> Int -> List Bool -> Int
 | 0, _, _ => -1
 | f + 1, k, now => if hitTo Bd now n then k else stepsV Bd NX n f (k + 1) (goTo NX now n n)
theorem mrk_len (row : List Int) : ∀ nx : List Bool, (mrk nx row).length = nx.length := by
 unfold mrk
 induction row with
 | nil => exact fun _ => rfl
 | cons t r ih => intro nx; rw [List.foldl_cons, ih, List.length_set]
theorem mrk_snoc (nx : List Bool) (row : List Int) (t : Int) : mrk nx (row ++ [t]) = (mrk nx row).set t.toNat true := by unfold mrk; rw [List.foldl_append]; rfl
theorem goTo_len (NX : List (List Int)) (now : List Bool) (n : Nat) : ∀ j, (goTo NX now n j).length = n
 | 0 => List.length_replicate
 | j + 1 => by
  rw [goTo]; split
  ·rw [mrk_len, goTo_len NX now n j]
  ·exact goTo_len NX now n j
theorem hit_mono {Bd now : List Bool} {i : Nat} (h : hitTo Bd now i = true) : ∀ j, i <= j -> hitTo Bd now j = true
  | 0, hj => by obtain rfl : i = 0 := by omega
                exact h
  | j + 1, hj => by
    by_cases he : i = j + 1
    · rw [<- he]; exact h
    · rw [hitTo, hit_mono h j (by omega)]; rfl
theorem ref17_Steps (w : World) (sa ba na fa : Option Addr) (sc bc nc fc n most : Nat) (Bd F : List Bool) (rs : List (RowV Int)) (RB : Row 1 encB w ba Bd) (RN : Row 1 encRow w na rs) (hrs : ∀ r ∈ rs, Row 1 encI w r.1 r.2.2) (RF : Row 1 encB w fa F) (hB : Bd.length = n) (hN : rs.length = n) (hF : F.length = n)
  (hv : ∀ r ∈ rs, r.2.2.length <= 1000 /\ ∀ t ∈ r.2.2, 0 <= t /\ t < (n : Int)) (hn : n <= 1000) (hm : most <= 1000) (hfa : fa = none -> fc = 0) :
  Lt.Spec Try.prog 28 [.agg #[.slice sa n sc, .slice ba n bc, .slice na n nc], .slice fa n fc, .int .i64 most] w (fun v w' => Ext w w' /\ v = .int .i64 (stepsV Bd (rs.map fun r => r.2.2) n (most + 1) 0 F)) := by
 subst hF
 refine Spec.of _ Try.func28 rfl Try.ntmps28 (by kernel_rfl) rfl ?_
 repeat' (first | (apply WL.box; (iterate 3 exact rfl); intro gA w2 hb hge hc hx2; have hcc := hc; obtain ⟨h1, h2, h3, _⟩ := hc; (have hcA := hcc)) | (apply WL.lit (len := 0) tOk; (iterate 6 exact rfl); kernel_rfl; exact rfl; intro g12 w3 hb hge hc hx3; have hO0 := Own.ofB0 (enc := encB) (s := 1) hb hge) | (apply WL.appendS (w0 := w2) tOk eBk; (iterate 10 exact rfl); exact hO0; exact extA; exact rfl; exact RF; exact extA; exact rfl; exact hfa; exact rfl; exact extA; (simp only [List.length_nil]; omega); intro aN cN w4 hO4 hX4 hU4 hF4) | (first | apply WL.nil | refine WL.au (k := ?_)) | apply Z.tn | (first | apply W.seq | apply W.region | apply W.block))
 have hO4' : Own 1 encB 4 w2.heap.size w4 aN cN F := hO4
 clear hO0 hcc h1 h2 h3
 obtain ⟨tot, htot⟩ : ∃ t, t = stepsV Bd (rs.map fun r => r.2.2) F.length (most + 1) 0 F := ⟨_, rfl⟩
 rw [<- htot]
 refine W.loop (σ := (Option Addr × Nat × List Bool × Nat) × World) (fun s => s.1.2.2.2 <= most + 1 /\ Ext w2 s.2 /\ s.1.2.2.1.length = F.length /\ Own 1 encB 4 w2.heap.size s.2 s.1.1 s.1.2.1 s.1.2.2.1 /\ tot = stepsV Bd (rs.map fun r => r.2.2) F.length (most + 1 - s.1.2.2.2) s.1.2.2.2 s.1.2.2.1) (fun s => [(2, .int .i64 most), (3, .pointer (some ⟨gA, 0, none⟩)), (7, .slice s.1.1 F.length s.1.2.1), (8, .int .i64 s.1.2.2.2)]) (fun s => s.2) (fun s => most + 2 - s.1.2.2.2) ((aN, cN, F, 0), w4) ⟨Nat.zero_le _, hX4, rfl, hO4', htot⟩ ⟨rfl, rfl, rfl, rfl, trivial⟩ rfl ?_
 clear hO4 hO4' hX4 hU4 hF4 hx3 RF htot
 rintro ⟨⟨a, c, now, k⟩, w5⟩ ⟨hk, hX5, hnl, hOn, hE⟩
 dsimp only at hk hX5 hnl hOn hE ⊢
 by_cases hlt : k < most + 1
 rotate_left
 ·obtain rfl : k = most + 1 := by omega
  rw [Nat.sub_self] at hE
  have hE' : tot = -1 := hE
  repeat' (first | (first | apply WL.nil | refine WL.au (k := ?_)) | apply Z.tn | (first | apply W.seq | apply W.region))
  refine W.cKF rfl (dFf (by omega)) ?_
  repeat' (first | (first | apply WL.nil | refine WL.au (k := ?_)) | (first | apply Z.tn | apply Z.tnx | apply Z.bkx) | (first | apply W.seq | apply W.region | apply W.ret | apply W.exit))
  exact Z.bd1 Try.results28 rfl fun m => ⟨Ext.at (hx2.trans hX5) m, by rw [hE']⟩
 obtain ⟨f, hf⟩ : ∃ f, most + 1 - k = f + 1 := ⟨most - k, by omega⟩
 rw [hf, stepsV] at hE
 repeat' (first | (first | apply WL.nil | refine WL.au (k := ?_)) | apply Z.tn | (first | apply W.seq | apply W.region))
 refine W.cKT rfl (dTt (by omega)) ?_
 repeat' (first | (apply WL.make (w0 := w2) (z := (false)) tOk; (iterate 9 exact rfl); exact eBk; exact rfl; exact rfl; exact extA; omega; intro g9 w6 hO9 hge9 hx6) | (first | apply WL.nil | refine WL.au (k := ?_)) | apply Z.tn | (first | apply W.seq | apply W.region | apply W.block | apply W.skip))
 have hS6 : Lt.Sep w2.heap.size w6 [prow 1 encB 4 w2.heap.size (some ⟨g9, 0, none⟩) F.length (goTo (rs.map fun r => r.2.2) now F.length 0), prow 1 encB 4 w2.heap.size a c now] := Sep.newRow (Sep.ext (Sep.newRow (w := w2) Sep.none' hX5 hOn (fun k hk => (hOn.blk_lt k hk).1) (Nat.le_refl _)) (Ext.refl _)) hx6 hO9 (fun k hk => by cases hk; exact hge9) (Below.size hX5)
 have hX6 : Ext w2 w6 := hX5.trans hx6
 clear hOn hO9
 refine W.loopW F.length (fun j w' => j <= F.length /\ Ext w2 w' /\ Lt.Sep w2.heap.size w' [prow 1 encB 4 w2.heap.size (some ⟨g9, 0, none⟩) F.length (goTo (rs.map fun r => r.2.2) now F.length j), prow 1 encB 4 w2.heap.size a c now] /\ hitTo Bd now j = false) (fun j => [(2, .int .i64 most), (3, .pointer (some ⟨gA, 0, none⟩)), (7, .slice a F.length c), (8, .int .i64 k), (9, .slice (some ⟨g9, 0, none⟩) F.length F.length), (10, .int .i64 j)]) ⟨Nat.zero_le _, hX6, hS6, rfl⟩ (fun k w' h => h.1) ⟨rfl, rfl, rfl, rfl, (by show some (Value.slice _ (List.replicate F.length false).length _) = _; rw [List.length_replicate]; rfl), rfl, trivial⟩ ?_
 clear hS6 hX6 hx6 hX5
 rintro j w5 ⟨hj, hX5, hS5, hhit⟩
 have hOn := hS5.row (i := 1) rfl
 have RNow := hOn.row eBk
 have hX25 : Ext w w5 := hx2.trans hX5
 have RB5 := RB.ext hX25
 have RN5 := RN.ext hX25
 have hc5 := Cells.ext hX5 hcA
 obtain ⟨n0, n1, n2, _⟩ := id hc5
 by_cases hjl : j < F.length
 ·obtain ⟨bv, hbv⟩ := getI now (show j < now.length by omega)
  obtain ⟨dv, hdv⟩ := getI Bd (show j < Bd.length by omega)
  obtain ⟨r, hr⟩ := getI rs (show j < rs.length by omega)
  have hrow := (hrs r (List.mem_of_getElem? hr)).ext hX25
  have hrb := hv r (List.mem_of_getElem? hr)
  have hrl := hrb.1
  have hNX : (rs.map fun r => r.2.2).getD j [] = r.2.2 := gDo (by rw [List.getElem?_map, hr]; rfl)
  have hgo : goTo (rs.map fun r => r.2.2) now F.length (j + 1) = if bv then mrk (goTo (rs.map fun r => r.2.2) now F.length j) r.2.2 else goTo (rs.map fun r => r.2.2) now F.length j := by rw [goTo, gDo hbv, hNX]
  have hhs : hitTo Bd now (j + 1) = (bv && dv) := by rw [hitTo, hhit, gDo hbv, gDo hdv]; rfl
  have hgl := goTo_len (rs.map fun r => r.2.2) now F.length j
  cases bv with
  | false =>
   rw [if_neg (by decide)] at hgo
   repeat' (first | (first | apply WL.nil | refine WL.au (k := ?_)) | apply Z.tn | (first | apply W.seq | apply W.region))
   refine W.cKT rfl (dTt (by omega)) ?_
   repeat' (first | (apply WL.index tOk; (iterate 8 exact rfl); exact RNow; exact extA; exact hnl; omega; exact hbv; intro b off h; have hcc := h; obtain ⟨h1, _⟩ := h) | (first | apply WL.nil | refine WL.au (k := ?_) | (apply WL.gdF; exact rfl; exact rfl)) | apply Z.tn | (first | apply W.seq | apply W.region | apply W.block | apply W.skip))
   refine W.cKF rfl rfl ?_
   repeat' (first | (first | apply WL.nil | refine WL.au (k := ?_)) | apply Z.tn | (first | apply W.seq | apply W.region | apply W.block | apply W.skip))
   refine W.loopW 0 (fun i w' => i = 0 /\ w' = w5) (fun i => [(2, .int .i64 most), (3, .pointer (some ⟨gA, 0, none⟩)), (7, .slice a F.length c), (8, .int .i64 k), (9, .slice (some ⟨g9, 0, none⟩) F.length F.length), (10, .int .i64 j), (11, .int .i64 i)]) ⟨rfl, rfl⟩ (fun k w' h => Nat.le_of_eq h.1) ⟨rfl, rfl, rfl, rfl, rfl, rfl, rfl, trivial⟩ ?_
   rintro i w6 ⟨rfl, rfl⟩
   by_cases hl0 : 0 < r.2.2.length
   ·repeat' (first | (apply WL.gT; exact rfl; exact rfl; exact dTt (by omega)) | (apply WL.index tOk; (iterate 8 exact rfl); exact RN5; exact extA; exact hN; omega; exact hr; intro b off h; have hcc := h; obtain ⟨h1, _⟩ := h) | (apply WL.index tOk; (iterate 8 exact rfl); exact RNow; exact extA; exact hnl; omega; exact hbv; intro b off h; have hcc := h; obtain ⟨h1, _⟩ := h) | (first | apply WL.nil | refine WL.au (k := ?_)) | apply Z.tn | (first | apply W.seq | apply W.region))
    refine W.cKF rfl rfl ?_
    repeat' (first | (first | apply WL.nil | refine WL.au (k := ?_)) | (first | apply Z.tn | apply Z.bkn | apply Z.tnx | apply Z.bkx) | (first | apply W.region | apply W.exit))
    exact Z.agW ⟨by omega, hX5, by rw [hgo]; exact hS5, hhs⟩ ⟨rfl, rfl, rfl, rfl, rfl, rfl, trivial⟩
   ·repeat' (first | (apply WL.gF; exact rfl; exact rfl; exact dFf (by omega)) | (apply WL.index tOk; (iterate 8 exact rfl); exact RN5; exact extA; exact hN; omega; exact hr; intro b off h; have hcc := h; obtain ⟨h1, _⟩ := h) | (first | apply WL.nil | refine WL.au (k := ?_) | (apply WL.gdF; exact rfl; exact rfl)) | apply Z.tn | (first | apply W.seq | apply W.region))
    refine W.cKF rfl rfl ?_
    repeat' (first | (first | apply WL.nil | refine WL.au (k := ?_)) | (first | apply Z.tn | apply Z.bkn | apply Z.tnx | apply Z.bkx) | (first | apply W.region | apply W.exit))
    exact Z.agW ⟨by omega, hX5, by rw [hgo]; exact hS5, hhs⟩ ⟨rfl, rfl, rfl, rfl, rfl, rfl, trivial⟩
  | true =>
   rw [if_pos rfl] at hgo
   cases dv with
   | true =>
    rw [if_pos (hit_mono hhs _ (by omega))] at hE
    repeat' (first | (first | apply WL.nil | refine WL.au (k := ?_)) | apply Z.tn | (first | apply W.seq | apply W.region))
    refine W.cKT rfl (dTt (by omega)) ?_
    repeat' (first | (apply WL.index tOk; (iterate 8 exact rfl); exact RNow; exact extA; exact hnl; omega; exact hbv; intro b off h; have hcc := h; obtain ⟨h1, _⟩ := h) | (apply WL.index tOk; (iterate 8 exact rfl); exact RB5; exact extA; exact hB; omega; exact hdv; intro b off h; have hcc := h; obtain ⟨h1, _⟩ := h) | (first | apply WL.nil | refine WL.au (k := ?_)) | apply Z.tn | (first | apply W.seq | apply W.region | apply W.block | apply W.skip))
    refine W.cKT rfl rfl ?_
    repeat' (first | (first | apply WL.nil | refine WL.au (k := ?_)) | (first | apply Z.tn | apply Z.tnr | apply Z.bkr) | (first | apply W.seq | apply W.region | apply W.ret))
    exact Z.bd1 Try.results28 rfl fun m => ⟨Ext.at (hx2.trans hX5) m, by rw [hE]⟩
   | false =>
    repeat' (first | (first | apply WL.nil | refine WL.au (k := ?_)) | apply Z.tn | (first | apply W.seq | apply W.region))
    refine W.cKT rfl (dTt (by omega)) ?_
    repeat' (first | (apply WL.index tOk; (iterate 8 exact rfl); exact RNow; exact extA; exact hnl; omega; exact hbv; intro b off h; have hcc := h; obtain ⟨h1, _⟩ := h) | (apply WL.index tOk; (iterate 8 exact rfl); exact RB5; exact extA; exact hB; omega; exact hdv; intro b off h; have hcc := h; obtain ⟨h1, _⟩ := h) | (first | apply WL.nil | refine WL.au (k := ?_)) | apply Z.tn | (first | apply W.seq | apply W.region | apply W.block | apply W.skip))
    refine W.cKF rfl rfl ?_
    repeat' (first | (first | apply WL.nil | refine WL.au (k := ?_)) | apply Z.tn | (first | apply W.seq | apply W.region | apply W.block | apply W.skip))
    have hm0 : mrk (goTo (rs.map fun r => r.2.2) now F.length j) (r.2.2.take 0) = goTo (rs.map fun r => r.2.2) now F.length j := by rw [List.take_zero]; rfl
    refine W.loopW r.2.2.length (fun i w' => i <= r.2.2.length /\ Ext w2 w' /\ Lt.Sep w2.heap.size w' [prow 1 encB 4 w2.heap.size (some ⟨g9, 0, none⟩) F.length (mrk (goTo (rs.map fun r => r.2.2) now F.length j) (r.2.2.take i)), prow 1 encB 4 w2.heap.size a c now]) (fun i => [(2, .int .i64 most), (3, .pointer (some ⟨gA, 0, none⟩)), (7, .slice a F.length c), (8, .int .i64 k), (9, .slice (some ⟨g9, 0, none⟩) F.length F.length), (10, .int .i64 j), (11, .int .i64 i)]) ⟨Nat.zero_le _, hX5, by rw [hm0]; exact hS5⟩ (fun k w' h => h.1) ⟨rfl, rfl, rfl, rfl, rfl, rfl, rfl, trivial⟩ ?_
    clear hS5 hX5 hOn RNow hX25 RB5 RN5 hc5 n0 n1 n2 hrow hm0
    rintro i w6 ⟨hi, hX5, hS5⟩
    have hOn := hS5.row (i := 1) rfl
    have hOx := hS5.row (i := 0) rfl
    have RNow := hOn.row eBk
    have hX25 : Ext w w6 := hx2.trans hX5
    have RN5 := RN.ext hX25
    have hc5 := Cells.ext hX5 hcA
    have hrow := (hrs r (List.mem_of_getElem? hr)).ext hX25
    obtain ⟨n0, n1, n2, _⟩ := id hc5
    by_cases hil : i < r.2.2.length
    ·obtain ⟨t, htt⟩ := getI r.2.2 hil
     have htb := hrb.2 t (List.mem_of_getElem? htt)
     have hml : (mrk (goTo (rs.map fun r => r.2.2) now F.length j) (r.2.2.take i)).length = F.length := (mrk_len _ _).trans hgl
     obtain ⟨zv, hzv⟩ := getI (mrk (goTo (rs.map fun r => r.2.2) now F.length j) (r.2.2.take i)) (show t.toNat < _ by rw [hml]; omega)
     have hst : mrk (goTo (rs.map fun r => r.2.2) now F.length j) (r.2.2.take (i + 1)) = (mrk (goTo (rs.map fun r => r.2.2) now F.length j) (r.2.2.take i)).set t.toNat true := by rw [tkS htt, mrk_snoc]
     generalize mrk (goTo (rs.map fun r => r.2.2) now F.length j) (r.2.2.take i) = M at *
     repeat' (first | (apply WL.gT; exact rfl; exact rfl; exact dTt (by omega)) | (apply WL.index tOk; (iterate 8 exact rfl); exact RN5; exact extA; exact hN; omega; exact hr; intro b off h; have hcc := h; obtain ⟨h1, _⟩ := h) | (apply WL.index tOk; (iterate 8 exact rfl); exact RNow; exact extA; exact hnl; omega; exact hbv; intro b off h; have hcc := h; obtain ⟨h1, _⟩ := h) | (first | apply WL.nil | refine WL.au (k := ?_)) | apply Z.tn | (first | apply W.seq | apply W.region))
     refine W.cKT rfl rfl ?_
     repeat' (first | (apply WL.index tOk; (iterate 8 exact rfl); exact hrow; exact extA; exact rfl; omega; exact htt; intro b off h; have hcc := h; obtain ⟨h1, _⟩ := h) | (apply WL.index tOk; (iterate 8 exact rfl); exact RN5; exact extA; exact hN; omega; exact hr; intro b off h; have hcc := h; obtain ⟨h1, _⟩ := h) | (apply WL.indexO tOk; (iterate 8 exact rfl); assumption; exact extA; exact eBk; ((focus (simp [*]; done))); omega; assumption; intro gb ha hc; cases ha; have hcc := hc; first | (obtain ⟨h1, h2, h3, _⟩ := hc) | (obtain ⟨h1, h2, _⟩ := hc) | (obtain ⟨h1, _⟩ := hc)) | (apply WL.storeO (z' := (true)) tOk; (iterate 4 exact rfl); assumption; exact extA; (iterate 3 exact rfl); exact eBk; assumption; exact rfl; exact extA; intro w' hO hX' hU) | (first | apply WL.nil | refine WL.au (k := ?_)) | (first | apply Z.tn | apply Z.bkn) | (first | apply W.seq | apply W.region | apply W.block | apply W.skip))
     have hS6 := Sep.uRw (i := 0) rfl hU hO (.inl rfl) hS5 extA (Below.size hX5)
     exact Z.agW ⟨by omega, (show Ext w2 w' from extA), by rw [hst]; exact hS6⟩ ⟨rfl, rfl, rfl, rfl, rfl, rfl, rfl, trivial⟩
    obtain rfl : i = r.2.2.length := by omega
    rw [List.take_length] at hS5
    repeat' (first | (apply WL.gF; exact rfl; exact rfl; exact dFf (by omega)) | (apply WL.index tOk; (iterate 8 exact rfl); exact RN5; exact extA; exact hN; omega; exact hr; intro b off h; have hcc := h; obtain ⟨h1, _⟩ := h) | (first | apply WL.nil | refine WL.au (k := ?_) | (apply WL.gdF; exact rfl; exact rfl)) | apply Z.tn | (first | apply W.seq | apply W.region))
    refine W.cKF rfl rfl ?_
    repeat' (first | (first | apply WL.nil | refine WL.au (k := ?_)) | (first | apply Z.tn | apply Z.bkn | apply Z.tnx | apply Z.bkx) | (first | apply W.region | apply W.exit))
    exact Z.agW ⟨by omega, hX5, by rw [hgo]; exact hS5, hhs⟩ ⟨rfl, rfl, rfl, rfl, rfl, rfl, trivial⟩
 obtain rfl : j = F.length := by omega
 rw [if_neg (by rw [hhit]; decide)] at hE
 repeat' (first | (first | apply WL.nil | refine WL.au (k := ?_)) | apply Z.tn | (first | apply W.seq | apply W.region))
 refine W.cKF rfl (dFf (by omega)) ?_
 repeat' (first | (first | apply WL.nil | refine WL.au (k := ?_)) | (first | apply Z.tn | apply Z.bkn | apply Z.tnx | apply Z.bkx) | (first | apply W.region | apply W.exit))
 have hgl := goTo_len (rs.map fun r => r.2.2) now F.length F.length
 exact Z.again ((some ⟨g9, 0, none⟩, F.length, goTo (rs.map fun r => r.2.2) now F.length F.length, k + 1), w5) ⟨by dsimp only; omega, hX5, hgl, hS5.row (i := 0) rfl, by dsimp only; rw [show most + 1 - (k + 1) = f by omega]; exact hE⟩ (by dsimp only; omega) ⟨rfl, rfl, rfl, rfl, trivial⟩ rfl

theorem hit_iff {Bd now : List Bool} : ∀ n, hitTo Bd now n = true ↔ ∃ j, j < n /\ now.getD j false = true /\ Bd.getD j false = true
 | 0 => ⟨(fun h => by cases h), fun ⟨_, h, _⟩ => absurd h (Nat.not_lt_zero _)⟩
 | n + 1 => by
  rw [hitTo, Bool.or_eq_true, Bool.and_eq_true, hit_iff n]
  constructor
  ·rintro (⟨j, h1, h2, h3⟩ | ⟨h2, h3⟩)
   ·exact ⟨j, by omega, h2, h3⟩
   ·exact ⟨n, by omega, h2, h3⟩
  ·rintro ⟨j, h1, h2, h3⟩
   by_cases h : j = n
   ·subst h; exact .inr ⟨h2, h3⟩
   ·exact .inl ⟨j, by omega, h2, h3⟩
theorem mrk_iff : ∀ (row : List Int) {n : Nat} (_ : ∀ t ∈ row, 0 <= t /\ t < (n : Int)) (nx : List Bool) (_ : nx.length = n) (u : Nat), (mrk nx row).getD u false = true ↔ nx.getD u false = true ∨ (u : Int) ∈ row
 | [], _, _, nx, _, u => by simp [mrk]
 | t :: r, n, hr, nx, hn, u => by
  have ht := hr t (List.mem_cons_self ..)
  have h := mrk_iff r (n := n) (fun x hx => hr x (List.mem_cons_of_mem _ hx)) (nx.set t.toNat true) (by rw [List.length_set]; exact hn) u
  have e : mrk nx (t :: r) = mrk (nx.set t.toNat true) r := rfl
  rw [e, h, getD_setB, List.mem_cons]
  by_cases hu : u = t.toNat
  ·rw [if_pos ⟨hu, by omega⟩]
   exact ⟨fun _ => .inr (.inl (by omega)), fun _ => .inl rfl⟩
  ·rw [if_neg (fun h => hu h.1)]
   constructor
   ·rintro (h | h)
    ·exact .inl h
    ·exact .inr (.inr h)
   ·rintro (h | h | h)
    ·exact .inl h
    ·exact absurd (by omega) hu
    ·exact .inr h
theorem rep_falseB {n u : Nat} : (List.replicate n false).getD u false = false := by
 rw [List.getD_eq_getElem?_getD, List.getElem?_replicate]
 split <;> rfl
theorem goTo_iff {NX : List (List Int)} {now : List Bool} {n : Nat} (hr : ∀ j, ∀ t ∈ NX.getD j [], 0 <= t /\ t < (n : Int)) : ∀ m u, (goTo NX now n m).getD u false = true ↔ ∃ j, j < m /\ now.getD j false = true /\ (u : Int) ∈ NX.getD j []
 | 0, u => by
  rw [goTo, rep_falseB]
  exact ⟨(fun h => by cases h), fun ⟨_, h, _⟩ => absurd h (Nat.not_lt_zero _)⟩
 | m + 1, u => by
  rw [goTo]
  by_cases h : now.getD m false = true
  ·rw [if_pos h, mrk_iff _ (hr m) _ (goTo_len NX now n m), goTo_iff hr m u]
   constructor
   ·rintro (⟨j, h1, h2, h3⟩ | h3)
    ·exact ⟨j, by omega, h2, h3⟩
    ·exact ⟨m, by omega, h, h3⟩
   ·rintro ⟨j, h1, h2, h3⟩
    by_cases hj : j = m
    ·subst hj; exact .inr h3
    ·exact .inl ⟨j, by omega, h2, h3⟩
  ·rw [if_neg h, goTo_iff hr m u]
   constructor
   ·rintro ⟨j, h1, h2, h3⟩
    exact ⟨j, by omega, h2, h3⟩
   ·rintro ⟨j, h1, h2, h3⟩
    by_cases hj : j = m
    ·subst hj; exact absurd h2 h
    ·exact ⟨j, by omega, h2, h3⟩
structure Bis (R : Nat -> Nat -> Prop) (B1 B2 : List Bool) (X1 X2 : List (List Int)) : Prop where
 bad : ∀ a b, R a b -> B1.getD a false = B2.getD b false
 fwd : ∀ a b, R a b -> ∀ t : Nat, (t : Int) ∈ X1.getD a [] -> ∃ u : Nat, (u : Int) ∈ X2.getD b [] /\ R t u
 bwd : ∀ a b, R a b -> ∀ u : Nat, (u : Int) ∈ X2.getD b [] -> ∃ t : Nat, (t : Int) ∈ X1.getD a [] /\ R t u
def Both (R : Nat -> Nat -> Prop) (F1 F2 : List Bool) : Prop := (∀ a, F1.getD a false = true -> ∃ b, F2.getD b false = true /\ R a b) /\ (∀ b, F2.getD b false = true -> ∃ a, F1.getD a false = true /\ R a b)
theorem getD_lt {l : List Bool} {a : Nat} (h : l.getD a false = true) : a < l.length := by
 rw [List.getD_eq_getElem?_getD] at h
 by_cases ha : a < l.length
 ·exact ha
 ·rw [List.getElem?_eq_none (by omega)] at h; cases h
section
variable {R : Nat -> Nat -> Prop} {B1 B2 : List Bool} {X1 X2 : List (List Int)} {n1 n2 : Nat}
theorem both_hit (hB : Bis R B1 B2 X1 X2) {F1 F2 : List Bool} (l1 : F1.length = n1) (l2 : F2.length = n2) (h : Both R F1 F2) : hitTo B1 F1 n1 = hitTo B2 F2 n2 := by
 rw [Bool.eq_iff_iff, hit_iff, hit_iff]
 constructor
 ·rintro ⟨a, _, h2, h3⟩
  obtain ⟨b, h4, h5⟩ := h.1 a h2
  exact ⟨b, by rw [<- l2]; exact getD_lt h4, h4, by rw [<- hB.bad a b h5]; exact h3⟩
 ·rintro ⟨b, _, h2, h3⟩
  obtain ⟨a, h4, h5⟩ := h.2 b h2
  exact ⟨a, by rw [<- l1]; exact getD_lt h4, h4, by rw [hB.bad a b h5]; exact h3⟩
theorem both_go (hB : Bis R B1 B2 X1 X2) (r1 : ∀ j, ∀ t ∈ X1.getD j [], 0 <= t /\ t < (n1 : Int)) (r2 : ∀ j, ∀ t ∈ X2.getD j [], 0 <= t /\ t < (n2 : Int)) {F1 F2 : List Bool} (l1 : F1.length = n1) (l2 : F2.length = n2) (h : Both R F1 F2) : Both R (goTo X1 F1 n1 n1) (goTo X2 F2 n2 n2) := by
 constructor
 ·intro t ht
  obtain ⟨a, _, h2, h3⟩ := (goTo_iff r1 n1 t).1 ht
  obtain ⟨b, h4, h5⟩ := h.1 a h2
  obtain ⟨u, h6, h7⟩ := hB.fwd a b h5 t h3
  exact ⟨u, (goTo_iff r2 n2 u).2 ⟨b, by rw [<- l2]; exact getD_lt h4, h4, h6⟩, h7⟩
 ·intro u hu
  obtain ⟨b, _, h2, h3⟩ := (goTo_iff r2 n2 u).1 hu
  obtain ⟨a, h4, h5⟩ := h.2 b h2
  obtain ⟨t, h6, h7⟩ := hB.bwd a b h5 u h3
  exact ⟨t, (goTo_iff r1 n1 t).2 ⟨a, by rw [<- l1]; exact getD_lt h4, h4, h6⟩, h7⟩
theorem steps_same (hB : Bis R B1 B2 X1 X2) (r1 : ∀ j, ∀ t ∈ X1.getD j [], 0 <= t /\ t < (n1 : Int)) (r2 : ∀ j, ∀ t ∈ X2.getD j [], 0 <= t /\ t < (n2 : Int)) : ∀ (f : Nat) (k : Int) (F1 F2 : List Bool), F1.length = n1 -> F2.length = n2 -> Both R F1 F2 -> stepsV B1 X1 n1 f k F1 = stepsV B2 X2 n2 f k F2
 | 0, _, _, _, _, _, _ => rfl
 | f + 1, k, F1, F2, l1, l2, h => by
  rw [stepsV, stepsV, both_hit hB l1 l2 h]
  split
  ·rfl
  ·exact steps_same hB r1 r2 f (k + 1) _ _ (goTo_len ..) (goTo_len ..) (both_go hB r1 r2 l1 l2 h)
end
theorem bitsL_get (n : Nat) : ∀ m j, j < m -> (bitsL n m).getD j false = n.testBit j
 | 0, j, h => absurd h (Nat.not_lt_zero _)
 | m + 1, j, h => by
  have hl := bitsL_len n m
  rw [bitsL, List.getD_eq_getElem?_getD]
  by_cases hj : j = m
  ·subst hj
   rw [List.getElem?_append_right (by omega), hl, Nat.sub_self, Nat.testBit_eq_decide_div_mod_eq]; rfl
  ·rw [List.getElem?_append_left (by omega), <- List.getD_eq_getElem?_getD]
   exact bitsL_get n m j (by omega)
theorem bits_num (s : List Bool) : bitsL (numB s) s.length = s := by
 apply List.ext_getElem?
 intro j
 by_cases h : j < s.length
 ·have h1 := (numB_is s (numB s) (numB_lt s)).1 rfl j h
  have h2 := bitsL_get (numB s) s.length j h
  rw [<- h1] at h2
  rw [List.getD_eq_getElem?_getD, List.getD_eq_getElem?_getD, List.getElem?_eq_getElem h, List.getElem?_eq_getElem (by rw [bitsL_len]; exact h)] at h2
  rw [List.getElem?_eq_getElem h, List.getElem?_eq_getElem (by rw [bitsL_len]; exact h)]
  exact congrArg some h2
 ·rw [List.getElem?_eq_none (by rw [bitsL_len]; omega), List.getElem?_eq_none (by omega)]
theorem bits_num' {s : List Bool} {m : Nat} (h : s.length = m) : bitsL (numB s) m = s := by rw [<- h]; exact bits_num s
theorem num_lt' {s : List Bool} {m : Nat} (h : s.length = m) : numB s < 2 ^ m := by rw [<- h]; exact numB_lt s
theorem anyTo_iff (f : Nat -> Bool) : ∀ n, anyTo f n = true ↔ ∃ i, i < n /\ f i = true
 | 0 => ⟨(fun h => by cases h), fun ⟨_, h, _⟩ => absurd h (Nat.not_lt_zero _)⟩
 | n + 1 => by
  rw [anyTo, Bool.or_eq_true, anyTo_iff f n]
  constructor
  ·rintro (⟨j, h1, h2⟩ | h2)
   ·exact ⟨j, by omega, h2⟩
   ·exact ⟨n, by omega, h2⟩
  ·rintro ⟨j, h1, h2⟩
   by_cases h : j = n
   ·subst h; exact .inr h2
   ·exact .inl ⟨j, by omega, h2⟩
noncomputable def bJ (c : CirT) (p : Int) (s i : Nat) : Bool := dec (HoldsP c (bitsL s c.lat.length) (bitsL i c.ins.length) /\ BadP c (bitsL s c.lat.length) (bitsL i c.ins.length) p)
open Classical in
noncomputable def nJ (c : CirT) (s : Nat) : Nat -> List Int
 | 0 => []
 | i + 1 => if HoldsP c (bitsL s c.lat.length) (bitsL i c.ins.length) then nJ c s i ++ [nI c s i] else nJ c s i
theorem nJ_yes {c : CirT} {s i : Nat} (h : HoldsP c (bitsL s c.lat.length) (bitsL i c.ins.length)) : nJ c s (i + 1) = nJ c s i ++ [nI c s i] := if_pos h
theorem nJ_no {c : CirT} {s i : Nat} (h : ¬ HoldsP c (bitsL s c.lat.length) (bitsL i c.ins.length)) : nJ c s (i + 1) = nJ c s i := if_neg h
theorem nJ_iff (c : CirT) (s : Nat) (t : Int) : ∀ k, t ∈ nJ c s k ↔ ∃ i, i < k /\ HoldsP c (bitsL s c.lat.length) (bitsL i c.ins.length) /\ t = nI c s i
 | 0 => ⟨(fun h => by cases h), fun ⟨_, h, _⟩ => absurd h (Nat.not_lt_zero _)⟩
 | k + 1 => by
  by_cases hh : HoldsP c (bitsL s c.lat.length) (bitsL k c.ins.length)
  ·rw [nJ_yes hh, List.mem_append, List.mem_singleton, nJ_iff c s t k]
   constructor
   ·rintro (⟨j, h1, h2⟩ | h2)
    ·exact ⟨j, by omega, h2⟩
    ·exact ⟨k, by omega, hh, h2⟩
   ·rintro ⟨j, h1, h2, h3⟩
    by_cases h : j = k
    ·subst h; exact .inr h3
    ·exact .inl ⟨j, by omega, h2, h3⟩
  ·rw [nJ_no hh, nJ_iff c s t k]
   constructor
   ·rintro ⟨j, h1, h2⟩
    exact ⟨j, by omega, h2⟩
   ·rintro ⟨j, h1, h2, h3⟩
    by_cases h : j = k
    ·subst h; exact absurd h2 hh
    ·exact ⟨j, by omega, h2, h3⟩
theorem nJ_len (c : CirT) (s : Nat) : ∀ k, (nJ c s k).length <= k
 | 0 => Nat.le_refl _
 | k + 1 => by
  have := nJ_len c s k
  by_cases hh : HoldsP c (bitsL s c.lat.length) (bitsL k c.ins.length)
  ·rw [nJ_yes hh, List.length_append, List.length_singleton]; omega
  ·rw [nJ_no hh]; omega
theorem nI_range (c : CirT) (s i : Nat) : 0 <= nI c s i /\ nI c s i < ((2 ^ c.lat.length : Nat) : Int) := by
 have h := num_lt' (nextV_len c (bitsL s c.lat.length) (bitsL i c.ins.length))
 unfold nI
 exact ⟨Int.natCast_nonneg _, Int.ofNat_lt.2 h⟩
noncomputable def wBad (c : CirT) (p : Int) : List Bool := tab (2 ^ c.lat.length) (fun s => anyTo (bJ c p s) (2 ^ c.ins.length))
noncomputable def wNext (c : CirT) : List (List Int) := tab (2 ^ c.lat.length) (fun s => nJ c s (2 ^ c.ins.length))
noncomputable def wFrom (c : CirT) : List Bool := tab (2 ^ c.lat.length) (fS c)
theorem tab_getX {α : Type} {m : Nat} (f : Nat -> α) (d : α) {j : Nat} : (tab m f).getD j d = if j < m then f j else d := by
 by_cases h : j < m
 ·rw [if_pos h, gDo (tab_get _ h)]
 ·rw [if_neg h, List.getD_eq_getElem?_getD, List.getElem?_eq_none (by rw [tab_len]; omega)]; rfl
theorem wNext_range (c : CirT) (j : Nat) : ∀ t ∈ (wNext c).getD j [], 0 <= t /\ t < ((2 ^ c.lat.length : Nat) : Int) := by
 intro t ht
 unfold wNext at ht
 rw [tab_getX] at ht
 split at ht
 ·obtain ⟨i, _, _, rfl⟩ := (nJ_iff c j t _).1 ht
  exact nI_range c j i
 ·cases ht
theorem wNext_mem {c : CirT} {row : List Int} (h : row ∈ wNext c) : row.length <= 2 ^ c.ins.length /\ ∀ t ∈ row, 0 <= t /\ t < ((2 ^ c.lat.length : Nat) : Int) := by
 obtain ⟨j, hj⟩ := List.mem_iff_getElem?.1 h
 have e : (wNext c).getD j [] = row := gDo hj
 refine ⟨?_, fun t ht => wNext_range c j t (by rw [e]; exact ht)⟩
 rw [<- e]
 unfold wNext
 rw [tab_getX]
 split
 ·exact nJ_len _ _ _
 ·exact Nat.zero_le _
section
variable {c : CirT} {prop : Int}
def FolR (c : CirT) (prop : Int) (a b : Nat) : Prop := a < 2 ^ c.lat.length /\ b < 2 ^ (redC c prop).lat.length /\ StkAt c (bitsL a c.lat.length) /\ bitsL b (redC c prop).lat.length = tookL (laV c prop) (bitsL a c.lat.length)
theorem took_extI' {r : List Bool} (h : r.length = (redC c prop).ins.length) : tookL (inV c prop) (extI c prop r) = r := by
 rw [took_extI]
 rw [red_inslen] at h
 rw [<- h, brV_self]
theorem took_extS' {s : List Bool} (h : s.length = (redC c prop).lat.length) : tookL (laV c prop) (extS c prop s) = s := by
 rw [took_extS]
 rw [red_latlen] at h
 rw [<- h, brV_self]
theorem red_starts (hg : GoodC' c) {s : List Bool} (h : StartsP c s) : StartsP (redC c prop) (tookL (laV c prop) s) := by
 refine ⟨by rw [took_len, red_latlen], fun k x b hx hb => ?_⟩
 have hk : k < (laV c prop).length := by have := lGt hx; rwa [red_latlen] at this
 obtain ⟨j, hj⟩ := getI (laV c prop) hk
 have hm := List.mem_of_getElem? hj
 obtain ⟨hd1, hd2⟩ := latD_mem hm
 have hjb := sel_bd j hm
 obtain ⟨y, hy⟩ := getI s (show j.toNat < s.length by rw [h.1]; omega)
 have e : b = y := by
  have h1 := took_get (s := s) hj
  rw [gDo hb, gDo hy] at h1; exact h1
 subst e
 have h2 := h.2 j.toNat _ _ hd2 hy
 have h3 := red_lat hj
 rw [hx] at h3
 have h4 := Option.some.inj h3
 rw [h4]
 dsimp only
 have h6 : 2 <= (latD c j).1 := lat_own hg hd1
 by_cases h5 : 1 < (latD c j).2.2
 ·rw [if_pos h5]
  exact ⟨fun hh => (by have := hh.1; omega), fun hh => (by have := hh.1; omega)⟩
 ·rw [if_neg h5]; exact h2
theorem fol_bis (hg : GoodC' c) (hz : SzC c 100000) : Bis (FolR c prop) (wBad c prop) (wBad (redC c prop) 0) (wNext c) (wNext (redC c prop)) := by
 obtain ⟨L, hL⟩ : ∃ L, L = c.lat.length := ⟨_, rfl⟩
 refine ⟨fun a b h => ?_, fun a b h t ht => ?_, fun a b h u hu => ?_⟩
 ·obtain ⟨h1, h2, h3, h4⟩ := h
  have hl := bitsL_len a c.lat.length
  unfold wBad
  rw [tab_getX, if_pos h1, tab_getX, if_pos h2, Bool.eq_iff_iff, anyTo_iff, anyTo_iff]
  constructor
  ·rintro ⟨i, _, hi⟩
   have hi' := dec_iff.1 hi
   refine ⟨numB (tookL (inV c prop) (bitsL i c.ins.length)), num_lt' (by rw [took_len, red_inslen]), dTt ?_⟩
   rw [bits_num' (by rw [took_len, red_inslen]), h4]
   exact ⟨(red_holds hg hz hl h3 _).2 hi'.1, (red_bad hg hz hl h3 _).2 hi'.2⟩
  ·rintro ⟨i, _, hi⟩
   have hi' := dec_iff.1 hi
   have hil := bitsL_len i (redC c prop).ins.length
   have e := took_extI' (c := c) (prop := prop) hil
   refine ⟨numB (extI c prop (bitsL i (redC c prop).ins.length)), num_lt' (extI_len _), dTt ?_⟩
   rw [bits_num' (extI_len _)]
   rw [h4, <- e] at hi'
   exact ⟨(red_holds hg hz hl h3 _).1 hi'.1, (red_bad hg hz hl h3 _).1 hi'.2⟩
 ·obtain ⟨h1, h2, h3, h4⟩ := h
  have hl := bitsL_len a c.lat.length
  unfold wNext at ht ⊢
  rw [tab_getX, if_pos h1] at ht
  rw [tab_getX, if_pos h2]
  obtain ⟨i, _, hh, hi⟩ := (nJ_iff c a _ _).1 ht
  have hi' : t = numB (nextV c (bitsL a c.lat.length) (bitsL i c.ins.length)) := Int.ofNat.inj hi
  have eI : bitsL (numB (tookL (inV c prop) (bitsL i c.ins.length))) (redC c prop).ins.length = tookL (inV c prop) (bitsL i c.ins.length) := bits_num' (by rw [took_len, red_inslen])
  refine ⟨numB (tookL (laV c prop) (nextV c (bitsL a c.lat.length) (bitsL i c.ins.length))), (nJ_iff _ _ _ _).2 ⟨numB (tookL (inV c prop) (bitsL i c.ins.length)), num_lt' (by rw [took_len, red_inslen]), ?_, ?_⟩, ?_⟩
  ·rw [eI, h4]
   exact (red_holds hg hz hl h3 _).2 hh
  ·unfold nI
   rw [eI, h4, red_next hg hz hl h3]
  ·refine ⟨by rw [hi']; exact num_lt' (nextV_len ..), num_lt' (by rw [took_len, red_latlen]), ?_, ?_⟩
   ·rw [hi', bits_num' (nextV_len ..)]
    exact stk_step hg hz h3
   ·rw [hi', bits_num' (nextV_len ..), bits_num' (by rw [took_len, red_latlen])]
 ·obtain ⟨h1, h2, h3, h4⟩ := h
  have hl := bitsL_len a c.lat.length
  unfold wNext at hu ⊢
  rw [tab_getX, if_pos h2] at hu
  rw [tab_getX, if_pos h1]
  obtain ⟨i, _, hh, hi⟩ := (nJ_iff (redC c prop) b _ _).1 hu
  have hi' : u = numB (nextV (redC c prop) (bitsL b (redC c prop).lat.length) (bitsL i (redC c prop).ins.length)) := Int.ofNat.inj hi
  have hil := bitsL_len i (redC c prop).ins.length
  have e := took_extI' (c := c) (prop := prop) hil
  rw [h4, <- e] at hh hi'
  rw [red_next hg hz hl h3] at hi'
  have eI := bits_num' (extI_len (c := c) (prop := prop) (bitsL i (redC c prop).ins.length))
  refine ⟨numB (nextV c (bitsL a c.lat.length) (extI c prop (bitsL i (redC c prop).ins.length))), (nJ_iff _ _ _ _).2 ⟨numB (extI c prop (bitsL i (redC c prop).ins.length)), num_lt' (extI_len _), ?_, ?_⟩, ?_⟩
  ·rw [eI]
   exact (red_holds hg hz hl h3 _).1 hh
  ·unfold nI
   rw [eI]
  ·refine ⟨num_lt' (nextV_len ..), by rw [hi']; exact num_lt' (by rw [took_len, red_latlen]), ?_, ?_⟩
   ·rw [bits_num' (nextV_len ..)]
    exact stk_step hg hz h3
   ·rw [hi', bits_num' (nextV_len ..), bits_num' (by rw [took_len, red_latlen])]
theorem fol_both (hg : GoodC' c) : Both (FolR c prop) (wFrom c) (wFrom (redC c prop)) := by
 constructor
 ·intro a ha
  unfold wFrom at ha ⊢
  rw [tab_getX] at ha
  split at ha
  ·rename_i h1
   have hs := dec_iff.1 ha
   have el : bitsL (numB (tookL (laV c prop) (bitsL a c.lat.length))) (redC c prop).lat.length = tookL (laV c prop) (bitsL a c.lat.length) := bits_num' (by rw [took_len, red_latlen])
   have hb : numB (tookL (laV c prop) (bitsL a c.lat.length)) < 2 ^ (redC c prop).lat.length := num_lt' (by rw [took_len, red_latlen])
   refine ⟨_, ?_, h1, hb, stk_start hg hs, el⟩
   rw [tab_getX, if_pos hb]
   exact dTt (by rw [el]; exact red_starts hg hs)
  ·cases ha
 ·intro b hb
  unfold wFrom at hb ⊢
  rw [tab_getX] at hb
  split at hb
  ·rename_i h1
   have hs := dec_iff.1 hb
   have hbl := bitsL_len b (redC c prop).lat.length
   have el := bits_num' (extS_len (c := c) (prop := prop) (bitsL b (redC c prop).lat.length))
   have ha : numB (extS c prop (bitsL b (redC c prop).lat.length)) < 2 ^ c.lat.length := num_lt' (extS_len _)
   have hs2 := ext_starts hg hs
   refine ⟨_, ?_, ha, h1, by rw [el]; exact stk_start hg hs2, by rw [el, took_extS' hbl]⟩
   rw [tab_getX, if_pos ha]
   exact dTt (by rw [el]; exact hs2)
  ·cases hb
theorem red_steps (hg : GoodC' c) (hz : SzC c 100000) (f : Nat) (k : Int) : stepsV (wBad c prop) (wNext c) (2 ^ c.lat.length) f k (wFrom c) = stepsV (wBad (redC c prop) 0) (wNext (redC c prop)) (2 ^ (redC c prop).lat.length) f k (wFrom (redC c prop)) :=
 steps_same (fol_bis hg hz) (wNext_range c) (wNext_range _) f k _ _ (tab_len _ _) (tab_len _ _) (fol_both hg)
theorem steps_eq (hg : GoodC' c) (hz : SzC c 100000) {d : Circ} (hdt : d.t = redC c prop) (f : Nat) (k : Int) : stepsV (wBad d.t 0) (wNext d.t) (2 ^ d.lat.2.2.length) f k (wFrom d.t) = stepsV (wBad c prop) (wNext c) (2 ^ c.lat.length) f k (wFrom c) := by
 have e : d.lat.2.2.length = (redC c prop).lat.length := congrArg (fun t : CirT => t.lat.length) hdt
 rw [e, hdt]
 exact (red_steps hg hz f k).symm
end
theorem red_few {c : CirT} {prop : Int} (hg : GoodC' c) (hf : FewC c 20) (h5 : c.lat.length + c.ins.length <= 5) (hgt : c.gates.length <= 10) : FewC (redC c prop) 20 /\ (redC c prop).max <= 300 := by
 obtain ⟨f1, f2, f3, f4, f5, f6, f7, f8⟩ := hf
 have h1 := (fold_inv hg (need_ok hg prop)).2.2.2.1
 have h2 := net_len3M hg
 have h3 : (inV c prop).length <= c.ins.length := sel_le _ _
 have h4 : (laV c prop).length <= c.lat.length := sel_le _ _
 have h6 : (redF c prop).2.length <= 20 := by
  show (foldV c (skV c) (laV c prop) (inV c prop)).2.length <= _
  omega
 have h7 : (cutW c prop).length <= 20 := Nat.le_trans (outTo_le _ _ _) h6
 have e1 := red_inslen (c := c) (prop := prop)
 have e2 := red_latlen (c := c) (prop := prop)
 have e3 : (redC c prop).gates.length <= 20 := by
  show (gatesG _ _ _).length <= 20
  rw [gatesG_len]; omega
 have e4 : (redC c prop).cons.length = c.cons.length := by
  show ((c.cons.map (redL c prop)).map (nowL c prop)).length = _
  rw [List.length_map, List.length_map]
 refine ⟨⟨by omega, by omega, by omega, ?_, ?_, by omega, ?_, ?_⟩, ?_⟩
 ·show ((([] : List Int).length : Nat) : Int) <= 20; decide
 ·show ((1 : Nat) : Int) <= 20; decide
 ·show ((([] : List Sy).length : Nat) : Int) <= 20; decide
 ·show ((ByteArray.size ⟨#[]⟩ : Nat) : Int) <= 300; decide
 ·show (((cutW c prop).length : Nat) : Int) <= 300; omega

noncomputable def bdG (c : CirT) (p : Int) (I k i u : Nat) : Bool := if u < k then anyTo (bJ c p u) I else if u = k then anyTo (bJ c p u) i else false
noncomputable def nxG (c : CirT) (I k i u : Nat) : List Int := if u < k then nJ c u I else if u = k then nJ c u i else []
theorem bdG_s (c : CirT) (p : Int) (I k i : Nat) : ∀ u, bdG c p I k (i + 1) u = if u = k then (anyTo (bJ c p k) i || bJ c p k i) else bdG c p I k i u := fun u => by
 unfold bdG
 by_cases h : u = k
 ·subst h; rw [if_pos rfl, if_neg (by omega), if_pos rfl]; rfl
 ·rw [if_neg h, if_neg h, if_neg h]
theorem bdG_no {c : CirT} {p : Int} {I k i : Nat} (h0 : bJ c p k i = false) : ∀ u, bdG c p I k (i + 1) u = bdG c p I k i u := fun u => by
 rw [bdG_s, h0, Bool.or_false]
 unfold bdG
 by_cases h : u = k
 ·subst h; rw [if_pos rfl, if_neg (by omega), if_pos rfl]
 ·rw [if_neg h]
theorem nxG_s {c : CirT} {k i : Nat} (hH : HoldsP c (bitsL k c.lat.length) (bitsL i c.ins.length)) (I : Nat) : ∀ u, nxG c I k (i + 1) u = if u = k then nJ c k i ++ [nI c k i] else nxG c I k i u := fun u => by
 unfold nxG
 by_cases h : u = k
 ·subst h; rw [if_pos rfl, if_neg (by omega), if_pos rfl, nJ_yes hH]
 ·rw [if_neg h, if_neg h, if_neg h]
theorem nxG_no {c : CirT} {k i : Nat} (hH : ¬ HoldsP c (bitsL k c.lat.length) (bitsL i c.ins.length)) (I : Nat) : ∀ u, nxG c I k (i + 1) u = nxG c I k i u := fun u => by
 unfold nxG
 by_cases h : u = k
 ·subst h; rw [if_neg (by omega), if_pos rfl, if_neg (by omega), if_pos rfl, nJ_no hH]
 ·rw [if_neg h, if_neg h]
theorem bdG_next (c : CirT) (p : Int) (I k : Nat) : ∀ u, bdG c p I (k + 1) 0 u = bdG c p I k I u := fun u => by
 unfold bdG
 by_cases h : u < k
 ·rw [if_pos h, if_pos (by omega)]
 ·by_cases h2 : u = k
  ·subst h2; rw [if_pos (by omega), if_neg (by omega), if_pos rfl]
  ·rw [if_neg (by omega), if_neg h, if_neg h2]
   split <;> rfl
theorem nxG_next (c : CirT) (I k : Nat) : ∀ u, nxG c I (k + 1) 0 u = nxG c I k I u := fun u => by
 unfold nxG
 by_cases h : u < k
 ·rw [if_pos h, if_pos (by omega)]
 ·by_cases h2 : u = k
  ·subst h2; rw [if_pos (by omega), if_neg (by omega), if_pos rfl]
  ·rw [if_neg (by omega), if_neg h, if_neg h2]
   split <;> rfl
theorem ref17_WholeC0 (gm : Nat) (c : Circ) (rn : RowV (Int × Int)) (ra : RowV Int) (prop : Int) (w : World) (hM : MAt w gm c rn ra) (hl : c.lat.2.2.length <= 5) (hi : c.ins.2.2.length <= 5) :
  Lt.Spec Try.prog 27 [.pointer (some ⟨gm, 0, none⟩), .int .i64 prop] w (fun v w' => Ext w w' /\ ∃ sa sc ba bc na nc rs, v = .agg #[.slice sa (2 ^ c.lat.2.2.length) sc, .slice ba (2 ^ c.lat.2.2.length) bc, .slice na (2 ^ c.lat.2.2.length) nc] /\ Row 1 encB w' sa (tab (2 ^ c.lat.2.2.length) (fS c.t)) /\ Row 1 encB w' ba (tab (2 ^ c.lat.2.2.length) (fun s => anyTo (bJ c.t prop s) (2 ^ c.ins.2.2.length))) /\ Row 1 encRow w' na rs /\ (∀ r ∈ rs, Row 1 encI w' r.1 r.2.2) /\ rs.map (fun r => r.2.2) = tab (2 ^ c.lat.2.2.length) (fun s => nJ c.t s (2 ^ c.ins.2.2.length))) := by
 have hSl : (2 : Nat) ^ c.lat.2.2.length <= 32 := Nat.pow_le_pow_right (by decide) hl
 have hIl : (2 : Nat) ^ c.ins.2.2.length <= 32 := Nat.pow_le_pow_right (by decide) hi
 obtain ⟨S, hSe⟩ : ∃ S, S = (2 : Nat) ^ c.lat.2.2.length := ⟨_, rfl⟩
 obtain ⟨I, hIe⟩ : ∃ I, I = (2 : Nat) ^ c.ins.2.2.length := ⟨_, rfl⟩
 have hpS := fun (w9 : World) => ref17_power c.lat.2.2.length w9 (by omega)
 have hpI := fun (w9 : World) => ref17_power c.ins.2.2.length w9 (by omega)
 rw [<- hSe] at hSl hpS ⊢
 rw [<- hIe] at hIl hpI ⊢
 have hcm := hM.cells
 refine Spec.of _ Try.func27 rfl Try.ntmps27 (by kernel_rfl) rfl ?_
 repeat' (first | (apply WL.alloc tOk; (iterate 3 exact rfl); intro g4 w2 hb2 hge2 hx2) | apply WL.nil | apply Z.tn | (first | apply W.seq | apply W.region))
 obtain ⟨y0, y1, y2, _⟩ := hcm.ext hx2
 repeat' (first | (apply FL.nilc; (iterate 3 exact rfl)) | (show W _ _ (.region 1 _ _) _ _ _; apply W.regionGX (.fl true 0 (.fl true 1 (.fl true 2 (.fl true 3 (.fl true 7 (.fl true 8 (.fl true 9 (.fl true 10 (.fl false 4 (.fl true 5 (.fl false 11 (.fl true 12 (.fl false 6 (.fl false 13 (.fl true 14 (.fl true 15 .done)))))))))))))))) [6, 11, 12, 13, 14] tMix; kernel_rfl) | (apply SX.flP; exact rfl; exact extA; (iterate 4 exact rfl); (focus (intro w9 hw9; exact ((hpS _).mono (R' := fun v w' => v = .int .i64 (S : Nat) /\ Ext _ w') (fun v w' ⟨h1, m, h2⟩ => ⟨h1, by rw [h2]; exact (Ext.refl _).at m⟩))))) | (apply SX.flP; exact rfl; exact extA; (iterate 4 exact rfl); (focus (intro w9 hw9; exact ((hpI _).mono (R' := fun v w' => v = .int .i64 (I : Nat) /\ Ext _ w') (fun v w' ⟨h1, m, h2⟩ => ⟨h1, by rw [h2]; exact (Ext.refl _).at m⟩))))) | (first | (apply SX.done; intro w' hx) | (apply SX.fl0; exact rfl) | (apply SX.fl1; exact rfl; exact extA)) | (first | apply FL.nilX | (apply FL.loadE tOk; (iterate 5 exact rfl); assumption)) | refine FL.au (k := ?_) | apply Z.tn | apply W.seq)
 have hXw : Ext w w' := extA
 obtain ⟨zC, hzC⟩ : ∃ z : Array Value, z = Value.cells (.agg #[.slice none 0 0, .slice none 0 0, .slice none 0 0]) := ⟨_, rfl⟩
 obtain ⟨PG, hPG⟩ : ∃ P, P = pcell g4 zC 60 := ⟨_, rfl⟩
 have hS2 : Lt.Sep w.heap.size w2 [PG] := by
  have hb2' : w2.heap[g4]? = some (.cells zC 60 (0, 0)) := by rw [hzC]; exact hb2
  rw [hPG]; exact Sep.newCell Sep.none' hx2 hb2' hge2 (Nat.le_refl _)
 have hS : Lt.Sep w.heap.size w' [PG] := hS2.ext (show Ext w2 w' from extA)
 obtain ⟨w3, rfl⟩ : ∃ x, x = w' := ⟨_, rfl⟩
 clear hS2 y0 y1 y2
 refine W.cutT (σ := (Nat × Nat × Nat × Nat) × World) (fun s => Ext w s.2 /\ Lt.Sep w.heap.size s.2 (wlP w.heap.size s.1.1 S (some ⟨s.1.2.1, 0, none⟩) S (List.replicate S false) (some ⟨s.1.2.2.1, 0, none⟩) S (List.replicate S false) (some ⟨s.1.2.2.2, 0, none⟩) S (List.replicate S nilR) (none, 0, []) (none, 0, []) PG)) (fun s => [(0, .pointer (some ⟨gm, 0, none⟩)), (1, .int .i64 prop), (4, .pointer (some ⟨g4, 0, none⟩)), (5, .int .i64 S), (6, .int .i64 I), (7, .pointer (some ⟨s.1.1, 0, none⟩))]) (fun s => s.2) ?_ ?_
 ·repeat' (first | (show W _ _ (.region 2 _ _) _ _ _; apply W.regionGX (.fl true 0 (.fl true 2 (.fl true 4 (.br 1 (.br 3 (.br 5 (.fl true 6 (.br 7 (.br 8 .done .stop) .stop)) (.br 7 (.br 5 (.fl true 6 (.br 8 .done .stop)) .stop) .stop)) (.br 5 (.br 3 (.fl true 6 (.br 7 (.br 8 .done .stop) .stop)) (.br 7 (.br 3 (.fl true 6 (.br 8 .done .stop)) .stop) .stop)) (.br 7 (.br 3 (.br 5 (.fl true 6 (.br 8 .done .stop)) .stop) (.br 5 (.br 3 (.fl true 6 (.br 8 .done .stop)) .stop) .stop)) .stop))) (.br 3 (.br 1 (.br 5 (.fl true 6 (.br 7 (.br 8 .done .stop) .stop)) (.br 7 (.br 5 (.fl true 6 (.br 8 .done .stop)) .stop) .stop)) (.br 5 (.br 1 (.fl true 6 (.br 7 (.br 8 .done .stop) .stop)) (.br 7 (.br 1 (.fl true 6 (.br 8 .done .stop)) .stop) .stop)) (.br 7 (.br 1 (.br 5 (.fl true 6 (.br 8 .done .stop)) .stop) (.br 5 (.br 1 (.fl true 6 (.br 8 .done .stop)) .stop) .stop)) .stop))) (.br 5 (.br 1 (.br 3 (.fl true 6 (.br 7 (.br 8 .done .stop) .stop)) (.br 7 (.br 3 (.fl true 6 (.br 8 .done .stop)) .stop) .stop)) (.br 3 (.br 1 (.fl true 6 (.br 7 (.br 8 .done .stop) .stop)) (.br 7 (.br 1 (.fl true 6 (.br 8 .done .stop)) .stop) .stop)) (.br 7 (.br 1 (.br 3 (.fl true 6 (.br 8 .done .stop)) .stop) (.br 3 (.br 1 (.fl true 6 (.br 8 .done .stop)) .stop) .stop)) .stop))) (.br 7 (.br 1 (.br 3 (.br 5 (.fl true 6 (.br 8 .done .stop)) .stop) (.br 5 (.br 3 (.fl true 6 (.br 8 .done .stop)) .stop) .stop)) (.br 3 (.br 1 (.br 5 (.fl true 6 (.br 8 .done .stop)) .stop) (.br 5 (.br 1 (.fl true 6 (.br 8 .done .stop)) .stop) .stop)) (.br 5 (.br 1 (.br 3 (.fl true 6 (.br 8 .done .stop)) .stop) (.br 3 (.br 1 (.fl true 6 (.br 8 .done .stop)) .stop) .stop)) .stop))) .stop))))))) [] tMix; kernel_rfl) | (show WL _ _ _ (⟨some 27, .makeSlice _ _ _, _, _, _, _⟩ :: _) _ _ _; apply WL.make (w0 := w) (z := (false)) tOk; (iterate 9 exact rfl); exact eBk; exact rfl; exact rfl; exact extA; omega; intro g27 w' hO hge hx; replace hS := Sep.newRow (Sep.ext hS extA) hx hO (fun k hk => by cases hk; exact hge) (Below.size (show Ext w _ from extA))) | (show WL _ _ _ (⟨some 29, .makeSlice _ _ _, _, _, _, _⟩ :: _) _ _ _; apply WL.make (w0 := w) (z := (false)) tOk; (iterate 9 exact rfl); exact eBk; exact rfl; exact rfl; exact extA; omega; intro g29 w' hO hge hx; replace hS := Sep.newRow (Sep.ext hS extA) hx hO (fun k hk => by cases hk; exact hge) (Below.size (show Ext w _ from extA))) | (show WL _ _ _ (⟨some 31, .makeSlice _ _ _, _, _, _, _⟩ :: _) _ _ _; apply WL.make (w0 := w) (z := (((none, 0, []) : RowV Int))) tOk; (iterate 9 exact rfl); exact encRow_ok; exact rfl; exact rfl; exact extA; omega; intro g31 w' hO hge hx; replace hS := Sep.newRow (Sep.ext hS extA) hx hO (fun k hk => by cases hk; exact hge) (Below.size (show Ext w _ from extA))) | (apply WL.alloc tOk; (iterate 3 exact rfl); intro g7 w' hb hge hx; (replace hS := Sep.newCell (Sep.ext hS extA) hx hb hge (Below.size (show Ext w _ from extA)))) | (apply FL.build tOk; (iterate 7 exact rfl); kernel_rfl) | (first | (apply SX.fl0; exact rfl) | (apply SX.br1; exact rfl; intro w' hx) | (apply SX.br; exact rfl; (intro w' hx))) | apply FL.nilX | refine FL.au (k := ?_) | (apply Z.sxL; exact rfl) | apply WL.nil)
  all_goals
   have hS8 := Sep.ext hS (show Ext _ w' from extA)
   have hb7 : CellC g7 (Value.cells (.agg #[.slice none 0 0, .slice none 0 0, .slice none 0 0])) 60 w' := by first | exact hS8.cell (i := 0) rfl | exact hS8.cell (i := 1) rfl | exact hS8.cell (i := 2) rfl | exact hS8.cell (i := 3) rfl
   have hg7 : w.heap.size <= g7 := by first | exact (hS8.lt (i := 0) rfl rfl).1 | exact (hS8.lt (i := 1) rfl rfl).1 | exact (hS8.lt (i := 2) rfl rfl).1 | exact (hS8.lt (i := 3) rfl rfl).1
   have hX8 : Ext w w' := extA
   clear hS hx hx2 hb2 hge2
   obtain ⟨w4, rfl⟩ : ∃ x, x = w' := ⟨_, rfl⟩
   repeat' (first | (apply WL.storeB (w0 := w) tOk; (iterate 4 exact rfl); assumption; exact extA; (iterate 3 exact rfl); exact extA; assumption; intro w5 hb5 hc hX5 hU5; have hcc := hc; obtain ⟨h1, h2, _⟩ := hc) | (apply SX.done; intro w' hx) | (apply Z.sxL; exact rfl) | apply WL.nil)
   simp only [List.length_replicate, Int.toNat_natCast] at hb5
   have hb6 : CellC g7 #[.slice (some ⟨g27, 0, none⟩) S S, .slice (some ⟨g29, 0, none⟩) S S, .slice (some ⟨g31, 0, none⟩) S S] 60 w5 := hb5.trans (by kernel_rfl)
   have hS9 := by first | exact Sep.uCl (i := 0) rfl hU5 hb6 hS8 (Ext.refl _) (Below.size hX8) | exact Sep.uCl (i := 1) rfl hU5 hb6 hS8 (Ext.refl _) (Below.size hX8) | exact Sep.uCl (i := 2) rfl hU5 hb6 hS8 (Ext.refl _) (Below.size hX8) | exact Sep.uCl (i := 3) rfl hU5 hb6 hS8 (Ext.refl _) (Below.size hX8)
   have hS10 := Sep.newRow (s := 1) (enc := encB) (el := 4) (a := none) (cap := 0) (l := []) (Sep.newRow (s := 1) (enc := encB) (el := 4) (a := none) (cap := 0) (l := []) hS9 (Ext.refl _) Own.nil (fun k hk => by cases hk) (Below.size hX5)) (Ext.refl _) Own.nil (fun k hk => by cases hk) (Below.size hX5)
   have hS11 : Lt.Sep w.heap.size w5 [pcell g7 #[.slice (some ⟨g27, 0, none⟩) S S, .slice (some ⟨g29, 0, none⟩) S S, .slice (some ⟨g31, 0, none⟩) S S] 60, prow 1 encB 4 w.heap.size (some ⟨g27, 0, none⟩) S (List.replicate S false), prow 1 encB 4 w.heap.size (some ⟨g29, 0, none⟩) S (List.replicate S false), prow 1 encRow 22 w.heap.size (some ⟨g31, 0, none⟩) S (List.replicate S nilR), PG, pB8 w.heap.size (none, 0, []), pB8 w.heap.size (none, 0, [])] := Sep.ofPerm (by repeat' (first | exact List.Perm.refl _ | (refine List.Perm.trans (List.perm_middle (l₁ := [_, _])) (List.Perm.cons _ ?_)) | (refine List.Perm.trans (List.perm_middle (l₁ := [_, _, _])) (List.Perm.cons _ ?_)) | (refine List.Perm.trans (List.perm_middle (l₁ := [_, _, _, _])) (List.Perm.cons _ ?_)) | (refine List.Perm.trans (List.perm_middle (l₁ := [_, _, _, _, _])) (List.Perm.cons _ ?_)))) hS10
   exact Z.cut ((g7, g27, g29, g31), w') ⟨hX5.trans hx, Sep.ext (Sep.nilsZ hS11 S) hx⟩ ⟨rfl, rfl, rfl, rfl, rfl, rfl, trivial⟩ rfl
 rintro ⟨⟨g7, g27, g29, g31⟩, w4⟩ ⟨hX4, hS4⟩
 dsimp only at hX4 hS4 ⊢
 clear hS hx hx2 hb2 hge2 hcm
 obtain ⟨LL, hLL⟩ : ∃ n, n = c.lat.2.2.length := ⟨_, rfl⟩
 obtain ⟨LI, hLI⟩ : ∃ n, n = c.ins.2.2.length := ⟨_, rfl⟩
 repeat' (first | (first | apply WL.nil | refine WL.au (k := ?_)) | apply Z.tn | (first | apply W.seq | apply W.region | apply W.block))
 refine W.loopW S (fun k w' => k <= S /\ Ext w w' /\ ∃ rs X Y, Lt.Sep w.heap.size w' (wlP w.heap.size g7 S (some ⟨g27, 0, none⟩) S (tab S (stF c.t k)) (some ⟨g29, 0, none⟩) S (tab S (bdG c.t prop I k 0)) (some ⟨g31, 0, none⟩) S rs X Y PG) /\ rs.map (fun r => r.2.2) = tab S (nxG c.t I k 0)) (fun k => [(0, .pointer (some ⟨gm, 0, none⟩)), (1, .int .i64 prop), (4, .pointer (some ⟨g4, 0, none⟩)), (5, .int .i64 S), (6, .int .i64 I), (7, .pointer (some ⟨g7, 0, none⟩)), (8, .int .i64 k)]) ⟨Nat.zero_le _, hX4, List.replicate S nilR, (none, 0, []), (none, 0, []), ?_, ?_⟩ (fun k w' h => h.1) ⟨rfl, rfl, rfl, rfl, rfl, rfl, rfl, trivial⟩ ?_
 ·have e1 : List.replicate S false = tab S (stF c.t 0) := (tab_rep S false).trans (tab_congr fun u _ => (if_neg (by omega)).symm)
  have e2 : List.replicate S false = tab S (bdG c.t prop I 0 0) := (tab_rep S false).trans (tab_congr fun u _ => by unfold bdG; rw [if_neg (by omega)]; split <;> rfl)
  rw [<- e1, <- e2]
  exact hS4
 ·rw [List.map_replicate]
  exact (tab_rep S []).trans (tab_congr fun u _ => by unfold nxG; rw [if_neg (by omega)]; split <;> rfl)
 clear hS4
 rintro k w6 ⟨hk, hX6, rs, X, Y, hS6, hrs⟩
 have hrl : rs.length = S := by have := congrArg List.length hrs; rwa [List.length_map, tab_len] at this
 have hM6 := hM.cells.ext hX6
 by_cases hlt : k < S
 ·obtain ⟨y0, y1, y2, y3, y4, y5, y6, y7, y8, _⟩ := hM6
  repeat' (first | (first | apply WL.nil | refine WL.au (k := ?_)) | apply Z.tn | (first | apply W.seq | apply W.region))
  refine W.cKT rfl (dTt (by omega)) ?_
  repeat' (first | (apply WL.nilc; (iterate 3 exact rfl)) | (apply WL.call (f := 82); (iterate 4 exact rfl); exact ref17_bits k c.lat.2.2.length w6 (by omega) (by omega); rintro v' w7 ⟨hx7, aX, cX, rfl, hOX⟩) | (first | apply WL.nil | refine WL.au (k := ?_)) | apply Z.tn | (first | apply W.seq | apply W.region | apply W.block | apply W.skip))
  have hS7 : Lt.Sep w.heap.size w7 (wlP w.heap.size g7 S (some ⟨g27, 0, none⟩) S (tab S (stF c.t k)) (some ⟨g29, 0, none⟩) S (tab S (bdG c.t prop I k 0)) (some ⟨g31, 0, none⟩) S rs (aX, cX, bitsL k c.lat.2.2.length) Y PG) := Sep.putAt 5 (Sep.newRow' hS6 hx7 hOX (Below.size hX6))
  have hX7 : Ext w w7 := hX6.trans hx7
  have hM7 := hM.ext hX7
  have RX := (hS7.row (i := 5) rfl).row eBk
  have hC7 := hS7.cell (i := 0) rfl
  have hOS := hS7.row (i := 1) rfl
  obtain ⟨n0, n1, n2, _⟩ := cHp hC7
  clear y0 y1 y2 y3 y4 y5 y6 y7 y8 hS6 hOX
  have hst7 := fun (w9 : World) (h9 : Ext w7 w9) => ref17_Starts gm c rn ra aX cX (bitsL k c.lat.2.2.length) w9 (hM7.ext h9) (RX.ext h9)
  have hgS : (tab S (stF c.t k))[((k : Nat) : Int).toNat]? = some (stF c.t k k) := by rw [Int.toNat_natCast]; exact tab_get _ hlt
  have hlS : (tab S (stF c.t k)).length = S := tab_len _ _
  repeat' (first | (show W _ _ (.region 7 _ _) _ _ _; apply W.regionG (.fl true 0 (.fl true 2 (.fl true 3 (.fl true 4 (.fl false 1 (.fl false 5 (.br 6 (.br 7 .done .stop) .stop))))))) [5] (Ext w7) tMix; kernel_rfl) | (apply SG.flS; exact rfl; (focus ((intro m; first | assumption | (apply Ext.at; exact extA) | apply But.of_at; first | exact But.upd (by assumption) | exact But.ext extA | (refine But.trans ?_ (But.upd (by assumption)); exact But.ext extA) | exact But.at _ _ _); done)); (iterate 4 exact rfl); (focus (intro w9 hw9; exact ref17_Starts gm c rn ra aX cX (bitsL k c.lat.2.2.length) _ (hM7.ext extA) (RX.ext extA)))) | (apply WL.indexO tOk; (iterate 8 exact rfl); assumption; exact extA; exact eBk; omega; omega; assumption; intro gb ha hc; cases ha; have hcc := hc; first | (obtain ⟨h1, h2, h3, _⟩ := hc) | (obtain ⟨h1, h2, _⟩ := hc) | (obtain ⟨h1, _⟩ := hc)) | (apply WL.storeO (z' := (dec (StartsP c.t (bitsL k c.lat.2.2.length)))) tOk; (iterate 4 exact rfl); assumption; exact extA; (iterate 3 exact rfl); exact eBk; assumption; exact rfl; exact extA; intro w' hO hX' hU) | (first | apply WL.nil | refine WL.au (k := ?_)) | (first | apply SG.done | (apply SG.fl0; exact rfl) | (apply SG.fl1; exact rfl; (focus ((intro m; first | assumption | (apply Ext.at; exact extA) | apply But.of_at; first | exact But.upd (by assumption) | exact But.ext extA | (refine But.trans ?_ (But.upd (by assumption)); exact But.ext extA) | exact But.at _ _ _); done))) | (apply SG.br1; exact rfl)) | (apply FL.loadE tOk; (iterate 5 exact rfl); assumption) | (first | apply FL.nilS | refine FL.au (k := ?_)) | (apply Z.sgL; exact rfl) | apply Z.tn | (first | apply W.seq | apply W.region | apply W.block))
  have hX8 : Ext w w' := extA
  have eS : (tab S (stF c.t k)).set ((k : Nat) : Int).toNat (dec (StartsP c.t (bitsL k c.lat.2.2.length))) = tab S (stF c.t (k + 1)) := by rw [Int.toNat_natCast]; exact tab_set fun u _ => stF_s c.t k u
  rw [eS] at hO
  have hS8 : Lt.Sep w.heap.size w' (wlP w.heap.size g7 S (some ⟨g27, 0, none⟩) S (tab S (stF c.t (k + 1))) (some ⟨g29, 0, none⟩) S (tab S (bdG c.t prop I k 0)) (some ⟨g31, 0, none⟩) S rs (aX, cX, bitsL k c.lat.2.2.length) Y PG) := Sep.uRw (i := 1) rfl hU hO (.inl rfl) hS7 extA (Below.size hX7)
  refine W.loopW I (fun i w' => i <= I /\ Ext w w' /\ ∃ rs Y, Lt.Sep w.heap.size w' (wlP w.heap.size g7 S (some ⟨g27, 0, none⟩) S (tab S (stF c.t (k + 1))) (some ⟨g29, 0, none⟩) S (tab S (bdG c.t prop I k i)) (some ⟨g31, 0, none⟩) S rs (aX, cX, bitsL k c.lat.2.2.length) Y PG) /\ rs.map (fun r => r.2.2) = tab S (nxG c.t I k i)) (fun i => [(0, .pointer (some ⟨gm, 0, none⟩)), (1, .int .i64 prop), (4, .pointer (some ⟨g4, 0, none⟩)), (5, .int .i64 S), (6, .int .i64 I), (7, .pointer (some ⟨g7, 0, none⟩)), (8, .int .i64 k), (9, .slice aX (bitsL k c.lat.2.2.length).length cX), (10, .int .i64 i)]) ⟨Nat.zero_le _, hX8, rs, Y, hS8, hrs⟩ (fun k w' h => h.1) ⟨rfl, rfl, rfl, rfl, rfl, rfl, rfl, rfl, rfl, trivial⟩ ?_
  clear hS8 hO hU hS7 hX8 hst7 hgS hlS RX hC7 hOS n0 n1 n2 hM7 hrs hrl
  rintro i w8 ⟨hik, hX8, rs, Y, hS8, hrs⟩
  have hrl : rs.length = S := by have := congrArg List.length hrs; rwa [List.length_map, tab_len] at this
  have hM8 := hM.ext hX8
  by_cases hil : i < I
  ·obtain ⟨y0, y1, y2, y3, y4, y5, y6, y7, y8, _⟩ := hM8.cells
   repeat' (first | (first | apply WL.nil | refine WL.au (k := ?_)) | apply Z.tn | (first | apply W.seq | apply W.region))
   refine W.cKT rfl (dTt (by omega)) ?_
   repeat' (first | (apply WL.nilc; (iterate 3 exact rfl)) | (apply WL.call (f := 82); (iterate 4 exact rfl); exact ref17_bits i c.ins.2.2.length w8 (by omega) (by omega); rintro v' w9 ⟨hx9, aY, cY, rfl, hOY⟩; have hX9 : Ext w w9 := hX8.trans hx9; have hS9 : Lt.Sep w.heap.size w9 (wlP w.heap.size g7 S (some ⟨g27, 0, none⟩) S (tab S (stF c.t (k + 1))) (some ⟨g29, 0, none⟩) S (tab S (bdG c.t prop I k i)) (some ⟨g31, 0, none⟩) S rs (aX, cX, bitsL k c.lat.2.2.length) (aY, cY, bitsL i c.ins.2.2.length) PG) := Sep.putAt 6 (Sep.newRow' hS8 hx9 hOY (Below.size hX8)); have RX9 := (hS9.row (i := 5) rfl).row eBk; have RY9 := (hS9.row (i := 6) rfl).row eBk) | (apply WL.callP (f := 17); (iterate 4 exact rfl); exact ref17_Holds gm c rn ra aX aY cX cY (bitsL k c.lat.2.2.length) (bitsL i c.ins.2.2.length) _ (hM.ext (hX9.trans extA)) (RX9.ext extA) (RY9.ext extA); intro w10 hx10) | (first | apply WL.nil | refine WL.au (k := ?_)) | apply Z.tn | (first | apply W.seq | apply W.region | apply W.block | apply W.skip))
   by_cases hH : HoldsP c.t (bitsL k c.lat.2.2.length) (bitsL i c.ins.2.2.length)
   rotate_left
   ·have hh := dFf hH
    refine W.cKT rfl (by rw [hh]; rfl) ?_
    repeat' (first | (first | apply WL.nil | refine WL.au (k := ?_)) | (first | apply Z.tn | apply Z.tnx | apply Z.bkx) | (first | apply W.region | apply W.exit))
    have e1 : tab S (bdG c.t prop I k (i + 1)) = tab S (bdG c.t prop I k i) := tab_congr fun u _ => bdG_no (dFf fun h => hH h.1) u
    have e2 : tab S (nxG c.t I k (i + 1)) = tab S (nxG c.t I k i) := tab_congr fun u _ => nxG_no hH I u
    exact Z.agW ⟨by omega, hX9.trans hx10, rs, _, by rw [e1]; exact hS9.ext hx10, by rw [e2]; exact hrs⟩ ⟨rfl, rfl, rfl, rfl, rfl, rfl, rfl, rfl, rfl, trivial⟩
   have hh := dTt hH
   have hbj : bJ c.t prop k i = dec (BadP c.t (bitsL k c.lat.2.2.length) (bitsL i c.ins.2.2.length) prop) := dCg ⟨fun h => h.2, fun h => ⟨hH, h⟩⟩
   refine W.cKF rfl (by rw [hh]; rfl) ?_
   have hX10 : Ext w w10 := hX9.trans hx10
   have hS10 := hS9.ext hx10
   have hM10 := hM.ext hX10
   have RX10 := RX9.ext hx10
   have RY10 := RY9.ext hx10
   clear hS9 RX9 RY9 hX9 hx10 hS8 hX8 hM8 y0 y1 y2 y3 y4 y5 y6 y7 y8
   have hgB : (tab S (bdG c.t prop I k i))[((k : Nat) : Int).toNat]? = some (anyTo (bJ c.t prop k) i) := by
    rw [Int.toNat_natCast, tab_get _ hlt]; unfold bdG; rw [if_neg (by omega), if_pos rfl]
   have hlB : (tab S (bdG c.t prop I k i)).length = S := tab_len _ _
   repeat' (first | apply Z.tn | (first | apply W.seq | apply W.skip))
   refine W.cutT (σ := World) (fun w' => Ext w w' /\ Lt.Sep w.heap.size w' (wlP w.heap.size g7 S (some ⟨g27, 0, none⟩) S (tab S (stF c.t (k + 1))) (some ⟨g29, 0, none⟩) S (tab S (bdG c.t prop I k (i + 1))) (some ⟨g31, 0, none⟩) S rs (aX, cX, bitsL k c.lat.2.2.length) (aY, cY, bitsL i c.ins.2.2.length) PG)) (fun _ => [(0, .pointer (some ⟨gm, 0, none⟩)), (1, .int .i64 prop), (4, .pointer (some ⟨g4, 0, none⟩)), (5, .int .i64 S), (6, .int .i64 I), (7, .pointer (some ⟨g7, 0, none⟩)), (8, .int .i64 k), (9, .slice aX (bitsL k c.lat.2.2.length).length cX), (10, .int .i64 i), (11, .slice aY (bitsL i c.ins.2.2.length).length cY)]) (fun w' => w') ?_ ?_
   ·have hC10 := hS10.cell (i := 0) rfl
    have hOB := hS10.row (i := 2) rfl
    obtain ⟨n0, n1, n2, _⟩ := cHp hC10
    cases hz : anyTo (bJ c.t prop k) i with
    | true =>
     rw [hz] at hgB
     have eB : (tab S (bdG c.t prop I k i)).set ((k : Nat) : Int).toNat true = tab S (bdG c.t prop I k (i + 1)) := by rw [Int.toNat_natCast]; exact tab_set fun u _ => by rw [bdG_s, hz]; rfl
     repeat' (first | (show W _ _ (.region 13 _ _) _ _ _; apply W.regionG (.fl true 0 (.fl true 2 (.fl true 3 (.fl true 5 (.fl false 1 (.fl false 4 (.fl true 6 (.fl false 7 (.fl true 8 (.fl true 9 (.fl true 10 (.fl true 11 (.fl true 12 (.br 13 (.fl true 14 (.br 15 (.br 16 .done .stop) .stop)) .stop)))))))))))))) [4, 6, 7, 8, 9, 10, 11, 12, 13, 14] (Ext w10) tMix; kernel_rfl) | (apply WL.indexO tOk; (iterate 8 exact rfl); assumption; exact extA; exact eBk; omega; omega; assumption; intro gb ha hc; cases ha; have hcc := hc; first | (obtain ⟨h1, h2, h3, _⟩ := hc) | (obtain ⟨h1, h2, _⟩ := hc) | (obtain ⟨h1, _⟩ := hc)) | (apply FL.indexO tOk; (iterate 8 exact rfl); assumption; exact extA; exact eBk; omega; omega; assumption; intro gb ha hc; cases ha; have hcc := hc; first | (obtain ⟨h1, h2, h3, _⟩ := hc) | (obtain ⟨h1, h2, _⟩ := hc) | (obtain ⟨h1, _⟩ := hc)) | (apply WL.storeO (z' := (true)) tOk; (iterate 4 exact rfl); assumption; exact extA; (iterate 3 exact rfl); exact eBk; assumption; exact rfl; exact extA; intro w11 hO hX11 hU) | (first | apply WL.nil | (apply WL.gdF; exact rfl; exact rfl)) | (first | apply SG.done | (apply SG.fl0; exact rfl) | (apply SG.fl1; exact rfl; (focus ((intro m; first | assumption | (apply Ext.at; exact extA) | apply But.of_at; first | exact But.upd (by assumption) | exact But.ext extA | (refine But.trans ?_ (But.upd (by assumption)); exact But.ext extA) | exact But.at _ _ _); done))) | (apply SG.br1; exact rfl)) | (apply FL.loadE tOk; (iterate 5 exact rfl); assumption) | (first | apply FL.nilS | refine FL.au (k := ?_) | (apply FL.gdF; exact rfl; exact rfl)) | (first | (apply Z.sgL; exact rfl) | (apply Z.sgE; (focus ((intro m; first | assumption | (apply Ext.at; exact extA) | apply But.of_at; first | exact But.upd (by assumption) | exact But.ext extA | (refine But.trans ?_ (But.upd (by assumption)); exact But.ext extA) | exact But.at _ _ _); done)))))
     all_goals
      rw [eB] at hO
      exact Z.cut w11 ⟨hX11, Sep.uRw (i := 2) rfl hU hO (.inl rfl) hS10 extA (Below.size (hX10.trans (show Ext w10 _ from extA)))⟩ ⟨rfl, rfl, rfl, rfl, rfl, rfl, rfl, rfl, rfl, rfl, trivial⟩ rfl
    | false =>
     rw [hz] at hgB
     have eB : (tab S (bdG c.t prop I k i)).set ((k : Nat) : Int).toNat (dec (BadP c.t (bitsL k c.lat.2.2.length) (bitsL i c.ins.2.2.length) prop)) = tab S (bdG c.t prop I k (i + 1)) := by rw [Int.toNat_natCast]; exact tab_set fun u _ => by rw [bdG_s, hz, hbj]; rfl
     repeat' (first | (show W _ _ (.region 13 _ _) _ _ _; apply W.regionG (.fl true 0 (.fl true 2 (.fl true 3 (.fl true 5 (.fl false 1 (.fl false 4 (.fl true 6 (.fl false 7 (.fl true 8 (.fl true 9 (.fl true 10 (.fl true 11 (.fl true 12 (.br 13 (.fl true 14 (.br 15 (.br 16 .done .stop) .stop)) .stop)))))))))))))) [4, 6, 7, 8, 9, 10, 11, 12, 13, 14] (Ext w10) tMix; kernel_rfl) | (apply WL.indexO tOk; (iterate 8 exact rfl); assumption; exact extA; exact eBk; omega; omega; assumption; intro gb ha hc; cases ha; have hcc := hc; first | (obtain ⟨h1, h2, h3, _⟩ := hc) | (obtain ⟨h1, h2, _⟩ := hc) | (obtain ⟨h1, _⟩ := hc)) | (apply FL.indexO tOk; (iterate 8 exact rfl); assumption; exact extA; exact eBk; omega; omega; assumption; intro gb ha hc; cases ha; have hcc := hc; first | (obtain ⟨h1, h2, h3, _⟩ := hc) | (obtain ⟨h1, h2, _⟩ := hc) | (obtain ⟨h1, _⟩ := hc)) | (apply WL.callP (f := 19); (iterate 4 exact rfl); exact ref17_Bad gm c rn ra aX aY cX cY (bitsL k c.lat.2.2.length) (bitsL i c.ins.2.2.length) prop _ (hM10.ext extA) (RX10.ext extA) (RY10.ext extA); intro w9 hx9) | (apply WL.storeO (z' := (dec (BadP c.t (bitsL k c.lat.2.2.length) (bitsL i c.ins.2.2.length) prop))) tOk; (iterate 4 exact rfl); assumption; exact extA; (iterate 3 exact rfl); exact eBk; assumption; exact rfl; exact extA; intro w11 hO hX11 hU) | apply WL.nil | (first | apply SG.done | (apply SG.fl0; exact rfl) | (apply SG.fl1; exact rfl; (focus ((intro m; first | assumption | (apply Ext.at; exact extA) | apply But.of_at; first | exact But.upd (by assumption) | exact But.ext extA | (refine But.trans ?_ (But.upd (by assumption)); exact But.ext extA) | exact But.at _ _ _); done))) | (apply SG.br1; exact rfl)) | (apply FL.loadE tOk; (iterate 5 exact rfl); assumption) | (first | apply FL.nilS | refine FL.au (k := ?_)) | (first | (apply Z.sgL; exact rfl) | (apply Z.sgE; (focus ((intro m; first | assumption | (apply Ext.at; exact extA) | apply But.of_at; first | exact But.upd (by assumption) | exact But.ext extA | (refine But.trans ?_ (But.upd (by assumption)); exact But.ext extA) | exact But.at _ _ _); done)))))
     all_goals
      rw [eB] at hO
      exact Z.cut w11 ⟨hX11, Sep.uRw (i := 2) rfl hU hO (.inl rfl) hS10 extA (Below.size (hX10.trans (show Ext w10 _ from extA)))⟩ ⟨rfl, rfl, rfl, rfl, rfl, rfl, rfl, rfl, rfl, rfl, trivial⟩ rfl
   clear hS10 hX10 hM10 RX10 RY10 hgB hlB
   rintro w10 ⟨hX10, hS10⟩
   have hM10 := hM.ext hX10
   have RX10 := (hS10.row (i := 5) rfl).row eBk
   have RY10 := (hS10.row (i := 6) rfl).row eBk
   have hC10 := hS10.cell (i := 0) rfl
   have hON := hS10.row (i := 3) rfl
   obtain ⟨n0, n1, n2, _⟩ := cHp hC10
   obtain ⟨r, hr⟩ := getI rs (show k < rs.length by omega)
   have hrk : rs[((k : Nat) : Int).toNat]? = some r := by rw [Int.toNat_natCast]; exact hr
   have hrv : r.2.2 = nJ c.t k i := by
    have h1 : (rs.map (fun r => r.2.2))[k]? = some r.2.2 := by rw [List.getElem?_map, hr]; rfl
    rw [hrs, tab_get _ hlt] at h1
    have := Option.some.inj h1
    rw [<- this]; unfold nxG; rw [if_neg (by omega), if_pos rfl]
   have hrl2 : r.2.2.length <= 32 := by have := nJ_len c.t k i; rw [hrv]; omega
   have hIn := hS10.row (wl_in hr)
   have hnl : (nextV c.t (bitsL k c.lat.2.2.length) (bitsL i c.ins.2.2.length)).length <= 20 := by
    rw [nextV_len]
    have : c.t.lat.length = c.lat.2.2.length := rfl
    omega
   obtain ⟨nv, hnv⟩ : ∃ nv, nextV c.t (bitsL k c.lat.2.2.length) (bitsL i c.ins.2.2.length) = nv := ⟨_, rfl⟩
   have hnI : nI c.t k i = (numB nv : Nat) := by rw [<- hnv]; rfl
   have hNx := fun (w9 : World) (h9 : Ext w10 w9) => ref17_Next gm c rn ra aX aY cX cY (bitsL k c.lat.2.2.length) (bitsL i c.ins.2.2.length) w9 (hM10.ext h9) (RX10.ext h9) (RY10.ext h9)
   rw [hnv] at hnl hNx
   repeat' (first | (show W _ _ (.region 14 _ _) _ _ _; apply W.regionG (.fl true 0 (.fl true 2 (.fl true 3 (.fl true 5 (.fl true 8 (.fl true 9 (.fl true 10 (.fl false 1 (.fl false 4 (.br 6 (.br 7 (.br 11 (.br 12 (.br 13 (.br 14 (.br 15 (.br 16 .done .stop) .stop) .stop) .stop) .stop) .stop) (.br 11 (.br 7 (.br 12 (.br 13 (.br 14 (.br 15 (.br 16 .done .stop) .stop) .stop) .stop) .stop) (.br 12 (.br 7 (.br 13 (.br 14 (.br 15 (.br 16 .done .stop) .stop) .stop) .stop) (.br 13 (.br 7 (.br 14 (.br 15 (.br 16 .done .stop) .stop) .stop) .stop) .stop)) .stop)) .stop)) (.br 11 (.br 6 (.br 7 (.br 12 (.br 13 (.br 14 (.br 15 (.br 16 .done .stop) .stop) .stop) .stop) .stop) (.br 12 (.br 7 (.br 13 (.br 14 (.br 15 (.br 16 .done .stop) .stop) .stop) .stop) (.br 13 (.br 7 (.br 14 (.br 15 (.br 16 .done .stop) .stop) .stop) .stop) .stop)) .stop)) (.br 12 (.br 6 (.br 7 (.br 13 (.br 14 (.br 15 (.br 16 .done .stop) .stop) .stop) .stop) (.br 13 (.br 7 (.br 14 (.br 15 (.br 16 .done .stop) .stop) .stop) .stop) .stop)) (.br 13 (.br 6 (.br 7 (.br 14 (.br 15 (.br 16 .done .stop) .stop) .stop) .stop) .stop) .stop)) .stop)) .stop))))))))))) [4, 6, 7, 11, 12, 13, 14] (CellC g7 #[.slice (some ⟨g27, 0, none⟩) S S, .slice (some ⟨g29, 0, none⟩) S S, .slice (some ⟨g31, 0, none⟩) S S] 60) tMix; kernel_rfl) | (apply WL.indexO tOk; (iterate 8 exact rfl); assumption; exact extA; exact encRow_ok; ((focus (simp [*]; done))); omega; assumption; intro gb ha hc; cases ha; have hcc := hc; first | (obtain ⟨h1, h2, h3, _⟩ := hc) | (obtain ⟨h1, h2, _⟩ := hc) | (obtain ⟨h1, _⟩ := hc)) | (apply WL.call; (iterate 4 exact rfl); exact hNx _ extA; rintro v' wN ⟨hxn, aN, cN, rfl, hOn⟩; (have hCN := Ext.heap (show Ext w10 wN from extA) hC10)) | (apply WL.callS (f := 83); (iterate 4 exact rfl); exact ref17_number aN cN nv _ ((hOn.row eBk).ext extA) hnl) | (apply WL.lit tOk; (iterate 6 exact rfl); kernel_rfl; exact rfl; intro gb wL hb hge hc hx; (have hCL := Ext.heap (show Ext w10 wL from extA) hC10)) | (apply WL.ap1 (z := (((numB nv : Nat) : Int))) tOk eIk; (iterate 10 exact rfl); assumption; exact extA; exact rfl; assumption; exact rfl; exact rfl; exact extA; omega; intro a2 cp2 w12 hO hX' hU hF; (have hS12 := Sep.uRw (wl_in hr) hU hO hF hS10 extA (Below.size (hX10.trans (show Ext w10 _ from extA))); rw [show prow 1 encI 3 w.heap.size a2 cp2 (r.2.2 ++ [((numB nv : Nat) : Int)]) = pI w.heap.size (a2, cp2, r.2.2 ++ [((numB nv : Nat) : Int)]) from rfl, wl_set] at hS12; have hC12 := hS12.cell (i := 0) rfl; have hON2 := hS12.row (i := 3) rfl)) | (apply WL.storeO (z' := (((a2, cp2, r.2.2 ++ [((numB nv : Nat) : Int)]) : RowV Int))) tOk; (iterate 4 exact rfl); assumption; exact extA; (iterate 3 exact rfl); exact encRow_ok; assumption; exact rfl; exact extA; intro w13 hO hX13 hU) | (first | apply WL.nil | refine WL.au (k := ?_)) | (first | apply SG.done | (apply SG.fl0; exact rfl) | (apply SG.fl1; exact rfl; (focus ((intro m; first | assumption | (apply Ext.at; exact extA) | apply But.of_at; first | exact But.upd (by assumption) | exact But.ext extA | (refine But.trans ?_ (But.upd (by assumption)); exact But.ext extA) | exact But.at _ _ _); done))) | (apply SG.br1; exact rfl) | (apply SG.br; exact rfl)) | (apply FL.loadC tOk; (iterate 6 exact rfl)) | (first | apply FL.nilS | refine FL.au (k := ?_)) | (first | (apply Z.sgL; exact rfl) | (apply Z.sgE; (focus ((intro m; first | assumption | (apply Ext.at; exact extA) | apply But.of_at; first | exact But.upd (by assumption) | exact But.ext extA | (refine But.trans ?_ (But.upd (by assumption)); exact But.ext extA) | exact But.at _ _ _); done)))) | (first | apply Z.tn | apply Z.bkn) | apply W.region)
   all_goals
    have hS13 := Sep.uRw (i := 3) rfl hU hO (.inl rfl) hS12 extA (Below.size (show Ext w w12 from extA))
    rw [Int.toNat_natCast] at hS13
    have hmap : (rs.set k ((a2, cp2, r.2.2 ++ [((numB nv : Nat) : Int)]) : RowV Int)).map (fun r => r.2.2) = tab S (nxG c.t I k (i + 1)) := by
     rw [List.map_set, hrs]
     exact tab_set fun u _ => by rw [nxG_s hH, hrv, hnI]
    exact Z.agW ⟨by omega, hX13, _, _, hS13, hmap⟩ ⟨rfl, rfl, rfl, rfl, rfl, rfl, rfl, rfl, rfl, trivial⟩
  obtain rfl : i = I := by omega
  repeat' (first | (first | apply WL.nil | refine WL.au (k := ?_)) | apply Z.tn | (first | apply W.seq | apply W.region))
  refine W.cKF rfl (dFf (by omega)) ?_
  repeat' (first | (first | apply WL.nil | refine WL.au (k := ?_)) | (first | apply Z.tn | apply Z.bkn | apply Z.tnx | apply Z.bkx) | (first | apply W.region | apply W.exit))
  have e2 : tab S (bdG c.t prop i (k + 1) 0) = tab S (bdG c.t prop i k i) := tab_congr fun u _ => bdG_next c.t prop i k u
  have e3 : tab S (nxG c.t i (k + 1) 0) = tab S (nxG c.t i k i) := tab_congr fun u _ => nxG_next c.t i k u
  exact Z.agW ⟨by omega, hX8, rs, _, Y, by rw [e2]; exact hS8, by rw [e3]; exact hrs⟩ ⟨rfl, rfl, rfl, rfl, rfl, rfl, rfl, trivial⟩
 obtain rfl : k = S := by omega
 have hC6 := hS6.cell (i := 0) rfl
 have hC4 : CellC g4 (Value.cells (.agg #[.slice none 0 0, .slice none 0 0, .slice none 0 0])) 60 w6 := by
  rw [<- hzC]
  exact hS6.cell (i := 4) (by show some PG = _; rw [hPG])
 have hg4 : w.heap.size <= g4 := (hS6.lt (i := 4) (show _ = some PG from rfl) (by rw [hPG]; rfl)).1
 have hc6 := cHp hC6
 have eS : tab k (stF c.t k) = tab k (fS c.t) := tab_congr fun u hu => if_pos hu
 have eB : tab k (bdG c.t prop I k 0) = tab k (fun s => anyTo (bJ c.t prop s) I) := tab_congr fun u hu => if_pos hu
 have eN : tab k (nxG c.t I k 0) = tab k (fun s => nJ c.t s I) := tab_congr fun u hu => if_pos hu
 repeat' (first | (first | apply WL.nil | refine WL.au (k := ?_)) | apply Z.tn | (first | apply W.seq | apply W.region))
 refine W.cKF rfl (dFf (by omega)) ?_
 repeat' (first | (apply WL.storeB (w0 := w) tOk; (iterate 4 exact rfl); assumption; exact extA; (iterate 3 exact rfl); exact extA; assumption; intro w9 hb9 hc hX9 hU; have hcc := hc; obtain ⟨h1, h2, _⟩ := hc) | (first | apply WL.nil | refine WL.au (k := ?_)) | (first | apply Z.tn | apply Z.tnx | apply Z.bkx) | (first | apply W.seq | apply W.region | apply W.ret | apply W.exit))
 have hb9' : CellC g4 #[.slice (some ⟨g27, 0, none⟩) k k, .slice (some ⟨g29, 0, none⟩) k k, .slice (some ⟨g31, 0, none⟩) k k] 60 w9 := hb9
 have hS9 : Lt.Sep w.heap.size w9 (wlP w.heap.size g7 k (some ⟨g27, 0, none⟩) k (tab k (stF c.t k)) (some ⟨g29, 0, none⟩) k (tab k (bdG c.t prop I k 0)) (some ⟨g31, 0, none⟩) k rs X Y (pcell g4 #[.slice (some ⟨g27, 0, none⟩) k k, .slice (some ⟨g29, 0, none⟩) k k, .slice (some ⟨g31, 0, none⟩) k k] 60)) := Sep.uCl (i := 4) (by show some PG = _; rw [hPG]) hU hb9' hS6 (Ext.refl _) (Below.size hX6)
 have R1 := (hS9.row (i := 1) rfl).row eBk
 have R2 := (hS9.row (i := 2) rfl).row eBk
 have R3 := (hS9.row (i := 3) rfl).row encRow_ok
 have hRows : ∀ r ∈ rs, Row 1 encI w9 r.1 r.2.2 := fun r hr => by
  obtain ⟨j, hj⟩ := List.mem_iff_getElem?.1 hr
  exact (hS9.row (wl_in hj)).row eIk
 rw [eS] at R1
 rw [eB] at R2
 rw [eN] at hrs
 exact Z.bodyC tOk Try.results27 rfl rfl rfl rfl (cHp hb9') fun m => ⟨hX9.at m, some ⟨g27, 0, none⟩, k, some ⟨g29, 0, none⟩, k, some ⟨g31, 0, none⟩, k, rs, rfl, R1.ext ((Ext.refl _).at m), R2.ext ((Ext.refl _).at m), R3.ext ((Ext.refl _).at m), fun r hr => (hRows r hr).ext ((Ext.refl _).at m), hrs⟩
theorem ref17_WholeC (gm : Nat) (c : Circ) (rn : RowV (Int × Int)) (ra : RowV Int) (prop : Int) (w : World) (hM : MAt w gm c rn ra) (hl : c.lat.2.2.length <= 5) (hi : c.ins.2.2.length <= 5) :
  Lt.Spec Try.prog 27 [.pointer (some ⟨gm, 0, none⟩), .int .i64 prop] w (fun v w' => Ext w w' /\ ∃ sa sc ba bc na nc rs, v = .agg #[.slice sa (2 ^ c.lat.2.2.length) sc, .slice ba (2 ^ c.lat.2.2.length) bc, .slice na (2 ^ c.lat.2.2.length) nc] /\ Row 1 encB w' sa (wFrom c.t) /\ Row 1 encB w' ba (wBad c.t prop) /\ Row 1 encRow w' na rs /\ (∀ r ∈ rs, Row 1 encI w' r.1 r.2.2) /\ rs.map (fun r => r.2.2) = wNext c.t) :=
 ref17_WholeC0 gm c rn ra prop w hM hl hi

structure VAt (w : World) (c : Circ) (s i : List Bool) (rv : RowV Bool) (ra : RowV Int) : Prop where
 vals : Row 1 encB w rv.1 rv.2.2
 at_ : Row 1 encI w ra.1 ra.2.2
 ev : rv.2.2 = stepV c.t s i
 ea : ra.2.2 = (cNet c.t).2
 good : GoodC' c.t
 size : SzC c.t 100000
theorem VAt.ext {w w' : World} {c : Circ} {s i : List Bool} {rv : RowV Bool} {ra : RowV Int} (h : VAt w c s i rv ra) (hx : Ext w w') : VAt w' c s i rv ra := ⟨h.vals.ext hx, h.at_.ext hx, h.ev, h.ea, h.good, h.size⟩
end Go.Proofs.Yteidpnpbfagaeaa
namespace Go.Lt
open Go.RowKit
section
variable {P : Program} {N : Nat} {e : Env} {w : World} {C : World -> Prop} {ops : List Oper} {l : List Oper} {Kf : Act -> Prop} {Q : Exit -> Act -> World -> Prop} {T : Tab}
 {d : Nat} {tt t ty : TypeId} {ps : String} {af : Array Edge} {g : Option (Nat × Bool)} {x y : Operand} {i : TI} {el : TypeId}
theorem QL.neNilS {q : Addr} (hT : OkTab P T) (hg : gate ops e g = some true) (hd : Nat.blt d N = true) (hx : ev e x = some (.pointer (some q))) (hy : ev e y = some (.pointer none)) (ht : tget T t = some i) (htd : i.desc = .pointer el) (k : QL P N C ops.toArray l ((d, .bool true) :: e) Q) : QL P N C ops.toArray (⟨some d, .binOp .neq t x y ty, tt, ps, af, g⟩ :: l) e Q := by
 refine QL.step hg hd ?_ k
 have := (yneNil (P := P) (dd := some d) (ty := ty) (tt := tt) (ps := ps) (af := af) (g := g) hT hx hy ht htd)
 rw [dTt (by simp)] at this
 exact this.in
theorem QL.eqNilS {q : Addr} (hT : OkTab P T) (hg : gate ops e g = some true) (hd : Nat.blt d N = true) (hx : ev e x = some (.pointer (some q))) (hy : ev e y = some (.pointer none)) (ht : tget T t = some i) (htd : i.desc = .pointer el) (k : QL P N C ops.toArray l ((d, .bool false) :: e) Q) : QL P N C ops.toArray (⟨some d, .binOp .eql t x y ty, tt, ps, af, g⟩ :: l) e Q := by
 refine QL.step hg hd ?_ k
 have := (yeqNil (P := P) (dd := some d) (ty := ty) (tt := tt) (ps := ps) (af := af) (g := g) hT hx hy ht htd)
 rw [dFf (by simp)] at this
 exact this.in
theorem FL.neNilS {q : Addr} (hT : OkTab P T) (hg : gate ops e g = some true) (hd : Nat.blt d N = true) (hx : ev e x = some (.pointer (some q))) (hy : ev e y = some (.pointer none)) (ht : tget T t = some i) (htd : i.desc = .pointer el) (k : FL P N ops.toArray C l ((d, .bool true) :: e) w Kf) : FL P N ops.toArray C (⟨some d, .binOp .neq t x y ty, tt, ps, af, g⟩ :: l) e w Kf := by
 refine FL.step hg hd ?_ k
 have := (yneNil (P := P) (dd := some d) (ty := ty) (tt := tt) (ps := ps) (af := af) (g := g) hT hx hy ht htd)
 rw [dTt (by simp)] at this
 exact this.in
theorem FL.eqNilS {q : Addr} (hT : OkTab P T) (hg : gate ops e g = some true) (hd : Nat.blt d N = true) (hx : ev e x = some (.pointer (some q))) (hy : ev e y = some (.pointer none)) (ht : tget T t = some i) (htd : i.desc = .pointer el) (k : FL P N ops.toArray C l ((d, .bool false) :: e) w Kf) : FL P N ops.toArray C (⟨some d, .binOp .eql t x y ty, tt, ps, af, g⟩ :: l) e w Kf := by
 refine FL.step hg hd ?_ k
 have := (yeqNil (P := P) (dd := some d) (ty := ty) (tt := tt) (ps := ps) (af := af) (g := g) hT hx hy ht htd)
 rw [dFf (by simp)] at this
 exact this.in
theorem WL.kn {o : Oper} (hg : gate ops e o.guard = some true) (k : WL P N ops.toArray (o :: l) e w Q) : WL P N ops.toArray (o :: l) e w Q := k
theorem QL.kn {o : Oper} (hg : gate ops e o.guard = some true) (k : QL P N C ops.toArray (o :: l) e Q) : QL P N C ops.toArray (o :: l) e Q := k
theorem FL.kn {o : Oper} (hg : gate ops e o.guard = some true) (k : FL P N ops.toArray C (o :: l) e w Kf) : FL P N ops.toArray C (o :: l) e w Kf := k
end
end Go.Lt
namespace Go.Proofs.Yteidpnpbfagaeaa
open Go Go.Lt Go.RowKit

def ShortP (r : RunV) (m : Int) : Prop := (r.s.length : Int) <= 60 /\ (r.ins.2.2.length : Int) <= m /\ ∀ x ∈ r.ins.2.2, (x.2.2.length : Int) <= 60
theorem law17_Short (r : RunV) (m : Int) (w : World) (hR : RAt w r) : Pure Try.prog 24 [r.val, .int .i64 m] w (.bool (dec (ShortP r m))) := by
 have hil := hR.ins.len
 by_cases q1 : (r.st.2.2.length : Int) <= 60
 rotate_left
 ·have e : dec (ShortP r m) = false := dFf fun h => q1 h.1
  refine Spec.of _ Try.func24 rfl Try.ntmps24 (by kernel_rfl) rfl ?_
  repeat' (first | (apply WL.box; (iterate 3 exact rfl); intro gb w' hb hge hc hx; have hcc := hc; obtain ⟨h1, h2, h3, _⟩ := hc) | (apply WL.gT; exact rfl; exact rfl; exact dTt (by omega)) | (first | apply WL.nil | refine WL.au (k := ?_) | (apply WL.gdF; exact rfl; exact rfl)) | (first | apply Z.tn | apply Z.tnr) | (first | apply W.seq | apply W.region | apply W.ret | (apply W.condT; exact rfl)))
  exact Z.bd1 Try.results24 rfl fun m => ⟨by rw [e], Ext.at extA m⟩
 by_cases q2 : (r.ins.2.2.length : Int) <= m
 rotate_left
 ·have e : dec (ShortP r m) = false := dFf fun h => q2 h.2.1
  refine Spec.of _ Try.func24 rfl Try.ntmps24 (by kernel_rfl) rfl ?_
  repeat' (first | (apply WL.box; (iterate 3 exact rfl); intro gb w' hb hge hc hx; have hcc := hc; obtain ⟨h1, h2, h3, _⟩ := hc) | (apply WL.gF; exact rfl; exact rfl; exact dFf (by omega)) | (apply W.cKT; exact rfl; (focus (exact dTt (by omega)))) | (first | apply WL.nil | refine WL.au (k := ?_)) | (first | apply Z.tn | apply Z.tnr) | (first | apply W.seq | apply W.region | apply W.ret))
  exact Z.bd1 Try.results24 rfl fun m => ⟨by rw [e], Ext.at extA m⟩
 refine Spec.of _ Try.func24 rfl Try.ntmps24 (by kernel_rfl) rfl ?_
 repeat' (first | (apply WL.box; (iterate 3 exact rfl); intro gr wr hb hge hc hxr; have hcc := hc; obtain ⟨h1, h2, h3, _⟩ := hc; (have hcr : Cells wr gr 0 [rowVal r.st, rowVal r.ins] := hcc)) | (apply WL.gF; exact rfl; exact rfl; exact dFf (by omega)) | (apply W.cKF; exact rfl; exact dFf (by omega)) | (first | apply WL.nil | refine WL.au (k := ?_)) | apply Z.tn | (first | apply W.seq | apply W.region | apply W.block | apply W.skip))
 refine W.loop1 r.ins.2.2.length (fun k => k <= r.ins.2.2.length /\ ∀ j x, j < k -> r.ins.2.2[j]? = some x -> (x.2.2.length : Int) <= 60) (fun k => [(2, .pointer (some ⟨gr, 0, none⟩)), (5, .int .i64 k)]) ⟨Nat.zero_le _, fun j x h => by omega⟩ (fun k h => h.1) ⟨rfl, rfl, trivial⟩ ?_
 rintro k ⟨hk, hall⟩
 obtain ⟨m1, m2, _⟩ := id hcr
 have hRi := hR.ins.ext hxr
 by_cases hlt : k < r.ins.2.2.length
 ·obtain ⟨x, hxx⟩ := getI r.ins.2.2 hlt
  by_cases q3 : (x.2.2.length : Int) <= 60
  ·repeat' (first | (apply W.cKT; exact rfl; (focus (exact dTt (by omega)))) | (apply W.cKF; exact rfl; exact dFf (by omega)) | (first | apply WL.nil | refine WL.au (k := ?_) | (apply WL.index tOk; (iterate 8 exact rfl); assumption; exact extA; exact rfl; omega; assumption; intro b off h; have hcc := h; first | (obtain ⟨h1, h2, h3, h4, h5, h6, _⟩ := h) | (obtain ⟨h1, h2, h3, _⟩ := h) | (obtain ⟨h1, h2, _⟩ := h) | (obtain ⟨h1, _⟩ := h))) | (first | apply Z.tn | apply Z.bkn) | (first | apply W.seq | apply W.region | apply W.block | apply W.skip))
   refine Z.again1 ⟨by omega, fun j y hj hy => ?_⟩ ⟨rfl, rfl, trivial⟩
   by_cases hjk : j = k
   ·subst hjk; rw [hxx] at hy; cases hy; exact q3
   ·exact hall j y (by omega) hy
  ·have e : dec (ShortP r m) = false := dFf fun h => q3 (h.2.2 x (List.mem_of_getElem? hxx))
   repeat' (first | (apply W.cKT; exact rfl; (focus (exact dTt (by omega)))) | (first | apply WL.nil | refine WL.au (k := ?_) | (apply WL.index tOk; (iterate 8 exact rfl); assumption; exact extA; exact rfl; omega; assumption; intro b off h; have hcc := h; first | (obtain ⟨h1, h2, h3, h4, h5, h6, _⟩ := h) | (obtain ⟨h1, h2, h3, _⟩ := h) | (obtain ⟨h1, h2, _⟩ := h) | (obtain ⟨h1, _⟩ := h))) | (first | apply Z.tn | apply Z.tnr | apply Z.bkr) | (first | apply W.seq | apply W.region | apply W.block | apply W.skip | apply W.ret))
   exact Z.bd1 Try.results24 rfl fun m => ⟨by rw [e], Ext.at extA m⟩
 ·obtain rfl : k = r.ins.2.2.length := by omega
  have e : dec (ShortP r m) = true := dTt ⟨q1, q2, fun x hx => by
   obtain ⟨j, hj⟩ := List.mem_iff_getElem?.1 hx
   exact hall j x (lGt hj) hj⟩
  repeat' (first | (apply W.cKF; exact rfl; exact dFf (by omega)) | (first | apply WL.nil | refine WL.au (k := ?_)) | (first | apply Z.tn | apply Z.tnx | apply Z.bkx) | (first | apply W.seq | apply W.region | apply W.ret | apply W.exit))
  exact Z.bd1 Try.results24 rfl fun m => ⟨by rw [e], Ext.at extA m⟩

def Small5 (c : CirT) : Prop := (FewC c 20 /\ c.max <= 300 /\ GoodC' c) /\ c.lat.length + c.ins.length <= 5 /\ c.gates.length <= 10
theorem law35_Small (c : Circ) (w : World) (hC : CAt w c) : Pure Try.prog 23 [c.val, .int .i64 5, .int .i64 10] w (.bool (dec (Small5 c.t))) := by
 by_cases f0 : FewC c.t 20 /\ c.max <= 300 /\ GoodC' c.t
 rotate_left
 ·rw [dFf (show ¬ Small5 c.t from fun h => f0 h.1)]
  refine Spec.of _ Try.func23 rfl Try.ntmps23 (by kernel_rfl) rfl ?_
  repeat' (first | (apply WL.box; (iterate 3 exact rfl); intro gb w' hb hge hc hx; have hcc := hc; obtain ⟨h1, h2, h3, _⟩ := hc) | (apply WL.gF; exact rfl; exact rfl; (focus (with_reducible exact dFf f0; done))) | (apply WL.callP (f := 7); (iterate 4 exact rfl); exact law11_Small c 20 _ (hC.ext extA) (by decide); intro w' hx) | (first | apply WL.nil | refine WL.au (k := ?_) | (apply WL.gdF; exact rfl; exact rfl)) | apply Z.tn | (first | apply W.seq | apply W.region | apply W.ret))
  exact Z.bd1 Try.results23 rfl fun m => ⟨rfl, Ext.at extA m⟩
 have z1 : c.ins.2.2.length <= 20 := by have h9 : (c.ins.2.2.length : Int) <= 20 := f0.1.1; omega
 have z2 : c.lat.2.2.length <= 20 := by have h9 : (c.lat.2.2.length : Int) <= 20 := f0.1.2.1; omega
 by_cases f1 : c.lat.2.2.length + c.ins.2.2.length <= 5
 rotate_left
 ·rw [dFf (show ¬ Small5 c.t from fun h => f1 h.2.1)]
  refine Spec.of _ Try.func23 rfl Try.ntmps23 (by kernel_rfl) rfl ?_
  repeat' (first | (apply WL.box; (iterate 3 exact rfl); intro gc wc hb hge hc hxc; have hcc := hc; obtain ⟨h1, h2, h3, _⟩ := hc; (obtain ⟨y0, y1, y2, y3, y4, y5, y6, y7, y8, _⟩ := id hcc)) | (apply WL.gT; exact rfl; exact rfl; (focus (with_reducible exact dTt f0))) | (apply WL.gF; exact rfl; exact rfl; exact dFf (by omega)) | (apply WL.callP (f := 7); (iterate 4 exact rfl); exact law11_Small c 20 _ (hC.ext extA) (by decide); intro w' hx) | (first | apply WL.nil | refine WL.au (k := ?_) | (apply WL.gdF; exact rfl; exact rfl)) | apply Z.tn | (first | apply W.seq | apply W.region | apply W.ret))
  exact Z.bd1 Try.results23 rfl fun m => ⟨rfl, Ext.at extA m⟩
 have e : dec (Small5 c.t) = dec ((c.gates.2.2.length : Int) <= 10) := dCg ⟨fun h => by have h9 : c.gates.2.2.length <= 10 := h.2.2; omega, fun h => ⟨f0, f1, by show c.gates.2.2.length <= 10; omega⟩⟩
 rw [e]
 refine Spec.of _ Try.func23 rfl Try.ntmps23 (by kernel_rfl) rfl ?_
 repeat' (first | (apply WL.box; (iterate 3 exact rfl); intro gc wc hb hge hc hxc; have hcc := hc; obtain ⟨h1, h2, h3, _⟩ := hc; (obtain ⟨y0, y1, y2, y3, y4, y5, y6, y7, y8, _⟩ := id hcc)) | (apply WL.gT; exact rfl; exact rfl; (focus (first | with_reducible exact dTt f0 | exact dTt (by omega); done))) | (apply WL.callP (f := 7); (iterate 4 exact rfl); exact law11_Small c 20 _ (hC.ext extA) (by decide); intro w' hx) | (first | apply WL.nil | refine WL.au (k := ?_)) | apply Z.tn | (first | apply W.seq | apply W.region | apply W.ret))
 exact Z.bd1 Try.results23 rfl fun m => ⟨rfl, Ext.at extA m⟩
theorem Row.some0 {α : Type} {s : Nat} {enc : α -> List Value} {w : World} {a : Option Addr} {l : List α} (h : Row s enc w a l) (hl : 0 < l.length) : a ≠ none := fun he => by
 obtain ⟨x, hx⟩ := getI l hl
 obtain ⟨b, off, h1, _⟩ := h.elem 0 x hx
 rw [he] at h1
 simp at h1
theorem law_CoiMeans (c : Circ) (prop : Int) (r : RunV) (w : World) (hC : CAt w c) (hR : RAt w r) : Pure Try.prog 4 [c.val, .int .i64 prop, r.val] w (.bool true) := by
 by_cases hf : Small5 c.t
 rotate_left
 ·refine Spec.of _ Try.func4 rfl Try.ntmps4 (by kernel_rfl) rfl ?_
  repeat' (first | (apply WL.box; (iterate 3 exact rfl); intro gb w' hb hge hc hx; have hcc := hc; obtain ⟨h1, h2, h3, _⟩ := hc) | (apply WL.gT; exact rfl; exact rfl; (focus ((rw [dFf hf]; rfl); done))) | (apply WL.callP (f := 23); (iterate 4 exact rfl); exact law35_Small c _ (hC.ext extA); intro w' hx) | (apply WL.callP (f := 25); (iterate 4 exact rfl); exact law42_lives _; intro w' hx) | (first | apply WL.nil | refine WL.au (k := ?_) | (apply WL.gdF; exact rfl; exact rfl)) | (first | apply Z.tn | apply Z.tnr) | (first | apply W.seq | apply W.region | apply W.ret | (apply W.condT; exact rfl)))
  exact Z.bd1 Try.results4 rfl fun m => ⟨rfl, Ext.at extA m⟩
 by_cases hs : ShortP r 10
 rotate_left
 ·refine Spec.of _ Try.func4 rfl Try.ntmps4 (by kernel_rfl) rfl ?_
  repeat' (first | (apply WL.box; (iterate 3 exact rfl); intro gb w' hb hge hc hx; have hcc := hc; obtain ⟨h1, h2, h3, _⟩ := hc) | (apply WL.gF; exact rfl; exact rfl; (focus ((rw [dTt hf]; rfl)))) | (apply W.cKT; exact rfl; (focus ((rw [dFf hs]; rfl); done))) | (apply WL.callP (f := 23); (iterate 4 exact rfl); exact law35_Small c _ (hC.ext extA); intro w' hx) | (apply WL.callP (f := 24); (iterate 4 exact rfl); exact law17_Short r 10 _ (hR.ext extA); intro w' hx) | (apply WL.callP (f := 25); (iterate 4 exact rfl); exact law42_lives _; intro w' hx) | (first | apply WL.nil | refine WL.au (k := ?_)) | (first | apply Z.tn | apply Z.tnr) | (first | apply W.seq | apply W.region | apply W.ret))
  exact Z.bd1 Try.results4 rfl fun m => ⟨rfl, Ext.at extA m⟩
 have hf' := hf
 obtain ⟨⟨hfew, hmx, hg⟩, h5, h10⟩ := hf'
 have h5' : c.lat.2.2.length + c.ins.2.2.length <= 5 := h5
 obtain ⟨hz, hz7⟩ := few_sz2 hfew (by decide)
 have hn : r.ins.2.2.length <= 1048576 := by have := hs.2.1; omega
 have hgd : GoodC' (redC c.t prop) := red_good hg hz
 have hfd := red_few (prop := prop) hg hfew h5 h10
 have hzd : SzC (redC c.t prop) 100000 := (few_sz2 hfd.1 (by decide)).1
 have hdl0 : (redC c.t prop).lat.length <= c.lat.2.2.length := by rw [red_latlen]; exact sel_le _ _
 have hdi0 : (redC c.t prop).ins.length <= c.ins.2.2.length := by rw [red_inslen]; exact sel_le _ _
 have hkf : (!dec (Small5 c.t)) = false := by rw [dTt hf]; rfl
 have hks : (!dec (ShortP r 10)) = false := by rw [dTt hs]; rfl
 refine Spec.of _ Try.func4 rfl Try.ntmps4 (by kernel_rfl) rfl ?_
 repeat' (first | (apply WL.box; (iterate 3 exact rfl); intro gb w' hb hge hc hx; have hcc := hc; obtain ⟨h1, h2, h3, _⟩ := hc; (first | (have h_0 := g3; clear h_0; obtain ⟨g5, rfl⟩ : ∃ x, x = gb := ⟨_, rfl⟩; obtain ⟨wr, rfl⟩ : ∃ x, x = w' := ⟨_, rfl⟩; obtain ⟨hxr, rfl⟩ : ∃ x, x = hx := ⟨_, rfl⟩; have hcr : Cells wr g5 0 [rowVal r.st, rowVal r.ins] := hcc) | (obtain ⟨g3, rfl⟩ : ∃ x, x = gb := ⟨_, rfl⟩; obtain ⟨wc, rfl⟩ : ∃ x, x = w' := ⟨_, rfl⟩; obtain ⟨hxc, rfl⟩ : ∃ x, x = hx := ⟨_, rfl⟩; have hcells : Cells wc g3 0 c.vals := hcc))) | (apply WL.gF; exact rfl; exact rfl; (focus (first | with_reducible exact hkf | with_reducible exact hkd | exact dFf (by omega); done))) | (apply W.cKF; exact rfl; (focus (first | with_reducible exact hks | exact dFf (by omega); done))) | (apply WL.callP (f := 23); (iterate 4 exact rfl); exact law35_Small c _ (hC.ext extA); intro w' hx) | (apply WL.callP (f := 24); (iterate 4 exact rfl); exact law17_Short r 10 _ (hR.ext extA); intro w' hx) | (apply WL.call (f := 11); (iterate 4 exact rfl); exact law11_Own c _ (hC.ext extA) hz hz7; rintro v' w4 ⟨hx4, o, rfl, hot, hOo⟩; have hCo := hOo.at) | (apply WL.call (f := 26); (iterate 4 exact rfl); exact coi_Reduce o prop _ (hCo.ext extA) (by rw [hot]; exact hg) (by rw [hot]; exact hz); rintro v' w5 ⟨hx5, d, aL, aI, cL, cI, rfl, hdt, hCd⟩; rw [hot] at hdt; have hdl : d.lat.2.2.length <= c.lat.2.2.length := (by have h9 : d.lat.2.2.length = (redC c.t prop).lat.length := congrArg (fun t => t.lat.length) hdt; omega); have hdi : d.ins.2.2.length <= c.ins.2.2.length := (by have h9 : d.ins.2.2.length = (redC c.t prop).ins.length := congrArg (fun t => t.ins.length) hdt; omega); have hdP : FewC d.t 20 /\ d.max <= 300 /\ GoodC' d.t := ⟨by rw [hdt]; exact hfd.1, by have h9 : d.max = (redC c.t prop).max := congrArg CirT.max hdt; rw [h9]; exact hfd.2, by rw [hdt]; exact hgd⟩; have hkd : (!dec (FewC d.t 20 /\ d.max <= 300 /\ GoodC' d.t)) = false := (by rw [dTt hdP]; rfl)) | (apply WL.alloc tOk; (iterate 3 exact rfl); intro g7 wB hb7 hge7 hxB) | (apply WL.storeB (w0 := w5) tOk; (iterate 4 exact rfl); assumption; exact extA; (iterate 3 exact rfl); exact extA; assumption; intro w6 hb6 hc hX6 hU; have hcc := hc; obtain ⟨h1, h2, _⟩ := hc; (have hcd := cHp hb6; obtain ⟨e0, e1, e2, e3, _⟩ := id hcd; have hXr6 : Ext wr w6 := (show Ext wr w6 from extA); have hcc6 : Cells w6 g3 0 c.vals := Cells.ext (hxr.trans hXr6) hcells; obtain ⟨y0, y1, y2, y3, _⟩ := id hcc6)) | (apply WL.callP (f := 7); (iterate 4 exact rfl); exact law11_Small d 20 _ (hCd.ext extA) (by decide); intro w' hx) | (first | apply WL.nil | refine WL.au (k := ?_)) | apply Z.tn | (first | apply W.seq | apply W.region | apply W.skip))
 have hX67 : Ext w6 w' := extA
 obtain ⟨w7, rfl⟩ : ∃ x, x = w' := ⟨_, rfl⟩
 have hXw7 : Ext w w7 := (hxc.trans (hxr.trans hXr6)).trans hX67
 have hc7 : Cells w7 g3 0 c.vals := Cells.ext hX67 hcc6
 have hr7 : Cells w7 g5 0 [rowVal r.st, rowVal r.ins] := Cells.ext (hXr6.trans hX67) hcr
 have hd7 : Cells w7 g7 0 d.vals := Cells.ext hX67 hcd
 have hC7 := hC.ext hXw7
 have hR7 := hR.ext hXw7
 have hCd7 := (hCd.ext hX6).ext hX67
 clear hX67 hcc6 hcd hcells hcr hXr6 hxc hxr hb6 hb7 y0 y1 y2 y3 e0 e1 e2 e3 hX6 hCd hCo hOo
 repeat' (first | (show W _ _ (.region 6 _ _) _ _ _; apply W.regionGX (.fl false 0 (.fl false 2 (.br 1 (.br 3 (.fl true 4 (.fl true 5 .done)) .stop) .stop))) [1, 2, 3, 4] tMix; kernel_rfl) | (apply FL.loadAE (vs := c.vals) tOk; (iterate 5 exact rfl); exact hc7; exact rfl) | (apply FL.loadAE (vs := d.vals) tOk; (iterate 5 exact rfl); exact hd7; exact rfl) | (apply WL.call (f := 15); (iterate 4 exact rfl); exact ref17_New c _ (hC7.ext extA) hg hz; rintro v' w8 ⟨hx8, gm, rn, ra, rfl, hM, _⟩) | (apply WL.call (f := 15); (iterate 4 exact rfl); exact ref17_New d _ (hCd7.ext extA) (by rw [hdt]; exact hgd) (by rw [hdt]; exact hzd); rintro v' w9 ⟨hx9, gq, rn2, ra2, rfl, hM2, _⟩) | (apply WL.call (f := 27); (iterate 4 exact rfl); exact ref17_WholeC gm c rn ra prop _ (hM.ext extA) (by omega) (by omega); rintro v' w10 ⟨hx10, sa, sc, ba, bc, na, nc, rs, rfl, RS1, RB1, RN1, hRs1, hrs1⟩) | (apply WL.call (f := 27); (iterate 4 exact rfl); exact ref17_WholeC gq d rn2 ra2 0 _ (hM2.ext extA) (by omega) (by omega); rintro v' w11 ⟨hx11, sa2, sc2, ba2, bc2, na2, nc2, rs2, rfl, RS2, RB2, RN2, hRs2, hrs2⟩) | (show WL _ _ _ (⟨some 12, .alloc _, _, _, _, _⟩ :: _) _ _ _; apply WL.alloc tOk; (iterate 3 exact rfl); intro gA wA hbA hgeA hxA) | (show WL _ _ _ (⟨some 13, .alloc _, _, _, _, _⟩ :: _) _ _ _; apply WL.alloc tOk; (iterate 3 exact rfl); intro gB wB hbB hgeB hxB2; have hAB : gA < gB := Nat.lt_of_lt_of_le (heap_lt hbA) hgeB) | (show WL _ _ _ (⟨none, .store _ (.tmp 12) _, _, _, _, _⟩ :: _) _ _ _; apply WL.storeB (w0 := w11) tOk; (iterate 4 exact rfl); exact hbA; exact hxB2; kernel_rfl; kernel_rfl; kernel_rfl; exact (hxA.trans hxB2); exact hgeA; intro wE hbE hcE hXE hUE; have hbB2 := (hUE.grown.block gB (heap_lt hbB) (fun he => by simp only [blk, Option.map_some, Option.some.injEq] at he; omega)).trans hbB) | (show WL _ _ _ (⟨none, .store _ (.tmp 13) _, _, _, _, _⟩ :: _) _ _ _; apply WL.storeB (w0 := w11) tOk; (iterate 4 exact rfl); exact hbB2; exact Ext.refl _; kernel_rfl; kernel_rfl; kernel_rfl; exact hXE; exact Nat.le_trans (Nat.le_trans (Below.size hxA) hgeB) (Nat.le_refl _); intro wF hbF hcF hXF hUF; have hbA2 := (hUF.grown.block gA (heap_lt hbE) (fun he => by simp only [blk, Option.map_some, Option.some.injEq] at he; omega)).trans hbE) | (first | (apply SX.done; intro w' hx) | (apply SX.fl0; exact rfl) | (apply SX.fl1; exact rfl; exact extA) | (apply SX.br1; exact rfl; intro w' hx)) | apply FL.nilX | refine FL.au (k := ?_) | (apply Z.sxE; exact extA) | (first | apply WL.nil | refine WL.au (k := ?_)) | apply Z.tn | (first | apply W.seq | apply W.region))
 have hXEF : Ext w11 wF := hXF
 have hX7F : Ext w7 wF := (show Ext w7 w11 from extA).trans hXEF
 have hXwF : Ext w wF := hXw7.trans hX7F
 have hcA : Cells wF gA 0 [.slice sa (2 ^ c.lat.2.2.length) sc, .slice ba (2 ^ c.lat.2.2.length) bc, .slice na (2 ^ c.lat.2.2.length) nc] := cHp hbA2
 have hcB : Cells wF gB 0 [.slice sa2 (2 ^ d.lat.2.2.length) sc2, .slice ba2 (2 ^ d.lat.2.2.length) bc2, .slice na2 (2 ^ d.lat.2.2.length) nc2] := hcF
 have hSl : (2 : Nat) ^ c.lat.2.2.length <= 32 := Nat.pow_le_pow_right (by decide) (show c.lat.2.2.length <= 5 by omega)
 have hIl : (2 : Nat) ^ c.ins.2.2.length <= 32 := Nat.pow_le_pow_right (by decide) (show c.ins.2.2.length <= 5 by omega)
 have hSl2 : (2 : Nat) ^ d.lat.2.2.length <= 32 := Nat.pow_le_pow_right (by decide) (show d.lat.2.2.length <= 5 by omega)
 have hIl2 : (2 : Nat) ^ d.ins.2.2.length <= 32 := Nat.pow_le_pow_right (by decide) (show d.ins.2.2.length <= 5 by omega)
 have hrl : rs.length = 2 ^ c.lat.2.2.length := by have h9 := congrArg List.length hrs1; rw [List.length_map] at h9; rw [h9]; exact tab_len _ _
 have hrl2 : rs2.length = 2 ^ d.lat.2.2.length := by have h9 := congrArg List.length hrs2; rw [List.length_map] at h9; rw [h9]; exact tab_len _ _
 have hv1 : ∀ r ∈ rs, r.2.2.length <= 1000 /\ ∀ t ∈ r.2.2, 0 <= t /\ t < ((2 ^ c.lat.2.2.length : Nat) : Int) := fun r hr => by
  have h9 := wNext_mem (c := c.t) (row := r.2.2) (by rw [<- hrs1]; exact List.mem_map.2 ⟨r, hr, rfl⟩)
  exact ⟨Nat.le_trans h9.1 (Nat.le_trans hIl (by decide)), h9.2⟩
 have hv2 : ∀ r ∈ rs2, r.2.2.length <= 1000 /\ ∀ t ∈ r.2.2, 0 <= t /\ t < ((2 ^ d.lat.2.2.length : Nat) : Int) := fun r hr => by
  have h9 := wNext_mem (c := d.t) (row := r.2.2) (by rw [<- hrs2]; exact List.mem_map.2 ⟨r, hr, rfl⟩)
  exact ⟨Nat.le_trans h9.1 (Nat.le_trans hIl2 (by decide)), h9.2⟩
 obtain ⟨SV, hSV⟩ : ∃ S, S = stepsV (wBad c.t prop) (wNext c.t) (2 ^ c.lat.2.2.length) (40 + 1) 0 (wFrom c.t) := ⟨_, rfl⟩
 have hSV2 : stepsV (wBad d.t 0) (wNext d.t) (2 ^ d.lat.2.2.length) (40 + 1) 0 (wFrom d.t) = SV := by rw [hSV]; exact steps_eq hg hz hdt (40 + 1) 0
 have hwl1 : (wFrom c.t).length = 2 ^ c.lat.2.2.length := tab_len _ _
 have hwl2 : (wFrom d.t).length = 2 ^ d.lat.2.2.length := tab_len _ _
 have hp1 : 0 < (2 : Nat) ^ c.lat.2.2.length := Nat.pow_pos (by decide)
 have hp2 : 0 < (2 : Nat) ^ d.lat.2.2.length := Nat.pow_pos (by decide)
 have hx10F : Ext w10 wF := hx11.trans hXEF
 have hT1 := fun (w0 : World) (h0 : Ext wF w0) => ref17_Steps w0 sa ba na sa sc bc nc sc (2 ^ c.lat.2.2.length) 40 (wBad c.t prop) (wFrom c.t) rs (RB1.ext (hx10F.trans h0)) (RN1.ext (hx10F.trans h0)) (fun r hr => (hRs1 r hr).ext (hx10F.trans h0)) (RS1.ext (hx10F.trans h0)) (tab_len _ _) hrl hwl1 hv1 (by omega) (by decide) (fun he => absurd he (Row.some0 RS1 (by omega)))
 have hT2 := fun (w0 : World) (h0 : Ext wF w0) => ref17_Steps w0 sa2 ba2 na2 sa2 sc2 bc2 nc2 sc2 (2 ^ d.lat.2.2.length) 40 (wBad d.t 0) (wFrom d.t) rs2 (RB2.ext (hXEF.trans h0)) (RN2.ext (hXEF.trans h0)) (fun r hr => (hRs2 r hr).ext (hXEF.trans h0)) (RS2.ext (hXEF.trans h0)) (tab_len _ _) hrl2 hwl2 hv2 (by omega) (by decide) (fun he => absurd he (Row.some0 RS2 (by omega)))
 rw [hrs1, <- hSV] at hT1
 rw [hrs2, hSV2] at hT2
 have hcF3 : Cells wF g3 0 c.vals := Cells.ext hX7F hc7
 have hrF : Cells wF g5 0 [rowVal r.st, rowVal r.ins] := Cells.ext hX7F hr7
 have hCF := hC7.ext hX7F
 have hRF := hR7.ext hX7F
 have hMF : MAt wF gm c rn ra := hM.ext (show Ext w8 wF from (show Ext w8 w11 from extA).trans hXEF)
 have hsl : (skV c.t).length = c.lat.2.2.length := stuck_len
 obtain ⟨y0, y1, y2, y3, _⟩ := id hcF3
 obtain ⟨p0, p1, _⟩ := id hrF
 obtain ⟨a0, a1, a2, _⟩ := id hcA
 obtain ⟨b0, b1, b2, _⟩ := id hcB
 clear hM hM2 hX7F hXEF hx8 hx9 hx10 hx11 hxA hxB2 hXE hXF hbE hbF hUE hUF hbA hbB hbA2 hbB2 hcE hcF hXw7 hc7 hr7 hd7 hC7 hR7 hCd7 hx10F
 by_cases hst : StartsP c.t r.s
 rotate_left
 ·have hkst : (!dec (StartsP c.t r.s)) = true := by rw [dFf hst]; rfl
  repeat' (first | (show W _ _ (.region 8 _ _) _ _ _; apply W.regionGX (.fl true 1 (.fl true 5 (.fl false 0 (.fl false 2 (.fl false 4 (.fl false 6 (.br 3 (.br 7 (.fl true 8 .done) .stop) .stop))))))) [2, 3, 4, 6, 7, 8] tMix; kernel_rfl) | (apply FL.loadAE (vs := [.slice sa (2 ^ c.lat.2.2.length) sc, .slice ba (2 ^ c.lat.2.2.length) bc, .slice na (2 ^ c.lat.2.2.length) nc]) tOk; (iterate 5 exact rfl); exact hcA; exact rfl) | (apply FL.loadAE (vs := [.slice sa2 (2 ^ d.lat.2.2.length) sc2, .slice ba2 (2 ^ d.lat.2.2.length) bc2, .slice na2 (2 ^ d.lat.2.2.length) nc2]) tOk; (iterate 5 exact rfl); exact hcB; exact rfl) | (apply WL.call (f := 28); (iterate 4 exact rfl); exact hT1 _ extA; rintro v' w12 ⟨hx12, rfl⟩) | (apply WL.call (f := 28); (iterate 4 exact rfl); exact hT2 _ extA; rintro v' w13 ⟨hx13, rfl⟩) | (apply W.cKT; exact rfl; (focus (with_reducible exact hkst; done))) | (apply W.cKF; exact rfl; (focus (first | exact dFf (fun h => h rfl) | exact dFf (by omega)))) | (apply WL.call (f := 29); (iterate 4 exact rfl); exact coi_Stuck c _ (hCF.ext extA) hg hz; rintro v' w14 ⟨hx14, aS, cS, rfl, hOS⟩; have RK := hOS.row eIk) | (apply WL.callS (f := 30); (iterate 4 exact rfl); exact ref17_Starts gm c rn ra r.st.1 r.st.2.1 r.st.2.2 _ (hMF.ext extA) (hRF.st.ext extA)) | (apply WL.callP (f := 25); (iterate 4 exact rfl); exact law42_lives _; intro w' hx) | (first | (apply SX.done; intro w' hx) | (apply SX.fl0; exact rfl) | (apply SX.fl1; exact rfl; exact extA) | (apply SX.br1; exact rfl; intro w' hx)) | (first | apply FL.nilX | (apply FL.loadE tOk; (iterate 5 exact rfl); assumption)) | refine FL.au (k := ?_) | (apply Z.sxE; exact extA) | (first | apply WL.nil | refine WL.au (k := ?_)) | (first | apply Z.tn | apply Z.tnr) | (first | apply W.seq | apply W.region | apply W.skip | apply W.ret))
  all_goals exact Z.bd1 Try.results4 rfl fun m => ⟨rfl, Ext.at (hXwF.trans extA) m⟩
 have hkst : (!dec (StartsP c.t r.s)) = false := by rw [dTt hst]; rfl
 repeat' (first | (show W _ _ (.region 8 _ _) _ _ _; apply W.regionGX (.fl true 1 (.fl true 5 (.fl false 0 (.fl false 2 (.fl false 4 (.fl false 6 (.br 3 (.br 7 (.fl true 8 .done) .stop) .stop))))))) [2, 3, 4, 6, 7, 8] tMix; kernel_rfl) | (apply FL.loadAE (vs := [.slice sa (2 ^ c.lat.2.2.length) sc, .slice ba (2 ^ c.lat.2.2.length) bc, .slice na (2 ^ c.lat.2.2.length) nc]) tOk; (iterate 5 exact rfl); exact hcA; exact rfl) | (apply FL.loadAE (vs := [.slice sa2 (2 ^ d.lat.2.2.length) sc2, .slice ba2 (2 ^ d.lat.2.2.length) bc2, .slice na2 (2 ^ d.lat.2.2.length) nc2]) tOk; (iterate 5 exact rfl); exact hcB; exact rfl) | (apply WL.call (f := 28); (iterate 4 exact rfl); exact hT1 _ extA; rintro v' w12 ⟨hx12, rfl⟩) | (apply WL.call (f := 28); (iterate 4 exact rfl); exact hT2 _ extA; rintro v' w13 ⟨hx13, rfl⟩) | (apply W.cKF; exact rfl; (focus (first | exact dFf (fun h => h rfl) | exact dFf (by omega) | with_reducible exact hkst; done))) | (apply WL.call (f := 29); (iterate 4 exact rfl); exact coi_Stuck c _ (hCF.ext extA) hg hz; rintro v' w14 ⟨hx14, aS, cS, rfl, hOS⟩; have RK := hOS.row eIk) | (apply WL.callS (f := 30); (iterate 4 exact rfl); exact ref17_Starts gm c rn ra r.st.1 r.st.2.1 r.st.2.2 _ (hMF.ext extA) (hRF.st.ext extA)) | (apply WL.call (f := 31); (iterate 4 exact rfl); exact ref17_States gm c rn ra r _ (hMF.ext extA) (hRF.ext extA) hn; rintro v' w15 ⟨hx15, a8, c8, ra8, rfl, hR8, he8⟩) | (first | (apply SX.done; intro w' hx) | (apply SX.fl0; exact rfl) | (apply SX.fl1; exact rfl; exact extA) | (apply SX.br1; exact rfl; intro w' hx)) | (first | apply FL.nilX | (apply FL.loadE tOk; (iterate 5 exact rfl); assumption)) | refine FL.au (k := ?_) | (apply Z.sxE; exact extA) | (first | apply WL.nil | refine WL.au (k := ?_)) | apply Z.tn | (first | apply W.seq | apply W.region | apply W.block | apply W.skip))
 have hXF15 : Ext wF w15 := extA
 have RK15 : Row 1 encI w15 aS (skV c.t) := RK.ext extA
 have R8 : Row 1 encRB w15 a8 ra8 := hR8.outer.row encRB_ok
 have hl8 : ra8.length = r.ins.2.2.length := by have h9 := congrArg List.length he8; rw [List.length_map, statesV_len, runI_len] at h9; exact h9
 have hXw15 : Ext w w15 := hXwF.trans hXF15
 refine W.loop1 ra8.length (fun k => k <= ra8.length) (fun k => [(14, .slice aS (skV c.t).length cS), (15, .slice a8 ra8.length c8), (16, .int .i64 k)]) (Nat.zero_le _) (fun k h => h) ⟨rfl, rfl, rfl, trivial⟩ ?_
 rintro k hk
 by_cases hlt : k < ra8.length
 ·obtain ⟨q, hq, e7⟩ := statesV_i c.t r he8 (show k < r.ins.2.2.length by omega)
  have Rq := hR8.row eBk hq
  have hSk := stk_state hg hz hst r.i k
  rw [<- e7] at hSk
  have hql : q.2.2.length = c.lat.2.2.length := by rw [e7]; exact stateV_len _ _ _ _
  repeat' (first | (apply W.cKT; exact rfl; exact dTt (by omega)) | (first | apply WL.nil | refine WL.au (k := ?_)) | apply Z.tn | (first | apply W.seq | apply W.region | apply W.block | apply W.skip))
  refine W.loop1 (skV c.t).length (fun j => j <= (skV c.t).length) (fun j => [(14, .slice aS (skV c.t).length cS), (15, .slice a8 ra8.length c8), (16, .int .i64 k), (17, .int .i64 j)]) (Nat.zero_le _) (fun j h => h) ⟨rfl, rfl, rfl, rfl, trivial⟩ ?_
  rintro j hj
  by_cases hlj : j < (skV c.t).length
  ·obtain ⟨st, hst9⟩ := getI (skV c.t) hlj
   obtain ⟨z, hzz⟩ := getI q.2.2 (show j < q.2.2.length by omega)
   have e1 : (skV c.t).getD j 0 = st := gDo hst9
   have e2 : q.2.2.getD j false = z := gDo hzz
   have h3 := stuck_three (c := c.t) hg (i := j) (show j < c.lat.2.2.length by omega)
   have h4 := hSk j (show j < c.lat.2.2.length by omega)
   rw [e1] at h3 h4
   rw [e2] at h4
   by_cases h2 : st < 2
   ·have hz9 : z = dec (st = 1) := by
     rcases h3 with h | h | h
     ·rw [h4.1 h, dFf (by omega)]
     ·rw [h4.2 h, dTt h]
     ·omega
    repeat' (first | (apply QL.gT; exact rfl; exact rfl; (focus (exact dTt (by omega)))) | (apply W.cKT; exact rfl; (focus (exact dTt (by omega)))) | (apply W.cKF; exact rfl; exact dFf (fun h => h hz9)) | (first | apply WL.nil | refine WL.au (k := ?_)) | (first | apply QL.nil | refine QL.au (k := ?_) | (apply QL.index tOk; (iterate 8 exact rfl); assumption; exact extA; exact rfl; omega; assumption; intro b off h; have hcc := h; first | (obtain ⟨h1, h2, h3, h4, h5, h6, _⟩ := h) | (obtain ⟨h1, h2, h3, _⟩ := h) | (obtain ⟨h1, h2, _⟩ := h) | (obtain ⟨h1, _⟩ := h))) | (first | apply Z.tn | apply Z.bkn) | (first | apply W.seq | apply W.region | apply W.block | apply W.skip | (apply W.rgD tMix; kernel_rfl)))
    exact Z.again1 (by omega) ⟨rfl, rfl, rfl, rfl, trivial⟩
   ·repeat' (first | (apply QL.gF; exact rfl; exact rfl; exact dFf h2) | (apply W.cKT; exact rfl; (focus (exact dTt (by omega)))) | (first | apply WL.nil | refine WL.au (k := ?_)) | (first | apply QL.nil | refine QL.au (k := ?_) | (apply QL.index tOk; (iterate 8 exact rfl); assumption; exact extA; exact rfl; omega; assumption; intro b off h; have hcc := h; first | (obtain ⟨h1, h2, h3, h4, h5, h6, _⟩ := h) | (obtain ⟨h1, h2, h3, _⟩ := h) | (obtain ⟨h1, h2, _⟩ := h) | (obtain ⟨h1, _⟩ := h)) | (apply QL.gdF; exact rfl; exact rfl)) | (first | apply Z.tn | apply Z.bkn) | (first | apply W.seq | apply W.region | apply W.block | apply W.skip | (apply W.condF; exact rfl) | (apply W.rgD tMix; kernel_rfl)))
    exact Z.again1 (by omega) ⟨rfl, rfl, rfl, rfl, trivial⟩
  ·obtain rfl : j = (skV c.t).length := by omega
   repeat' (first | (apply W.cKF; exact rfl; exact dFf (by omega)) | (first | apply WL.nil | refine WL.au (k := ?_)) | (first | apply Z.tn | apply Z.bkn | apply Z.tnx | apply Z.bkx) | (first | apply W.seq | apply W.region | apply W.exit))
   exact Z.again1 (by omega) ⟨rfl, rfl, rfl, trivial⟩
 ·obtain rfl : k = ra8.length := by omega
  repeat' (first | (apply W.cKF; exact rfl; exact dFf (by omega)) | (apply WL.callP (f := 25); (iterate 4 exact rfl); exact law42_lives _; intro w' hx) | (first | apply WL.nil | refine WL.au (k := ?_)) | (first | apply Z.tn | apply Z.tnx | apply Z.bkx) | (first | apply W.seq | apply W.region | apply W.ret | apply W.exit))
  exact Z.bd1 Try.results4 rfl fun m => ⟨rfl, Ext.at (hXw15.trans extA) m⟩
open Go Go.Lt Go.RowKit Go.ChangeShapes Go.WideShapes Go.ChangeAt Go.Deep

set_option maxRecDepth 20000 in
theorem circ_of {H : Type} {en : TypeId × Value -> H} {w : World} {base : Nat} {spare : Nat -> Bool} {held : Bool} {r : Reach} {b0 : Nat} {v : Value} {d : DataW H} {ps : List MemPlace} (hval : Value.okWide Try.prog w r b0 27 v) (hd : DataW.Trod en Try.prog w base spare held 27 v d ps) : ∃ c : Circ, v = c.val /\ CAt w c := by
 obtain ⟨⟨m, ins, lat, outs, bads, cons, gates, syms, com, _⟩, hv, _, ki, kl, ko, kb, kc, kg, ks, _⟩ := struct_of (reads_struct Try.underlying27 (by kernel_rfl) (by kernel_rfl) (readsF_cons (reads_int Try.underlying3) (readsF_cons (reads_row (s := 1) (reads_int Try.underlying3) (by kernel_rfl) Try.underlying22 (fun _ => rfl) (by decide)) (readsF_cons (reads_row (s := 3) (reads_triple' (s0 := 1) (s1 := 1) (s2 := 1) Try.underlying87 (reads_int Try.underlying3) (reads_int Try.underlying3) (reads_int Try.underlying3) (by kernel_rfl) rfl rfl rfl (by kernel_rfl) (by kernel_rfl) (by kernel_rfl)) (by kernel_rfl) Try.underlying23 (fun _ => rfl) (by decide)) (readsF_cons (reads_row (s := 1) (reads_int Try.underlying3) (by kernel_rfl) Try.underlying22 (fun _ => rfl) (by decide)) (readsF_cons (reads_row (s := 1) (reads_int Try.underlying3) (by kernel_rfl) Try.underlying22 (fun _ => rfl) (by decide)) (readsF_cons (reads_row (s := 1) (reads_int Try.underlying3) (by kernel_rfl) Try.underlying22 (fun _ => rfl) (by decide)) (readsF_cons (reads_row (s := 3) (reads_triple' (s0 := 1) (s1 := 1) (s2 := 1) Try.underlying89 (reads_int Try.underlying3) (reads_int Try.underlying3) (reads_int Try.underlying3) (by kernel_rfl) rfl rfl rfl (by kernel_rfl) (by kernel_rfl) (by kernel_rfl)) (by kernel_rfl) Try.underlying24 (fun _ => rfl) (by decide)) (readsF_cons (reads_row (s := 3) (reads_triple' (s0 := 1) (s1 := 1) (s2 := 1) Try.underlying150 (reads_int Try.underlying5) (reads_int Try.underlying3) (reads_string Try.underlying9) (by kernel_rfl) rfl rfl rfl (by kernel_rfl) (by kernel_rfl) (by kernel_rfl)) (by kernel_rfl) Try.underlying25 (fun _ => rfl) (by decide)) (readsF_cons (reads_string Try.underlying9) (readsF_nil _))))))))))) Try.underlying27 hval hd
 exact ⟨⟨m, ins, lat, outs, bads, cons, gates, syms, com⟩, hv, ⟨ki.1, ki.2.1, ki.2.2.2.1⟩, ⟨kl.1, kl.2.1, kl.2.2.2.1⟩, ⟨ko.1, ko.2.1, ko.2.2.2.1⟩, ⟨kb.1, kb.2.1, kb.2.2.2.1⟩, ⟨kc.1, kc.2.1, kc.2.2.2.1⟩, ⟨kg.1, kg.2.1, kg.2.2.2.1⟩, ⟨ks.1, ks.2.1, ks.2.2.2.1⟩⟩

set_option maxRecDepth 20000 in
theorem run_of {H : Type} {en : TypeId × Value -> H} {w : World} {base : Nat} {spare : Nat -> Bool} {held : Bool} {r : Reach} {b0 : Nat} {v : Value} {d : DataW H} {ps : List MemPlace} (hval : Value.okWide Try.prog w r b0 54 v) (hd : DataW.Trod en Try.prog w base spare held 54 v d ps) : ∃ r : RunV, v = r.val /\ RAt w r := by
 obtain ⟨⟨st, ins, _⟩, hv, ks, ki, _⟩ := struct_of (reads_struct Try.underlying54 (by kernel_rfl) (by kernel_rfl) (readsF_cons (reads_row (s := 1) (reads_bool Try.underlying4) (by kernel_rfl) Try.underlying31 (fun _ => rfl) (by decide)) (readsF_cons (reads_row (s := 1) (reads_row (s := 1) (reads_bool Try.underlying4) (by kernel_rfl) Try.underlying31 (fun _ => rfl) (by decide)) (by kernel_rfl) Try.underlying52 (fun _ => rfl) (by decide)) (readsF_nil _)))) Try.underlying54 hval hd
 exact ⟨⟨st, ins⟩, hv, ⟨ks.1, ki.1, fun x hx => (ki.2.2.2.2 x hx).1⟩⟩
open Go Go.Lt Go.ChangeShapes Go.WideShapes Go.ChangeAt Go.RowKit
open Go.ChangeMaps (open_string shut_string)
namespace coiMeans
theorem own : ownKnob Try.prog.godebug = none := by kernel_rfl
theorem laidOut : laidOutB Try.prog = true := factLaid
set_option maxRecDepth 100000 in
theorem lifted (os : Os) (started : os.Started) (H : Type) (enc : TypeId × Value -> H) :
  ReturnsInHanded {} Try.checked os 4 .any (Rows.coiMeansSpec.pre6 enc Try.prog Try.f4 Rows.coiMeansRow.domain false) (Rows.coiMeansSpec.post enc Try.prog Try.f4 false true false false) := by
 refine returnsInHanded_of_change (C := Try.checked) own started (by kernel_rfl) Try.func4
  (ChangeSpec.witness6 (enc := enc) (C := Try.checked) false ⟨#[], #[.agg #[.int .i64 0, .slice none 0 0, .slice none 0 0, .slice none 0 0, .slice none 0 0, .slice none 0 0, .slice none 0 0, .slice none 0 0, .string ⟨#[]⟩], .int .i64 0, .agg #[.slice none 0 0, .slice none 0 0]], []⟩ 8 (by kernel_rfl) (by kernel_rfl) (by kernel_rfl) (by kernel_rfl)) ?_
 intro W base args ds gs before hval0 hW hcnd _
 have hval : ∀ (j : Nat) t v, Try.f4.params[j]? = some t -> args[j]? = some v -> Value.okWide Try.prog W .any base t v := hval0
 have hW' := hW
 obtain ⟨p, q, hA0, hV, rfl, hfz, hnd⟩ := hW
 have hA : DataW.TrodAll enc Try.prog W 0 (fun _ => true) true Try.f4.params.toList args.toList ds p := hA0
 rw [Try.params4] at hA hval
 obtain ⟨v0, vs0, d0, ds0, p0, q0, hargs, rfl, rfl, h0, r0⟩ := trodAll_cons hA
 obtain ⟨v1, vs1, d1, ds1, p1, q1, rfl, rfl, rfl, h1, r1⟩ := trodAll_cons r0
 obtain ⟨v2, vs2, d2, ds2, p2, q2, rfl, rfl, rfl, h2, r2⟩ := trodAll_cons r1
 obtain ⟨rfl, rfl, rfl⟩ := trodAll_nil r2
 obtain rfl : args = #[v0, v1, v2] := by cases args; simp_all
 obtain ⟨rfl, rfl⟩ := trodVars_none hV
 have k0 := h0
 have lt0 : ∀ x ∈ p0, x.block < W.heap.size := by obtain ⟨m, hm⟩ := k0; exact DataW.trod_lt m _ _ _ hm
 have k1 := h1
 have lt1 : ∀ x ∈ p1, x.block < W.heap.size := by obtain ⟨m, hm⟩ := k1; exact DataW.trod_lt m _ _ _ hm
 have k2 := h2
 have lt2 : ∀ x ∈ p2, x.block < W.heap.size := by obtain ⟨m, hm⟩ := k2; exact DataW.trod_lt m _ _ _ hm
 obtain ⟨c0, rfl, hC0⟩ := circ_of (hval 0 27 v0 rfl rfl) h0
 obtain ⟨n1, rfl, rfl, rfl, w1⟩ := open_int Try.underlying3 (hval 1 3 v1 rfl rfl) h1
 obtain ⟨r2v, rfl, hR2⟩ := run_of (hval 2 54 v2 rfl rfl) h2
 clear hA0 hval0
 refine (Spec.law (law_CoiMeans c0 n1 r2v W hC0 hR2)).mono fun e W' ⟨he, bel⟩ => ?_
 subst he
 exact ⟨_, rfl, _, _, _, [], _, [], hW', trodAll_mk1 (shut_bool Try.underlying4 _), (trodAll_cons_mk (Below.trod laidOut (by kernel_rfl) (of_decide_eq_true (by kernel_rfl)) k0 bel lt0) (trodAll_cons_mk (Below.trod laidOut (by kernel_rfl) (of_decide_eq_true (by kernel_rfl)) k1 bel lt1) (trodAll_cons_mk (Below.trod laidOut (by kernel_rfl) (of_decide_eq_true (by kernel_rfl)) k2 bel lt2) trodAll_mk0))), rfl, bel.frame _, fun h => by cases h⟩
theorem j0 : (Rows.coiMeansRow.wf (OpenSpec.ofChange Rows.coiMeansSpec)) = true := by kernel_rfl
theorem j3 : (Try.f4.params.all (Try.prog.readableRec ·)) = true := by kernel_rfl
theorem j4 : (namedTie Try.prog Rows.coiMeansRow.named Rows.coiMeansSpec.vars) = true := by kernel_rfl
theorem j5 : ((Rows.coiMeansRow.stops == [])) = true := by kernel_rfl
theorem j7 : ((Rows.coiMeansRow.knobs == [])) = true := by kernel_rfl
theorem j9 : ((Rows.coiMeansRow.inPlace == Try.prog.inPlace 4)) = true := by kernel_rfl
theorem j10 : ((Rows.coiMeansRow.unfollowed == Try.prog.unfollowed 4)) = true := by kernel_rfl
theorem j11 : ((Rows.coiMeansRow.recurses == Try.prog.recurses 4)) = true := by kernel_rfl
theorem j12 : ((Rows.coiMeansRow.named == Try.prog.varsNamed 4)) = true := by kernel_rfl
theorem j13 : ((Rows.coiMeansRow.maps == (Try.f4.params.toList ++ Rows.coiMeansSpec.plain.varTypes Try.prog).any (Try.prog.mapsRec ·))) = true := by kernel_rfl
theorem j14 : ((Rows.coiMeansRow.ifaces == (Try.f4.params.toList ++ Rows.coiMeansSpec.plain.varTypes Try.prog).any (Try.prog.ifacesRec ·))) = true := by kernel_rfl
theorem j15 : ((Rows.coiMeansRow.mapsOut == Try.prog.mapsAmong Try.f4.resultTypes.toList)) = true := by kernel_rfl
theorem j16 : ((Rows.coiMeansRow.loops == (Try.f4.params.toList ++ Rows.coiMeansSpec.plain.varTypes Try.prog).any (Try.prog.loopsFrom ·))) = true := by kernel_rfl
theorem j17 : ((Rows.coiMeansRow.wideKeys == (Try.f4.params.toList ++ Rows.coiMeansSpec.plain.varTypes Try.prog ++ Try.f4.resultTypes.toList).any (Try.prog.wideKeysFrom ·))) = true := by kernel_rfl
theorem j18 : (Rows.coiMeansSpec.vars.all (Try.prog.varReadable ·)) = true := by kernel_rfl
theorem j19 : (Try.f4.resultTypes.all (fun t => Try.prog.readableRec t && decide (t < Try.prog.types.size))) = true := by kernel_rfl
theorem j20 : ((Rows.coiMeansRow.ifacesOut == Try.f4.resultTypes.toList.any (Try.prog.ifacesRec ·))) = true := by kernel_rfl
theorem j21 : ((Rows.coiMeansRow.loopsOut == Try.f4.resultTypes.toList.any (Try.prog.loopsFrom ·))) = true := by kernel_rfl
theorem j22 : ((Rows.coiMeansRow.plainKeys == Try.prog.plainKeys)) = true := by rw [show Rows.coiMeansRow.plainKeys = Rows.liftAsksRow.plainKeys by kernel_rfl]; exact factKeys
theorem j23 : (Rows.coiMeansRow.shortTexts.isNone) = true := by kernel_rfl
theorem j26 : ((Rows.coiMeansRow.lifted == Try.prog.liftsFinal)) = true := by rw [show Rows.coiMeansRow.lifted = Rows.liftAsksRow.lifted by kernel_rfl]; exact factLifts
theorem j27 : ((Try.prog.make == some Rows.coiMeansRow.make)) = true := by rw [show Rows.coiMeansRow.make = Rows.liftAsksRow.make by kernel_rfl]; exact factMake
theorem j28 : ((Rows.coiMeansRow.kinds == (if Rows.coiMeansRow.domain.isEmpty then [] else Try.f4.params.toList.map fun t => match Try.prog.underlying t with | some (.int k) => some k | _ => none))) = true := by kernel_rfl
theorem j29 : ((Rows.coiMeansRow.pinned == Rows.coiMeansRow.pinnedBy)) = true := by kernel_rfl
theorem j30 : ((Rows.coiMeansRow.veiled == (Try.f4.params.toList ++ Rows.coiMeansSpec.plain.varTypes Try.prog ++ Try.f4.resultTypes.toList).any (Try.prog.veiledRec ·))) = true := by kernel_rfl
theorem j31 : (Rows.coiMeansRow.veiledFits Try.prog Try.f4.params.toList (Try.f4.params.toList ++ Rows.coiMeansSpec.plain.varTypes Try.prog ++ Try.f4.resultTypes.toList)) = true := by kernel_rfl
set_option maxRecDepth 100000 in
theorem closed : joinedFacts Try.checked.prog 4 Try.f4 Rows.coiMeansSpec Rows.coiMeansRow = true := by unfold joinedFacts; exact (band (band (band (band (band (band (band (band (band (band (band (band (band (band (band (band (band (band (band (band (band (band (band (band (band (band (band (band (band (band (band j0 factLaid) factMaps) j3) j4) j5) factStops) j7) factKnobs) j9) j10) j11) j12) j13) j14) j15) j16) j17) j18) j19) j20) j21) j22) j23) factHeard) factEnter) j26) j27) j28) j29) j30) j31)
theorem named : Try.checked.prog.funcNamed Rows.coiMeansRow.func = some 4 := by kernel_rfl
theorem over : Rows.coiMeansRow.holds Try.pinned (OpenSpec.ofChange Rows.coiMeansSpec) :=
 OpenClaim.holds_of_wide 4 Try.f4 rfl rfl rfl rfl rfl rfl rfl ⟨rfl, rfl, rfl, rfl, rfl⟩ rfl rfl rfl rfl rfl named Try.func4 closed
  (of_decide_eq_true (by kernel_rfl)) (by unfold Func.isWrapper; first | (rw [if_pos (by decide +kernel)]; kernel_rfl) | (rw [if_neg (by decide +kernel)]; exact ⟨rfl, rfl⟩))
  (fun os started H enc _ => lifted os started H enc)
theorem proved : Rows.CoiMeansSaid := over
end coiMeans
end Go.Proofs.Yteidpnpbfagaeaa
