/- Part 5 of what the claim CoiMeans needs: lemmas and contracts. No conditions. -/
import Derived.Test.YteidpnpbfagaeaaRows
import Derived.Lib.SmallJoins
import Derived.KernelRfl
import Derived.WalkKit
import Derived.ProofKit
import Derived.Deep.Quiet
import Derived.Deep.LoopGhost
import Derived.StillTail
import Derived.Test.YteidpnpbfagaeaaProg
import Derived.OpenShut
import Derived.ShutString
import Derived.ChangeOld
import Derived.Deep.Slices
import Derived.SizedLaws
import Derived.Laws.StructEq
import Derived.Laws.Externs
import Derived.MapKept
import Derived.Laws.CopyRow
import Derived.Laws.IdiomCopy
import Derived.Test.YteidpnpbfagaeaaCoiMeansP4
set_option linter.unusedVariables false
set_option linter.unusedSimpArgs false
set_option maxRecDepth 20000
set_option maxHeartbeats 32000000
namespace Go.Proofs.Yteidpnpbfagaeaa
open Go Go.Lt Go.RowKit

theorem once_of {c : CirT} (h : ¬ Twice c) (hown : ∀ x ∈ c.own, x % 2 = 0) : Once c.gates := by
 have hn : c.own.Nodup := nodup_take fun i x hx hm => h ⟨i, x, hx, hm⟩
 rw [List.nodup_append] at hn
 have hp := List.pairwise_iff_getElem.1 (List.nodup_iff_pairwise_ne.1 hn.2.1)
 intro i j x y hi hj he
 have h1 := hown x.1 (List.mem_append_right _ (List.mem_map.2 ⟨x, List.mem_of_getElem? hi, rfl⟩))
 have h2 := hown y.1 (List.mem_append_right _ (List.mem_map.2 ⟨y, List.mem_of_getElem? hj, rfl⟩))
 have ei : (c.gates.map (·.1))[i]? = some x.1 := by rw [List.getElem?_map, hi]; rfl
 have ej : (c.gates.map (·.1))[j]? = some y.1 := by rw [List.getElem?_map, hj]; rfl
 obtain ⟨li, gi⟩ := List.getElem?_eq_some_iff.1 ei
 obtain ⟨lj, gj⟩ := List.getElem?_eq_some_iff.1 ej
 refine Classical.byContradiction fun hne => ?_
 rcases Nat.lt_or_gt_of_ne hne with h3 | h3
 ·exact hp i j li lj h3 (by rw [gi, gj]; omega)
 ·exact hp j i lj li h3 (by rw [gi, gj]; omega)

abbrev netP (B g4 g5 : Nat) (an : Option Addr) (cn : Nat) (aa : Option Addr) (ca : Nat) (s : NA) : List Piece :=
 [pcell g4 #[.slice an s.1.length cn] 35, pcell g5 #[.slice aa s.2.length ca] 22, prow 2 encN 105 B an cn s.1, prow 1 encI 3 B aa ca s.2]
theorem circ_Net2 (w : World) (g5 : Nat) (aa : Option Addr) (ca : Nat) (A : List Int) (l z : Int) (hc : w.cell? ⟨g5, 0, none⟩ = some (.slice aa A.length ca)) (R : Row 1 encI w aa A) (h0 : 0 <= l) (hl9 : l <= 4294967296) (hz : A[(l / 2).toNat]? = some z) (hz0 : 0 <= z /\ z <= 4294967296) :
  Still Try.prog 109 [.int .i64 l, .pointer (some ⟨g5, 0, none⟩)] w (.int .i64 (litI A l)) := by
 have hlt := lGt hz
 have hl := R.len
 have e0 : litI A l = xorI z (l % 2) := litI_some hz
 refine Spec.of _ Try.func109 rfl Try.ntmps109 (by kernel_rfl) rfl ?_
 repeat' (first | (apply WL.andA; (iterate 4 exact rfl)) | (apply WL.xorI; (iterate 4 exact rfl); omega; omega) | (first | apply WL.nil | refine WL.au (k := ?_) | (apply WL.index tOk; (iterate 8 exact rfl); assumption; exact extA; exact rfl; omega; assumption; intro b off h; have hcc := h; first | (obtain ⟨h1, h2, h3, h4, h5, h6, _⟩ := h) | (obtain ⟨h1, h2, h3, _⟩ := h) | (obtain ⟨h1, h2, _⟩ := h) | (obtain ⟨h1, _⟩ := h))) | apply Z.tn | (first | apply W.seq | apply W.region | apply W.ret))
 exact Z.bd1 Try.results109 rfl fun m => ⟨by rw [e0], m, rfl⟩
theorem circ_Net1 (w0 w : World) (g4 g5 : Nat) (an : Option Addr) (cn : Nat) (aa : Option Addr) (ca : Nat) (s : NA) (rest : List Piece) (l : Int) (x : Int × Int) (hX : Ext w0 w) (hS : Lt.Sep w0.heap.size w (netP w0.heap.size g4 g5 an cn aa ca s ++ rest)) (hl : 0 <= l /\ (l / 2).toNat < s.2.length) (hl2 : l <= 4294967296) (hs : s.1.length <= 1000000) :
  Lt.Spec Try.prog 108 [.int .i64 l, .agg (encN x).toArray, .pointer (some ⟨g4, 0, none⟩), .pointer (some ⟨g5, 0, none⟩)] w (fun v w' => v = .tuple #[] /\ Ext w0 w' /\ ∃ an' cn', Lt.Sep w0.heap.size w' (netP w0.heap.size g4 g5 an' cn' aa ca (cput s l x) ++ rest)) := by
 obtain ⟨N, A⟩ := s
 dsimp only at hs hl
 have k0 := (cHp (hS.cell (i := 0) rfl)).1
 have k1 := (cHp (hS.cell (i := 1) rfl)).1
 have hg4 := (hS.lt (i := 0) rfl rfl).1
 have hN := hS.row (i := 2) rfl
 obtain ⟨zz, hzz⟩ := getI A hl.2
 refine Spec.of _ Try.func108 rfl Try.ntmps108 (by kernel_rfl) rfl ?_
 repeat' (first | (apply WL.box; (iterate 3 exact rfl); intro gb w1 hb hge hc hx1; have hcc := hc; obtain ⟨h1, h2, h3, _⟩ := hc; (have hcells := hcc; obtain ⟨y0, y1, _⟩ := hcc)) | (apply WL.lit tOk; (iterate 6 exact rfl); kernel_rfl; exact rfl; intro gb w2 hb hge hc hx2) | (apply WL.ap1 (z := (x)) tOk encN_ok; (iterate 10 exact rfl); assumption; exact extA; exact rfl; assumption; exact rfl; exact rfl; exact extA; ((simp; omega)); intro a' cap' w' hO hX' hU hF) | (first | apply WL.nil | refine WL.au (k := ?_)) | apply Z.tn | (first | apply W.seq | apply W.region))
 obtain ⟨w3, rfl⟩ : ∃ x, x = w' := ⟨_, rfl⟩; obtain ⟨an2, rfl⟩ : ∃ x, x = a' := ⟨_, rfl⟩; obtain ⟨cn2, rfl⟩ : ∃ x, x = cap' := ⟨_, rfl⟩
 have hS1 : Lt.Sep w0.heap.size w3 ([pcell g4 #[.slice an N.length cn] 35, pcell g5 #[.slice aa A.length ca] 22, prow 2 encN 105 w0.heap.size an2 cn2 (N ++ [x]), prow 1 encI 3 w0.heap.size aa ca A] ++ rest) := Sep.uRw (i := 2) rfl hU hO hF hS extA (Below.size extA)
 have hX3 : Ext w0 w3 := extA
 have hc4 := hS1.cell (i := 0) rfl
 repeat' (first | (apply WL.storeB (w0 := w0) tOk; (iterate 4 exact rfl); assumption; exact extA; (iterate 3 exact rfl); exact extA; assumption; intro w4 hb4 hc hX4 hU4; have hcc := hc; obtain ⟨h1, h2, _⟩ := hc; (have hS2 : Lt.Sep w0.heap.size w4 ([pcell g4 #[.slice an2 (N ++ [x]).length cn2] 35, pcell g5 #[.slice aa A.length ca] 22, prow 2 encN 105 w0.heap.size an2 cn2 (N ++ [x]), prow 1 encI 3 w0.heap.size aa ca A] ++ rest) := Sep.uCl (i := 0) rfl hU4 hb4 hS1 (Ext.refl _) (Below.size hX3); have p0 := (cHp (hS2.cell (i := 0) rfl)).1; have p1 := (cHp (hS2.cell (i := 1) rfl)).1; have hA4 := hS2.row (i := 3) rfl; have hnl : (N ++ [x]).length = N.length + 1 := by simp)) | (apply WL.indexO tOk; (iterate 8 exact rfl); assumption; exact extA; exact eIk; exact rfl; omega; assumption; intro gb ha hc; cases ha; have hcc := hc; first | (obtain ⟨h1, h2, h3, _⟩ := hc) | (obtain ⟨h1, h2, _⟩ := hc) | (obtain ⟨h1, _⟩ := hc)) | (apply WL.storeO (z' := (2 * ((N ++ [x]).length : Int))) tOk; (iterate 4 exact rfl); assumption; exact extA; (iterate 3 exact rfl); exact eIk; assumption; exact rfl; exact extA; intro w' hO hX' hU) | (first | apply WL.nil | refine WL.au (k := ?_)) | apply Z.tn | apply W.region)
 refine Z.body0n Try.results108 fun m => ⟨rfl, hX'.at m, an2, cn2, ?_⟩
 have hS3 := Sep.uRw (i := 3) rfl hU hO (.inl rfl) hS2 (Ext.refl _) (Below.size hX4)
 have e1 : cput (N, A) l x = (N ++ [x], A.set (l / 2).toNat (2 * ((N ++ [x]).length : Int))) := by unfold cput; rw [hnl]; rfl
 rw [e1]
 refine Sep.ext (w := w') ?_ ((Ext.refl _).at m)
 show Lt.Sep _ _ ([pcell g4 #[.slice an2 (N ++ [x]).length cn2] 35, pcell g5 #[.slice _ (A.set (l / 2).toNat (2 * ((N ++ [x]).length : Int))).length ca] 22, prow 2 encN 105 w0.heap.size an2 cn2 (N ++ [x]), prow 1 encI 3 w0.heap.size _ ca (A.set (l / 2).toNat (2 * ((N ++ [x]).length : Int)))] ++ rest)
 rw [List.length_set]
 exact hS3

structure AtK (m k : Nat) (A : List Int) : Prop where
 len : A.length = m + 1
 zero : A[0]? = some 0
 neg : ∀ u : Nat, 1 <= u -> u < k -> A[u]? = some (-1)
theorem AtK.all {m : Nat} {A : List Int} (h : AtK m (m + 1) A) : A = cAt0 (m : Int) := by
 apply List.ext_getElem?
 intro u
 have hr := PutOk.start m
 by_cases hu : u < m + 1
 ·cases u with
  | zero => rw [h.zero]; exact hr.zero.symm
  | succ u => rw [h.neg (u + 1) (by omega) hu]; exact (hr.not (u + 1) (by omega) (by omega) (fun l hl => by cases hl)).symm
 ·rw [List.getElem?_eq_none (by have := h.len; omega)]
  have h2 : (cAt0 (m : Int)).length = m + 1 := hr.len2
  exact (List.getElem?_eq_none (by omega)).symm
theorem Sep.perm4 {B : Nat} {w : World} {p q r s : Piece} (hS : Lt.Sep B w [p, q, r, s]) : Lt.Sep B w [r, p, s, q] := by
 refine hS.pick (fun i => match i with | 0 => 2 | 1 => 0 | 2 => 3 | _ => 1) (fun i x h => ?_) (fun i j hi hj hne => ?_)
 ·match i, h with
  | 0, h => exact h
  | 1, h => exact h
  | 2, h => exact h
  | 3, h => exact h
 ·have hi' : i < 4 := hi
  have hj' : j < 4 := hj
  match i, j, hi', hj', hne with
  | 0, 1, _, _, _ => decide
  | 0, 2, _, _, _ => decide
  | 0, 3, _, _, _ => decide
  | 1, 0, _, _, _ => decide
  | 1, 2, _, _, _ => decide
  | 1, 3, _, _, _ => decide
  | 2, 0, _, _, _ => decide
  | 2, 1, _, _, _ => decide
  | 2, 3, _, _, _ => decide
  | 3, 0, _, _, _ => decide
  | 3, 1, _, _, _ => decide
  | 3, 2, _, _, _ => decide
  | 0, 0, _, _, h => exact absurd rfl h
  | 1, 1, _, _, h => exact absurd rfl h
  | 2, 2, _, _, h => exact absurd rfl h
  | 3, 3, _, _, h => exact absurd rfl h
theorem circ_Net (c : Circ) (w : World) (hC : CAt w c) (hg : GoodC' c.t) (hz : SzC c.t 100000) :
  Lt.Spec Try.prog 53 [c.val] w (IsFresh2 2 encN 105 1 encI 3 w (cNet c.t).1 (cNet c.t).2) := by
 have z1 : c.ins.2.2.length <= 100000 := hz.1
 have z2 : c.lat.2.2.length <= 100000 := hz.2.1
 have z6 : c.gates.2.2.length <= 100000 := hz.2.2.2.2.2
 have hm : 0 <= c.max /\ c.max <= 16777216 := hg.max
 have hcm : c.t.max = c.max := rfl
 obtain ⟨m, hmm⟩ : ∃ m : Nat, c.max = (m : Int) := ⟨c.max.toNat, by omega⟩
 have hmt : c.max.toNat = m := by omega
 have hown : ∀ x ∈ c.t.own, 2 <= x /\ x % 2 = 0 /\ x <= 2 * c.max := hg.own
 have hused : ∀ x ∈ c.t.used, 0 <= x /\ x <= 2 * c.max + 1 := hg.used
 refine Spec.of _ Try.func53 rfl Try.ntmps53 (by kernel_rfl) rfl ?_
 repeat' (first | (apply WL.box; (iterate 3 exact rfl); intro gc wc hb hge hc hxc; have hcc := hc; obtain ⟨h1, h2, h3, _⟩ := hc; (have hcells := hcc; obtain ⟨y0, y1, y2, y3, y4, y5, y6, _⟩ := hcc; have hS : Lt.Sep wc.heap.size wc [prow 2 encN 105 wc.heap.size none 0 []] := Sep.newRow Sep.none' (Ext.refl _) Own.nil (fun k hk => by cases hk) (Nat.le_refl _))) | (apply WL.alloc tOk; (iterate 3 exact rfl); intro gb w' hb hge hx; replace hS := Sep.newCell (Sep.ext hS extA) hx hb hge (by (first | exact Nat.le_refl _ | exact Below.size extA)); (try simp only [List.set_cons_zero, List.set_cons_succ] at hS); (try have hR1 := hS.row (i := 1) rfl); (try have hR3 := hS.row (i := 3) rfl); (try have hC0 := hS.cell (i := 0) rfl); (try have hD0 := (cHp hC0).1); (try have hD1 := (cHp hC1).1); (try have hC2 := hS.cell (i := 2) rfl); (try have hD2 := (cHp hC2).1); (first | (have h_0 := g4; clear h_0) | (obtain ⟨g4, rfl⟩ : ∃ x, x = gb := ⟨_, rfl⟩))) | (apply WL.make (w0 := wc) (z := (0:Int)) tOk; (iterate 9 exact rfl); exact eIk; exact rfl; exact rfl; exact extA; omega; intro ga w' hO hge hx; replace hS := Sep.newRow (Sep.ext hS extA) hx hO (fun k hk => by cases hk; exact hge) (by (exact Below.size extA)); (try simp only [List.set_cons_zero, List.set_cons_succ] at hS); (try have hR0 := hS.row (i := 0) rfl); (try have hR2 := hS.row (i := 2) rfl); (try have hD0 := (cHp hC0).1); (try have hC1 := hS.cell (i := 1) rfl); (try have hD1 := (cHp hC1).1)) | (apply WL.storeB (w0 := wc) tOk; (iterate 4 exact rfl); assumption; exact extA; (iterate 3 exact rfl); exact extA; ((focus (apply Nat.le_trans; rotate_left; assumption; exact Below.size extA; done))); intro w' hb hc hX' hU; have hcc := hc; obtain ⟨h1, h2, _⟩ := hc; (replace hS := Sep.uCl (i := 0) rfl hU hb hS extA (by (exact Below.size extA))); (try simp only [List.set_cons_zero, List.set_cons_succ] at hS); (try have hR1 := hS.row (i := 1) rfl); (try have hR3 := hS.row (i := 3) rfl); (try have hC0 := hS.cell (i := 0) rfl); (try have hD0 := (cHp hC0).1); (try have hD1 := (cHp hC1).1); (try have hC2 := hS.cell (i := 2) rfl); (try have hD2 := (cHp hC2).1)) | (first | apply WL.nil | refine WL.au (k := ?_)) | apply Z.tn | (first | apply W.seq | apply W.region | apply W.block))
 obtain ⟨g5, rfl⟩ : ∃ x, x = gb := ⟨_, rfl⟩
 have e1 : (c.max + 1).toNat = m + 1 := by omega
 rw [e1, List.length_replicate] at hS
 have hS2 : Lt.Sep wc.heap.size w' (netP wc.heap.size g4 g5 none 0 (some ⟨ga, 0, none⟩) (m + 1) ([], List.replicate (m + 1) 0)) := by
  have := Sep.perm4 hS
  unfold netP
  rw [List.length_replicate]
  exact this
 have hA0 : AtK m 1 (List.replicate (m + 1) 0) := ⟨by simp, rfl, fun u h1 h2 => by omega⟩
 have hX1 : Ext wc w' := extA
 refine W.loopW (m + 1) (fun k w' => k <= m /\ Ext wc w' /\ ∃ A, AtK m (k + 1) A /\ Lt.Sep wc.heap.size w' (netP wc.heap.size g4 g5 none 0 (some ⟨ga, 0, none⟩) (m + 1) ([], A))) (fun k => [(1, .pointer (some ⟨gc, 0, none⟩)), (4, .pointer (some ⟨g4, 0, none⟩)), (5, .pointer (some ⟨g5, 0, none⟩)), (6, .int .i64 ((k : Int) + 1))]) ⟨Nat.zero_le _, hX1, _, hA0, hS2⟩ (fun k w' h => by have := h.1; omega) ⟨rfl, rfl, rfl, rfl, trivial⟩ ?_
 clear hS hS2 hA0 hX1
 rintro k w3 ⟨hk, hX3, A, hA, hS⟩
 have hlA := hA.len
 have hlA2 : (([], A) : NA).2.length = m + 1 := hA.len
 have k1 := (cHp (hS.cell (i := 1) rfl)).1
 have hAo := hS.row (i := 3) rfl
 by_cases hlt : k < m
 ·obtain ⟨yv, hyv⟩ := getI A (show ((k : Int) + 1).toNat < A.length by omega)
  repeat' (first | (first | apply WL.nil | refine WL.au (k := ?_)) | apply Z.tn | (first | apply W.seq | apply W.region))
  refine W.cKT rfl (dTt (by omega)) ?_
  repeat' (first | (apply WL.indexO tOk; (iterate 8 exact rfl); assumption; exact extA; exact eIk; exact rfl; omega; assumption; intro gb ha hc; cases ha; have hcc := hc; first | (obtain ⟨h1, h2, h3, _⟩ := hc) | (obtain ⟨h1, h2, _⟩ := hc) | (obtain ⟨h1, _⟩ := hc)) | (apply WL.storeO (z' := ((-1 : Int))) tOk; (iterate 4 exact rfl); assumption; exact extA; (iterate 3 exact rfl); exact eIk; assumption; exact rfl; exact extA; intro w' hO hX' hU) | (first | apply WL.nil | refine WL.au (k := ?_)) | (first | apply Z.tn | apply Z.bkn) | (first | apply W.seq | apply W.region | apply W.block | apply W.skip))
  have hS3 := Sep.uRw (i := 3) rfl hU hO (.inl rfl) hS (Ext.refl _) (Below.size hX3)
  refine Z.agW ⟨by omega, extA, A.set ((k : Int) + 1).toNat (-1), ⟨by simp [hlA], ?_, fun u h1 h2 => ?_⟩, ?_⟩ ⟨rfl, rfl, rfl, rfl, trivial⟩
  ·rw [List.getElem?_set_ne (by omega)]; exact hA.zero
  ·by_cases hu : u = k + 1
   ·subst hu; rw [show ((k : Int) + 1).toNat = k + 1 by omega, List.getElem?_set_self (by omega)]
   ·rw [List.getElem?_set_ne (by omega)]; exact hA.neg u h1 (by omega)
  ·unfold netP
   rw [List.length_set]
   exact hS3
 obtain rfl : k = m := by omega
 obtain rfl := hA.all
 repeat' (first | (first | apply WL.nil | refine WL.au (k := ?_)) | apply Z.tn | (first | apply W.seq | apply W.region))
 refine W.cKF rfl (dFf (by omega)) ?_
 repeat' (first | (first | apply WL.nil | refine WL.au (k := ?_)) | (first | apply Z.tn | apply Z.tnx | apply Z.bkx) | (first | apply W.seq | apply W.region | apply W.block | apply W.exit))
 have Ri := hC.ins.row.ext hxc
 have Rl := hC.lat.row.ext hxc
 have Rg := hC.gates.row.ext hxc
 have hown1 : ∀ x ∈ c.ins.2.2, 2 <= x /\ x % 2 = 0 /\ x <= 2 * c.max := fun x hx => hown x (List.mem_append_left _ (List.mem_append_left _ hx))
 have hown2 : ∀ x ∈ c.lat.2.2, 2 <= x.1 /\ x.1 % 2 = 0 /\ x.1 <= 2 * c.max := fun x hx => hown x.1 (List.mem_append_left _ (List.mem_append_right _ (List.mem_map.2 ⟨x, hx, rfl⟩)))
 have e10 : cS1 c.t 0 = ([], cAt0 (k : Int)) := by rw [cS1_0, hcm, hmm]
 refine W.loopW c.ins.2.2.length (fun j w' => j <= c.ins.2.2.length /\ Ext wc w' /\ ∃ an cn, Lt.Sep wc.heap.size w' (netP wc.heap.size g4 g5 an cn (some ⟨ga, 0, none⟩) (k + 1) (cS1 c.t j) ++ [])) (fun j => [(1, .pointer (some ⟨gc, 0, none⟩)), (4, .pointer (some ⟨g4, 0, none⟩)), (5, .pointer (some ⟨g5, 0, none⟩)), (7, .func (.func 108) #[] #[.pointer (some ⟨g4, 0, none⟩), .pointer (some ⟨g5, 0, none⟩)]), (31, rowVal c.ins), (32, .int .i64 (c.ins.2.2.length : Nat)), (33, .int .i64 j)]) ⟨Nat.zero_le _, hX3, none, 0, by rw [e10]; exact hS⟩ (fun k w' h => h.1) ⟨rfl, rfl, rfl, rfl, rfl, rfl, rfl, trivial⟩ ?_
 clear hS hAo k1 hX3 hlA hlA2 hA
 rintro j w4 ⟨hj, hX4, an, cn, hS⟩
 have hl1 : (cS1 c.t j).1.length = j /\ (cS1 c.t j).2.length = c.max.toNat + 1 := cS1_len c.t hj
 by_cases hlt : j < c.ins.2.2.length
 ·obtain ⟨x, hgx⟩ := getI c.ins.2.2 hlt
  have hxo := hown1 x (List.mem_of_getElem? hgx)
  have e1 := cS1_s (c := c.t) hgx
  have hcall := circ_Net1 wc w4 g4 g5 an cn (some ⟨ga, 0, none⟩) (k + 1) (cS1 c.t j) [] x (-1, 0) hX4 hS (by omega) (by omega) (by omega)
  repeat' (first | (first | apply WL.nil | refine WL.au (k := ?_)) | apply Z.tn | (first | apply W.seq | apply W.region))
  refine W.cKT rfl (dTt (by omega)) ?_
  repeat' (first | (apply WL.build tOk; (iterate 7 exact rfl); kernel_rfl) | (show WL _ _ _ (⟨_, .call ⟨.value (.tmp _), _, _⟩, _, _, _, _⟩ :: _) _ _ _; apply WL.call; (iterate 4 exact rfl); exact hcall; rintro v' w5 ⟨rfl, hX5, an2, cn2, hS5⟩) | (first | apply WL.nil | refine WL.au (k := ?_) | (apply WL.index tOk; (iterate 8 exact rfl); assumption; exact extA; exact rfl; omega; assumption; intro b off h; have hcc := h; first | (obtain ⟨h1, h2, h3, h4, h5, h6, _⟩ := h) | (obtain ⟨h1, h2, h3, _⟩ := h) | (obtain ⟨h1, h2, _⟩ := h) | (obtain ⟨h1, _⟩ := h))) | (first | apply Z.tn | apply Z.bkn) | (first | apply W.seq | apply W.region | apply W.block | apply W.skip))
  exact Z.agW ⟨by omega, hX5, an2, cn2, by rw [e1]; exact hS5⟩ ⟨rfl, rfl, rfl, rfl, rfl, rfl, rfl, trivial⟩
 obtain rfl : j = c.ins.2.2.length := by omega
 repeat' (first | (first | apply WL.nil | refine WL.au (k := ?_)) | apply Z.tn | (first | apply W.seq | apply W.region))
 refine W.cKF rfl (dFf (by omega)) ?_
 repeat' (first | (first | apply WL.nil | refine WL.au (k := ?_)) | (first | apply Z.tn | apply Z.tnx | apply Z.bkx) | (first | apply W.seq | apply W.region | apply W.block | apply W.exit))
 have e20 : cS2 c.t 0 = cS1 c.t c.ins.2.2.length := cS2_0 c.t
 refine W.loopW c.lat.2.2.length (fun j w' => j <= c.lat.2.2.length /\ Ext wc w' /\ ∃ an cn, Lt.Sep wc.heap.size w' (netP wc.heap.size g4 g5 an cn (some ⟨ga, 0, none⟩) (k + 1) (cS2 c.t j) ++ [])) (fun j => [(1, .pointer (some ⟨gc, 0, none⟩)), (4, .pointer (some ⟨g4, 0, none⟩)), (5, .pointer (some ⟨g5, 0, none⟩)), (7, .func (.func 108) #[] #[.pointer (some ⟨g4, 0, none⟩), .pointer (some ⟨g5, 0, none⟩)]), (43, rowVal c.lat), (44, .int .i64 (c.lat.2.2.length : Nat)), (45, .int .i64 j)]) ⟨Nat.zero_le _, hX4, an, cn, by rw [e20]; exact hS⟩ (fun k w' h => h.1) ⟨rfl, rfl, rfl, rfl, rfl, rfl, rfl, trivial⟩ ?_
 clear hS hX4 hl1 hj hlt
 rintro j w4 ⟨hj, hX4, an, cn, hS⟩
 have hl1 : (cS2 c.t j).1.length = c.ins.2.2.length + j /\ (cS2 c.t j).2.length = c.max.toNat + 1 := cS2_len c.t hj
 by_cases hlt : j < c.lat.2.2.length
 ·obtain ⟨x, hgx⟩ := getI c.lat.2.2 hlt
  have hxo := hown2 x (List.mem_of_getElem? hgx)
  have e1 := cS2_s (c := c.t) hgx
  have hcall := fun (w9 : World) (h9 : Ext w4 w9) => circ_Net1 wc w9 g4 g5 an cn (some ⟨ga, 0, none⟩) (k + 1) (cS2 c.t j) [] x.1 (-1, 0) (hX4.trans h9) (hS.ext h9) (by omega) (by omega) (by omega)
  repeat' (first | (first | apply WL.nil | refine WL.au (k := ?_)) | apply Z.tn | (first | apply W.seq | apply W.region))
  refine W.cKT rfl (dTt (by omega)) ?_
  repeat' (first | (apply WL.alloc tOk; (iterate 3 exact rfl); intro gb w' hb hge hx) | (apply WL.storeB (w0 := w4) tOk; (iterate 4 exact rfl); assumption; exact extA; (iterate 3 exact rfl); exact extA; assumption; intro w' hb hc hX' hU; have hcc := hc; obtain ⟨h1, h2, _⟩ := hc; (have hC8 := cHp hb; obtain ⟨i0, i1, i2, _⟩ := hC8)) | (apply WL.build tOk; (iterate 7 exact rfl); kernel_rfl) | (show WL _ _ _ (⟨_, .call ⟨.value (.tmp _), _, _⟩, _, _, _, _⟩ :: _) _ _ _; apply WL.call; (iterate 4 exact rfl); exact hcall _ extA; rintro v' w5 ⟨rfl, hX5, an2, cn2, hS5⟩) | (first | apply WL.nil | refine WL.au (k := ?_) | (apply WL.index tOk; (iterate 8 exact rfl); assumption; exact extA; exact rfl; omega; assumption; intro b off h; have hcc := h; first | (obtain ⟨h1, h2, h3, h4, h5, h6, _⟩ := h) | (obtain ⟨h1, h2, h3, _⟩ := h) | (obtain ⟨h1, h2, _⟩ := h) | (obtain ⟨h1, _⟩ := h))) | (first | apply Z.tn | apply Z.bkn) | (first | apply W.seq | apply W.region | apply W.block | apply W.skip))
  exact Z.agW ⟨by omega, hX5, an2, cn2, by rw [e1]; exact hS5⟩ ⟨rfl, rfl, rfl, rfl, rfl, rfl, rfl, trivial⟩
 obtain rfl : j = c.lat.2.2.length := by omega
 repeat' (first | (first | apply WL.nil | refine WL.au (k := ?_)) | apply Z.tn | (first | apply W.seq | apply W.region))
 refine W.cKF rfl (dFf (by omega)) ?_
 have hgm : ∀ g ∈ c.gates.2.2, g.1 ∈ c.t.own /\ g.2.1 ∈ c.t.used /\ g.2.2 ∈ c.t.used := fun g hg =>
  ⟨List.mem_append.2 (.inr (List.mem_map.2 ⟨g, hg, rfl⟩)), List.mem_append.2 (.inr (List.mem_flatMap.2 ⟨g, hg, by simp⟩)), List.mem_append.2 (.inr (List.mem_flatMap.2 ⟨g, hg, by simp⟩))⟩
 have hok : gsOk c.gates.2.2 := fun g hg => by
  obtain ⟨r1, r2, r3⟩ := hgm g hg
  have := hown _ r1
  have := hused _ r2
  have := hused _ r3
  omega
 have h7 : ¬ Twice c.t := fun ⟨i, x, a1, a2⟩ => by
  have h3 := List.pairwise_iff_getElem.1 (List.nodup_iff_pairwise_ne.1 hg.once)
  obtain ⟨j, hj, he⟩ := List.mem_take_iff_getElem.1 a2
  obtain ⟨hi, he2⟩ := List.getElem?_eq_some_iff.1 a1
  exact h3 j i (by omega) hi (by omega) (by rw [he, he2])
 have honce : Once c.gates.2.2 := once_of (c := c.t) h7 fun x hx => (hown x hx).2.1
 have hcells4 := hcells.ext hX4
 have x0 : Cells w4 gc 0 c.vals := hcells4
 repeat' (first | (apply WL.call (f := 110); (iterate 4 exact rfl); exact circ_Order c _ (Rg.ext extA) hok (by omega) honce; rintro v' wd ⟨hxd, ad, cd, rfl, hOd⟩) | (first | apply WL.nil | refine WL.au (k := ?_)) | (first | apply Z.tn | apply Z.tnx | apply Z.bkx) | (first | apply W.seq | apply W.region | apply W.block | apply W.exit))
 have hS0 : Lt.Sep wc.heap.size wd (netP wc.heap.size g4 g5 an cn (some ⟨ga, 0, none⟩) (k + 1) (cS2 c.t c.lat.2.2.length) ++ [prow 1 encI 3 wc.heap.size ad cd (natI (ordL c.gates.2.2))]) := by
  have h1 := hS.newRow' hxd hOd (Below.size hX4)
  rw [List.append_nil] at h1
  exact Sep.comm (ps := [prow 1 encI 3 wc.heap.size ad cd (natI (ordL c.gates.2.2))]) h1
 have hXd : Ext wc wd := extA
 have e30 : cS3 c.t 0 = cS2 c.t c.lat.2.2.length := cS3_0 c.t
 have hnl : (natI (ordL c.gates.2.2)).length = (ordL c.gates.2.2).length := by simp [natI]
 have hol : (ordL c.gates.2.2).length <= c.gates.2.2.length := (ordL_is c.gates.2.2).1.le
 refine W.loopW (ordL c.gates.2.2).length (fun j w' => j <= (ordL c.gates.2.2).length /\ Ext wc w' /\ ∃ an cn, Lt.Sep wc.heap.size w' (netP wc.heap.size g4 g5 an cn (some ⟨ga, 0, none⟩) (k + 1) (cS3 c.t j) ++ [prow 1 encI 3 wc.heap.size ad cd (natI (ordL c.gates.2.2))])) (fun j => [(1, .pointer (some ⟨gc, 0, none⟩)), (4, .pointer (some ⟨g4, 0, none⟩)), (5, .pointer (some ⟨g5, 0, none⟩)), (7, .func (.func 108) #[] #[.pointer (some ⟨g4, 0, none⟩), .pointer (some ⟨g5, 0, none⟩)]), (12, .func (.func 109) #[] #[.pointer (some ⟨g5, 0, none⟩)]), (57, .slice ad (natI (ordL c.gates.2.2)).length cd), (58, .int .i64 (natI (ordL c.gates.2.2)).length), (59, .int .i64 j)]) ⟨Nat.zero_le _, hXd, an, cn, by rw [e30]; exact hS0⟩ (fun k w' h => h.1) ⟨rfl, rfl, rfl, rfl, rfl, rfl, rfl, rfl, trivial⟩ ?_
 clear hS hS0 hX4 hl1 hj hlt hcells4 x0 hXd
 rintro j w4 ⟨hj, hX4, an, cn, hS⟩
 have hl1 : (cS3 c.t j).1.length = c.ins.2.2.length + c.lat.2.2.length + j /\ (cS3 c.t j).2.length = c.max.toNat + 1 := cS3_len c.t hj
 by_cases hlt : j < (ordL c.gates.2.2).length
 ·obtain ⟨i, hi⟩ := getI (ordL c.gates.2.2) hlt
  obtain ⟨g, za, zb, hgg, hza, hzb, ka, kb⟩ := cS3_get hg (c := c.t) hi
  have hgg : c.gates.2.2[i]? = some g := hgg
  have hgi : c.gates.2.2[((i : Nat) : Int).toNat]? = some g := by rw [Int.toNat_natCast]; exact hgg
  have hgo := hok g (List.mem_of_getElem? hgg)
  have hgw := hown g.1 (hgm g (List.mem_of_getElem? hgg)).1
  have hgl := lGt hgg
  have hni : (natI (ordL c.gates.2.2))[((j : Nat) : Int).toNat]? = some (i : Int) := by rw [Int.toNat_natCast, natI, List.getElem?_map, hi]; rfl
  have e1 : cS3 c.t (j + 1) = cput (cS3 c.t j) g.1 (litI (cS3 c.t j).2 g.2.1, litI (cS3 c.t j).2 g.2.2) := by rw [cS3_s (c := c.t) hi]; unfold cGate; rw [gAt_of hgg]
  have k1 := (cHp (hS.cell (i := 1) rfl)).1
  have RA := (hS.row (i := 3) rfl).row eIk
  have RO := (hS.row (i := 4) rfl).row eIk
  have hcall := fun (w9 : World) (h9 : Ext w4 w9) => circ_Net1 wc w9 g4 g5 an cn (some ⟨ga, 0, none⟩) (k + 1) (cS3 c.t j) [prow 1 encI 3 wc.heap.size ad cd (natI (ordL c.gates.2.2))] g.1 (litI (cS3 c.t j).2 g.2.1, litI (cS3 c.t j).2 g.2.2) (hX4.trans h9) (hS.ext h9) (by omega) (by omega) (by omega)
  repeat' (first | (first | apply WL.nil | refine WL.au (k := ?_)) | apply Z.tn | (first | apply W.seq | apply W.region))
  refine W.cKT rfl (dTt (by omega)) ?_
  repeat' (first | (apply WL.alloc tOk; (iterate 3 exact rfl); intro gb w' hb hge hx) | (apply WL.storeB (w0 := w4) tOk; (iterate 4 exact rfl); assumption; exact extA; (iterate 3 exact rfl); exact extA; assumption; intro w6 hb hc hX6 hU; have hcc := hc; obtain ⟨h1, h2, _⟩ := hc; (have hC8 := cHp hb; obtain ⟨i0, i1, i2, _⟩ := hC8)) | (first | apply WL.nil | refine WL.au (k := ?_) | (apply WL.index tOk; (iterate 8 exact rfl); assumption; exact extA; exact rfl; omega; assumption; intro b off h; have hcc := h; first | (obtain ⟨h1, h2, h3, h4, h5, h6, _⟩ := h) | (obtain ⟨h1, h2, h3, _⟩ := h) | (obtain ⟨h1, h2, _⟩ := h) | (obtain ⟨h1, _⟩ := h))) | apply Z.tn | (first | apply W.seq | apply W.region | apply W.block | apply W.skip))
  have k1' := hX6.cell k1
  have RA' := RA.ext hX6
  repeat' (first | (apply W.regionQS 12 tMix; kernel_rfl; exact rfl; kernel_rfl; kernel_rfl) | (apply QL.build tOk; (iterate 7 exact rfl); kernel_rfl) | ((show QL _ _ _ _ (⟨_, .call ⟨.value (.tmp _), _, _⟩, _, _, _, _⟩ :: _) _ _); apply QL.callS; (iterate 4 exact rfl); exact circ_Net2 _ g5 _ _ (cS3 c.t j).2 g.2.1 za k1' RA' (by omega) (by omega) hza (by omega)) | ((show QL _ _ _ _ (⟨_, .call ⟨.value (.tmp _), _, _⟩, _, _, _, _⟩ :: _) _ _); apply QL.callS; (iterate 4 exact rfl); exact circ_Net2 _ g5 _ _ (cS3 c.t j).2 g.2.2 zb k1' RA' (by omega) (by omega) hzb (by omega)) | (show WL _ _ _ (⟨_, .call ⟨.value (.tmp _), _, _⟩, _, _, _, _⟩ :: _) _ _ _; apply WL.call; (iterate 4 exact rfl); exact hcall _ extA; rintro v' w5 ⟨rfl, hX5, an2, cn2, hS5⟩) | (first | apply WL.nil | refine WL.au (k := ?_)) | (first | apply QL.nil | refine QL.au (k := ?_)) | (first | apply Z.tail | apply Z.tn | apply Z.bkn) | apply W.region)
  exact Z.agW ⟨by omega, hX5, an2, cn2, by rw [e1]; exact hS5⟩ ⟨rfl, rfl, rfl, rfl, rfl, rfl, rfl, rfl, trivial⟩
 obtain rfl : j = (ordL c.gates.2.2).length := by omega
 repeat' (first | (first | apply WL.nil | refine WL.au (k := ?_)) | apply Z.tn | (first | apply W.seq | apply W.region))
 refine W.cKF rfl (dFf (by omega)) ?_
 have e39 : cS3 c.t (ordL c.gates.2.2).length = cNet c.t := cS3_all c.t
 rw [e39] at hS
 have k0 := (cHp (hS.cell (i := 0) rfl)).1
 have k1 := (cHp (hS.cell (i := 1) rfl)).1
 have hwc := Below.size hxc
 repeat' (first | (first | apply QL.nil | refine QL.au (k := ?_)) | (first | apply Z.tn | apply Z.tnx | apply Z.bkx) | (first | apply W.seq | apply W.ret | apply W.exit | (apply W.rgD tMix; kernel_rfl)))
 exact Z.body2 Try.results53 rfl rfl fun q => ⟨Ext.at extA q, an, cn, some ⟨ga, 0, none⟩, k + 1, rfl, ((hS.row (i := 2) rfl).base hwc).ext ((Ext.refl _).at q), ((hS.row (i := 3) rfl).base hwc).ext ((Ext.refl _).at q)⟩

theorem own_keepC {α : Type} {t : Nat} {enc : α -> List Value} {el : TypeId} {B B' g cap : Nat} {a : Option Addr} {l : List α} {w w' : World} (ho : Own t enc el B' w a cap l) (hU : Upd B (some ⟨g, 0, none⟩) w w') (hg : g < B') : Own t enc el B' w' a cap l := by
 refine hU.own ho ?_
 cases h : blk a with
 | none => exact .inl rfl
 | some k =>
  right
  intro e
  have h1 := ho.blk_lt k h
  have h2 : k = g := Option.some.inj e
  omega
noncomputable abbrev viewV (c : Circ) (aN : Option Addr) (cN : Nat) (aA : Option Addr) (cA : Nat) : List Value :=
 [.int .i64 c.max, rowVal c.ins, rowVal c.lat, rowVal c.outs, rowVal c.bads, rowVal c.cons, rowVal c.gates, rowVal c.syms, .string c.com,
  .slice aN (cNet c.t).1.length cN, .slice aA (cNet c.t).2.length cA]
theorem coi_of (c : Circ) (w : World) (hC : CAt w c) (hg : GoodC' c.t) (hz : SzC c.t 100000) :
  Lt.Spec Try.prog 84 [c.val] w (fun v w' => Ext w w' /\ ∃ aN cN aA cA, v = .agg (viewV c aN cN aA cA).toArray /\ Own 2 encN 105 w.heap.size w' aN cN (cNet c.t).1 /\ Own 1 encI 3 w.heap.size w' aA cA (cNet c.t).2) := by
 refine Spec.of _ Try.func84 rfl Try.ntmps84 (by kernel_rfl) rfl ?_
 repeat' (first | (apply WL.box; (iterate 3 exact rfl); intro gc wc hb hge hc hxc; have hcc := hc; obtain ⟨h1, h2, h3, _⟩ := hc; (have hcells := hcc)) | (apply WL.alloc tOk; (iterate 3 exact rfl); intro g2 w2 hb2 hge2 hx2) | (apply WL.call (f := 53); (iterate 4 exact rfl); exact circ_Net c _ (hC.ext extA) hg hz; rintro v' w5 ⟨hx5, aN, cN, aA, cA, rfl, hON, hOA⟩; have hb5 := hx5.heap hb2) | (apply WL.build tOk; (iterate 7 exact rfl); kernel_rfl) | (show WL _ _ _ (⟨none, .store _ _ _, _, _, _, _⟩ :: _) _ _ _; apply WL.storeB (w0 := w) tOk; (iterate 4 exact rfl); exact hb5; exact extA; kernel_rfl; kernel_rfl; kernel_rfl; exact extA; exact Nat.le_trans (Below.size extA) hge2; intro w6 hb6 hc6 hX6 hU6) | (first | apply WL.nil | refine WL.au (k := ?_)) | apply Z.tn | (first | apply W.seq | apply W.region | apply W.ret))
 have hc7 : Cells w6 g2 0 (viewV c aN cN aA cA) := hc6
 have hlt2 : g2 < w2.heap.size := heap_lt hb2
 have hB2 : w.heap.size <= w2.heap.size := Below.size (hxc.trans hx2)
 have hN6 := (own_keepC hON hU6 hlt2).base hB2
 have hA6 := (own_keepC hOA hU6 hlt2).base hB2
 exact Z.bodyC tOk Try.results84 rfl rfl rfl rfl hc7 fun m => ⟨hX6.at m, aN, cN, aA, cA, rfl, hN6.ext ((Ext.refl _).at m), hA6.ext ((Ext.refl _).at m)⟩
theorem coi_lit (c : Circ) (aN aA : Option Addr) (cN cA : Nat) (hg : GoodC' c.t) (hz : SzC c.t 100000) (l : Int) (hl : KnL c.t l) (w : World) (RA : Row 1 encI w aA (cNet c.t).2) :
  Pure Try.prog 87 [.agg (viewV c aN cN aA cA).toArray, .int .i64 l] w (.int .i64 (cl c.t l)) := by
 obtain ⟨z, z1, z2, z3, z4⟩ := knL_lit hg hl
 have hm := knL_max hg hl
 have h0 := hl.1
 have hmx := hg.max
 have hlt := lGt z1
 have hRl := RA.len
 have e0 : cl c.t l = xorI z (l % 2) := litI_some z1
 have hnl := net_len hg hz
 rw [e0]
 refine Spec.of _ Try.func87 rfl Try.ntmps87 (by kernel_rfl) rfl ?_
 repeat' (first | (apply WL.box; (iterate 3 exact rfl); intro gb w' hb hge hc hx; have hcc := hc; obtain ⟨h1, h2, h3, _⟩ := hc; (obtain ⟨y0, y1, y2, y3, y4, y5, y6, y7, y8, y9, y10, _⟩ := hcc)) | (apply WL.andA; (iterate 4 exact rfl)) | (apply WL.xorI; (iterate 4 exact rfl); omega; omega) | (first | apply WL.nil | refine WL.au (k := ?_) | (apply WL.index tOk; (iterate 8 exact rfl); assumption; exact extA; exact rfl; omega; assumption; intro b off h; have hcc := h; first | (obtain ⟨h1, h2, h3, h4, h5, h6, _⟩ := h) | (obtain ⟨h1, h2, h3, _⟩ := h) | (obtain ⟨h1, h2, _⟩ := h) | (obtain ⟨h1, _⟩ := h))) | apply Z.tn | (first | apply W.seq | apply W.region | apply W.ret))
 exact Z.bd1 Try.results87 rfl fun m => ⟨rfl, Ext.at extA m⟩
theorem coi_bad (c : Circ) (prop : Int) (w : World) (hC : CAt w c) : Pure Try.prog 76 [c.val, .int .i64 prop] w (.int .i64 (badL c.t prop)) := by
 have RB := hC.bads.row
 by_cases h0 : prop < 0
 ·have e : badL c.t prop = 0 := by unfold badL; rw [if_neg (fun h => by omega)]
  rw [e]
  refine Spec.of _ Try.func76 rfl Try.ntmps76 (by kernel_rfl) rfl ?_
  repeat' (first | (apply WL.box; (iterate 3 exact rfl); intro gb w' hb hge hc hx; have hcc := hc; obtain ⟨h1, h2, h3, _⟩ := hc) | (apply WL.gT; exact rfl; exact rfl; (focus (exact dTt (by omega)))) | (first | apply WL.nil | refine WL.au (k := ?_) | (apply WL.gdF; exact rfl; exact rfl)) | (first | apply Z.tn | apply Z.tnr) | (first | apply W.seq | apply W.region | apply W.ret | (apply W.condT; exact rfl)))
  exact Z.bd1 Try.results76 rfl fun m => ⟨rfl, Ext.at extA m⟩
 ·by_cases h1 : prop < (c.bads.2.2.length : Int)
  ·obtain ⟨z, hz⟩ := getI c.bads.2.2 (show prop.toNat < _ by omega)
   have e : badL c.t prop = z := by
    unfold badL
    rw [if_pos (show 0 <= prop /\ prop < (c.t.bads.length : Int) from ⟨by omega, h1⟩)]
    exact gDo hz
   rw [e]
   refine Spec.of _ Try.func76 rfl Try.ntmps76 (by kernel_rfl) rfl ?_
   repeat' (first | (apply WL.box; (iterate 3 exact rfl); intro gb w' hb hge hc hx; have hcc := hc; obtain ⟨h1, h2, h3, _⟩ := hc; (obtain ⟨y0, y1, y2, y3, y4, _⟩ := hcc)) | (apply WL.gF; exact rfl; exact rfl; exact dFf (by omega)) | (apply W.cKF; exact rfl; exact dFf (by omega)) | (first | apply WL.nil | refine WL.au (k := ?_) | (apply WL.index tOk; (iterate 8 exact rfl); assumption; exact extA; exact rfl; omega; assumption; intro b off h; have hcc := h; first | (obtain ⟨h1, h2, h3, h4, h5, h6, _⟩ := h) | (obtain ⟨h1, h2, h3, _⟩ := h) | (obtain ⟨h1, h2, _⟩ := h) | (obtain ⟨h1, _⟩ := h))) | apply Z.tn | (first | apply W.seq | apply W.region | apply W.skip | apply W.ret))
   exact Z.bd1 Try.results76 rfl fun m => ⟨rfl, Ext.at extA m⟩
  ·have e : badL c.t prop = 0 := by unfold badL; rw [if_neg (fun h => h1 h.2)]
   rw [e]
   refine Spec.of _ Try.func76 rfl Try.ntmps76 (by kernel_rfl) rfl ?_
   repeat' (first | (apply WL.box; (iterate 3 exact rfl); intro gb w' hb hge hc hx; have hcc := hc; obtain ⟨h1, h2, h3, _⟩ := hc; (obtain ⟨y0, y1, y2, y3, y4, _⟩ := hcc)) | (apply WL.gF; exact rfl; exact rfl; exact dFf (by omega)) | (apply W.cKT; exact rfl; (focus (exact dTt (by omega)))) | (first | apply WL.nil | refine WL.au (k := ?_)) | (first | apply Z.tn | apply Z.tnr) | (first | apply W.seq | apply W.region | apply W.ret))
   exact Z.bd1 Try.results76 rfl fun m => ⟨rfl, Ext.at extA m⟩
def upF (m k : Nat) : List Int := tab m (fun u => if u < k then (u : Int) else 0)
theorem upF_set (m k : Nat) : (upF m k).set k (k : Int) = upF m (k + 1) := by
 unfold upF
 refine tab_set fun u _ => ?_
 by_cases h : u = k
 ·subst h; rw [if_pos rfl, if_pos (by omega)]
 ·rw [if_neg h]
  by_cases h1 : u < k
  ·rw [if_pos h1, if_pos (by omega)]
  ·rw [if_neg h1, if_neg (by omega)]
theorem upF_all (m : Nat) : upF m m = allI m := tab_congr fun _ hu => if_pos hu
theorem coi_upTo (m : Nat) (w : World) (hm : m <= 100000) : Lt.Spec Try.prog 123 [.int .i64 m] w (IsFresh 1 encI 3 w (allI m)) := by
 refine Spec.of _ Try.func123 rfl Try.ntmps123 (by kernel_rfl) rfl ?_
 repeat' (first | (apply WL.makeC (w0 := w) (z := (0:Int)) tOk; (iterate 9 exact rfl); exact eIk; exact rfl; exact rfl; exact extA; omega; intro gl w8 hOL hgeL hxL) | (first | apply WL.nil | refine WL.au (k := ?_)) | apply Z.tn | (first | apply W.seq | apply W.region | apply W.block))
 have en : ((m : Int)).toNat = m := Int.toNat_natCast _
 have e0 : List.replicate m (0 : Int) = upF m 0 := by rw [tab_rep]; exact tab_congr fun u hu => (if_neg (by omega)).symm
 have e0l : (List.replicate m (0 : Int)).length = m := List.length_replicate
 rw [en] at hOL ⊢
 rw [e0] at hOL
 refine W.loopW m (fun k w' => k <= m /\ Ext w w' /\ Own 1 encI 3 w.heap.size w' (some ⟨gl, 0, none⟩) m (upF m k))
  (fun k => [(3, .slice (some ⟨gl, 0, none⟩) m m), (8, .int .i64 (m : Nat)), (9, .int .i64 k)]) ⟨by omega, hxL, hOL⟩ (fun k w' h => h.1) (by repeat' first | exact trivial | (refine And.intro ?_ ?_) | exact rfl | (rw [e0l]; exact rfl)) ?_
 clear hOL
 rintro k w1 ⟨hk, hX1, hO1⟩
 have hfl : (upF m k).length = m := tab_len _ _
 by_cases hlt : k < m
 ·obtain ⟨z, hz⟩ := getI (upF m k) (show k < _ by omega)
  have hO := hO1
  repeat' (first | (apply W.cKT; exact rfl; exact dTt (by omega)) | (apply WL.indexO tOk; (iterate 8 exact rfl); assumption; exact extA; exact eIk; ((focus (simp [*]; done))); omega; assumption; intro gb ha hc; cases ha; have hcc := hc; first | (obtain ⟨h1, h2, h3, _⟩ := hc) | (obtain ⟨h1, h2, _⟩ := hc) | (obtain ⟨h1, _⟩ := hc)) | (apply WL.storeO tOk; (iterate 4 exact rfl); assumption; exact extA; (iterate 3 exact rfl); exact eIk; assumption; exact rfl; exact extA; intro w' hO hX' hU) | (first | apply WL.nil | refine WL.au (k := ?_)) | (first | apply Z.tn | apply Z.bkn) | (first | apply W.seq | apply W.region | apply W.block | apply W.skip))
  rw [Int.toNat_natCast, upF_set] at hO
  exact Z.agW ⟨by omega, extA, hO⟩ (by repeat' first | exact trivial | (refine And.intro ?_ ?_) | exact rfl)
 obtain rfl : k = m := by omega
 repeat' (first | (apply W.cKF; exact rfl; exact dFf (by omega)) | (first | apply WL.nil | refine WL.au (k := ?_)) | (first | apply Z.tn | apply Z.tnx | apply Z.bkx) | (first | apply W.seq | apply W.region | apply W.ret | apply W.exit))
 rw [upF_all] at hO1
 exact Z.bd1 Try.results123 rfl fun q => ⟨hX1.at q, _, _, by rw [allI_len], hO1.ext ((Ext.refl _).at q)⟩

def preT (m : Nat) (f g : Nat -> Int) (k : Nat) : List Int := tab m (fun u => if u < k then f u else g u)
theorem preT_len (m : Nat) (f g : Nat -> Int) (k : Nat) : (preT m f g k).length = m := tab_len _ _
theorem preT_set {m : Nat} {f g : Nat -> Int} {k : Nat} {y : Int} (h : y = f k) : (preT m f g k).set k y = preT m f g (k + 1) := by
 unfold preT
 refine tab_set fun u _ => ?_
 by_cases e : u = k
 ·subst e; rw [if_pos rfl, if_pos (by omega), h]
 ·rw [if_neg e]
  by_cases h1 : u < k
  ·rw [if_pos h1, if_pos (by omega)]
  ·rw [if_neg h1, if_neg (by omega)]
theorem preT_same {m : Nat} {f g : Nat -> Int} {k : Nat} (h : f k = g k) : preT m f g (k + 1) = preT m f g k := by
 unfold preT
 refine tab_congr fun u _ => ?_
 by_cases e : u = k
 ·subst e; rw [if_pos (by omega), if_neg (by omega), h]
 ·by_cases h1 : u < k
  ·rw [if_pos h1, if_pos (by omega)]
  ·rw [if_neg h1, if_neg (by omega)]
theorem preT_all {m : Nat} {f g : Nat -> Int} {l : List Int} (hl : l.length = m) (h : ∀ u x, l[u]? = some x -> f u = x) : preT m f g m = l := by
 symm
 refine tab_eq hl fun u x hx => ?_
 have hu := lGt hx
 rw [if_pos (by omega)]; exact h u x hx
theorem preT_zero {m : Nat} {f g : Nat -> Int} {l : List Int} (hl : l.length = m) (h : ∀ u x, l[u]? = some x -> g u = x) : preT m f g 0 = l := by
 symm
 refine tab_eq hl fun u x hx => ?_
 rw [if_neg (by omega)]; exact h u x hx
theorem rep_get {m u : Nat} {y x : Int} (h : (List.replicate m y)[u]? = some x) : y = x := by
 rw [List.getElem?_replicate] at h
 split at h
 ·exact Option.some.inj h
 ·cases h
theorem coi_Stuck (c : Circ) (w : World) (hC : CAt w c) (hg : GoodC' c.t) (hz : SzC c.t 100000) :
  Lt.Spec Try.prog 29 [c.val] w (IsFresh 1 encI 3 w (skV c.t)) := by
 have z1 : c.ins.2.2.length <= 100000 := hz.1
 have z2 : c.lat.2.2.length <= 100000 := hz.2.1
 have hnl := net_len hg hz
 refine Spec.of _ Try.func29 rfl Try.ntmps29 (by kernel_rfl) rfl ?_
 repeat' (first | (apply WL.box; (iterate 3 exact rfl); intro gc wc hb hge hc hxc; have hcc := hc; obtain ⟨h1, h2, h3, _⟩ := hc; (have hcells := hcc)) | (apply WL.call (f := 84); (iterate 4 exact rfl); exact coi_of c _ (hC.ext extA) hg hz; rintro v' w2 ⟨hx2, aN, cN, aA, cA, rfl, hON, hOA⟩) | (apply WL.alloc tOk; (iterate 3 exact rfl); intro g3 w3 hb3 hge3 hx3) | (show WL _ _ _ (⟨none, .store _ _ _, _, _, _, _⟩ :: _) _ _ _; apply WL.storeB (w0 := w2) tOk; (iterate 4 exact rfl); exact hb3; exact Ext.refl _; kernel_rfl; kernel_rfl; kernel_rfl; exact hx3; exact hge3; intro w4 hb4 hc4 hX4 hU4; obtain ⟨y0, y1, y2, y3, y4, y5, y6, y7, y8, _⟩ := Cells.ext (hx2.trans hX4) hcells) | (apply WL.makeC (w0 := w4) (z := (0:Int)) tOk; (iterate 9 exact rfl); exact eIk; exact rfl; exact rfl; exact extA; omega; intro gl w5 hOL hgeL hxL) | (first | apply WL.nil | refine WL.au (k := ?_)) | apply Z.tn | (first | apply W.seq | apply W.region | apply W.block))
 have hV4 : Cells w4 g3 0 (viewV c aN cN aA cA) := hc4
 have hX24 : Ext w2 w4 := hX4
 have hXw4 : Ext w w4 := (hxc.trans hx2).trans hX24
 have hc44 : Cells w4 gc 0 c.vals := Cells.ext (hx2.trans hX24) hcells
 have RN4 := (hON.row encN_ok).ext hX24
 have RA4 := (hOA.row eIk).ext hX24
 have hC4 := hC.ext hXw4
 have en : ((c.lat.2.2.length : Nat) : Int).toNat = c.lat.2.2.length := Int.toNat_natCast _
 have e0l : (List.replicate c.lat.2.2.length (0 : Int)).length = c.lat.2.2.length := List.length_replicate
 obtain ⟨f, hf⟩ : ∃ f : Nat -> Int, f = fun u => (stk0 c.t).getD u 0 := ⟨_, rfl⟩
 have e0 : preT c.lat.2.2.length f (fun _ => 0) 0 = List.replicate c.lat.2.2.length (0 : Int) := preT_zero e0l fun u x hx => rep_get hx
 rw [en] at hOL ⊢
 have hS0 := Sep.newRow Sep.none' hxL (hOL.base (Nat.le_refl _)) (fun k hk => by cases hk; exact hgeL) (Nat.le_refl _)
 rw [<- e0] at hS0
 refine W.loopW c.lat.2.2.length (fun k w' => k <= c.lat.2.2.length /\ Ext w4 w' /\ Lt.Sep w4.heap.size w' [prow 1 encI 3 w4.heap.size (some ⟨gl, 0, none⟩) c.lat.2.2.length (preT c.lat.2.2.length f (fun _ => 0) k)])
  (fun k => [(1, .pointer (some ⟨gc, 0, none⟩)), (3, .pointer (some ⟨g3, 0, none⟩)), (4, .slice (some ⟨gl, 0, none⟩) c.lat.2.2.length c.lat.2.2.length), (21, rowVal c.lat), (22, .int .i64 c.lat.2.2.length), (23, .int .i64 k)]) ⟨Nat.zero_le _, hxL, hS0⟩ (fun k w' h => h.1) (by repeat' first | exact trivial | (refine And.intro ?_ ?_) | exact rfl | (rw [e0l]; exact rfl)) ?_
 clear hS0 hOL hb3 hb4 hc4 hU4
 rintro k w9 ⟨hk, hX9, hS⟩
 have hpl := preT_len c.lat.2.2.length f (fun _ => 0) k
 by_cases hlt : k < c.lat.2.2.length
 ·obtain ⟨t, ht⟩ := getI c.lat.2.2 hlt
  have RL := (hC4.ext hX9).lat.row
  have hgl9 : gl < w9.heap.size := (hS.lt (i := 0) rfl rfl).2
  obtain ⟨y, hy⟩ := getI (preT c.lat.2.2.length f (fun _ => 0) k) (show k < _ by omega)
  (try simp only [List.set_cons_zero, List.set_cons_succ] at hS); (try have hR0 := hS.row (i := 0) rfl)
  repeat' (first | (apply W.cKT; exact rfl; exact dTt (by omega)) | (apply WL.min; (iterate 4 exact rfl)) | (apply WL.alloc tOk; (iterate 3 exact rfl); intro gb w' hb hge hx) | (apply WL.storeB (w0 := w4) tOk; (iterate 4 exact rfl); assumption; exact extA; (iterate 3 exact rfl); exact extA; omega; intro w' hb hc hX' hU; have hcc := hc; obtain ⟨h1, h2, _⟩ := hc; (replace hS := Sep.updNew hS extA hU (by first | assumption | omega)); (try simp only [List.set_cons_zero, List.set_cons_succ] at hS); (try have hR0 := hS.row (i := 0) rfl); (obtain ⟨e1', e2', e3', _⟩ := hcc; have hb10 := hb; have hne10 : gb ≠ gl := by omega)) | (apply WL.indexO tOk; (iterate 8 exact rfl); assumption; exact extA; exact eIk; omega; omega; assumption; intro gb ha hc; cases ha; have hcc := hc; first | (obtain ⟨h1, h2, h3, _⟩ := hc) | (obtain ⟨h1, h2, _⟩ := hc) | (obtain ⟨h1, _⟩ := hc)) | (apply WL.storeO tOk; (iterate 4 exact rfl); assumption; exact extA; (iterate 3 exact rfl); exact eIk; assumption; exact rfl; exact extA; intro w' hO hX' hU; (replace hS := Sep.uRw (i := 0) rfl hU hO (.inl rfl) hS extA (by (exact Below.size extA))); (try simp only [List.set_cons_zero, List.set_cons_succ] at hS); (try have hR0 := hS.row (i := 0) rfl)) | (first | apply WL.nil | refine WL.au (k := ?_) | (apply WL.index tOk; (iterate 8 exact rfl); assumption; exact extA; exact rfl; omega; assumption; intro b off h; have hcc := h; first | (obtain ⟨h1, h2, h3, h4, h5, h6, _⟩ := h) | (obtain ⟨h1, h2, h3, _⟩ := h) | (obtain ⟨h1, h2, _⟩ := h) | (obtain ⟨h1, _⟩ := h))) | (first | apply Z.tn | apply Z.bkn) | (first | apply W.seq | apply W.region | apply W.block | apply W.skip))
  have hfk : min t.2.2 2 = f k := by rw [hf]; exact (stk0_get ht).symm
  rw [Int.toNat_natCast, preT_set hfk] at hS
  exact Z.agW ⟨by omega, by assumption, hS⟩ (by repeat' first | exact trivial | (refine And.intro ?_ ?_) | exact rfl)
 obtain rfl : k = c.lat.2.2.length := by omega
 have e1 : preT c.lat.2.2.length f (fun _ => 0) c.lat.2.2.length = stkI c.t 0 := preT_all (stkI_len (c := c.t) 0) fun u x hx => by rw [hf]; exact gDo hx
 rw [e1] at hS
 have hsl : (stkI c.t 0).length = c.lat.2.2.length := stkI_len 0
 repeat' (first | (apply W.cKF; exact rfl; exact dFf (by omega)) | (first | apply WL.nil | refine WL.au (k := ?_)) | (first | apply Z.tn | apply Z.tnx | apply Z.bkx) | (first | apply W.seq | apply W.region | apply W.block | apply W.exit))
 refine W.loopO c.lat.2.2.length (fun k b cp w' => k <= c.lat.2.2.length /\ Ext w4 w' /\ (∀ j, j < k -> stkS c.t (stkI c.t j) ≠ stkI c.t j) /\ Own 1 encI 3 w4.heap.size w' b cp (stkI c.t k))
  (fun k b cp => [(1, .pointer (some ⟨gc, 0, none⟩)), (3, .pointer (some ⟨g3, 0, none⟩)), (4, .slice b (stkI c.t k).length cp)]) (some ⟨gl, 0, none⟩) c.lat.2.2.length ⟨Nat.zero_le _, hX9, fun j hj => absurd hj (Nat.not_lt_zero j), hS.row (i := 0) rfl⟩ (fun k a cp w' h => h.1) (by repeat' first | exact trivial | (refine And.intro ?_ ?_) | exact rfl | (rw [hsl]; exact rfl)) ?_
 clear hS hX9 y0 y1 y2 y3 y4 y5 y6 y7 y8
 rintro k b cp wi ⟨hk, hXi, hne, hOv⟩
 obtain ⟨v, hv⟩ : ∃ v, v = stkI c.t k := ⟨_, rfl⟩
 rw [<- hv] at hOv ⊢
 have hvl : v.length = c.lat.2.2.length := by rw [hv]; exact stkI_len k
 have Rv := hOv.row eIk
 have nv := hOv.nCp
 have hCi := hC4.ext hXi
 obtain ⟨y0, y1, y2, y3, y4, y5, y6, y7, y8, _⟩ := Cells.ext hXi hc44
 have hVi := Cells.ext hXi hV4
 have RNi := RN4.ext hXi
 have RAi := RA4.ext hXi
 repeat' (first | (apply WL.makeC (w0 := wi) (z := (0:Int)) tOk; (iterate 9 exact rfl); exact eIk; exact rfl; exact rfl; exact extA; omega; intro gi wm hOi hgei hxi) | (first | apply WL.nil | refine WL.au (k := ?_)) | apply Z.tn | (first | apply W.seq | apply W.region | apply W.block))
 have eni : ((c.ins.2.2.length : Nat) : Int).toNat = c.ins.2.2.length := Int.toNat_natCast _
 have e0i : (List.replicate c.ins.2.2.length (0 : Int)).length = c.ins.2.2.length := List.length_replicate
 have e00 : preT c.ins.2.2.length (fun _ => 2) (fun _ => 0) 0 = List.replicate c.ins.2.2.length (0 : Int) := preT_zero e0i fun u x hx => rep_get hx
 rw [eni] at hOi ⊢
 have hS0 := Sep.newRow Sep.none' hxi (hOi.base (Nat.le_refl _)) (fun k hk => by cases hk; exact hgei) (Nat.le_refl _)
 rw [<- e00] at hS0
 refine W.loopW c.ins.2.2.length (fun j w' => j <= c.ins.2.2.length /\ Ext wi w' /\ Lt.Sep wi.heap.size w' [prow 1 encI 3 wi.heap.size (some ⟨gi, 0, none⟩) c.ins.2.2.length (preT c.ins.2.2.length (fun _ => 2) (fun _ => 0) j)])
  (fun j => [(1, .pointer (some ⟨gc, 0, none⟩)), (3, .pointer (some ⟨g3, 0, none⟩)), (4, .slice b v.length cp), (7, .slice (some ⟨gi, 0, none⟩) c.ins.2.2.length c.ins.2.2.length), (40, .int .i64 c.ins.2.2.length), (41, .int .i64 j)]) ⟨Nat.zero_le _, hxi, hS0⟩ (fun k w' h => h.1) (by repeat' first | exact trivial | (refine And.intro ?_ ?_) | exact rfl | (rw [e0i]; exact rfl)) ?_
 clear hS0 hOi
 rintro j wj ⟨hj, hXj, hS⟩
 have hpl := preT_len c.ins.2.2.length (fun _ => 2) (fun _ => 0) j
 by_cases hlt : j < c.ins.2.2.length
 ·obtain ⟨y, hy⟩ := getI (preT c.ins.2.2.length (fun _ => 2) (fun _ => 0) j) (show j < _ by omega)
  (try simp only [List.set_cons_zero, List.set_cons_succ] at hS); (try have hR0 := hS.row (i := 0) rfl)
  repeat' (first | (apply W.cKT; exact rfl; exact dTt (by omega)) | (apply WL.indexO tOk; (iterate 8 exact rfl); assumption; exact extA; exact eIk; ((focus (simp [*]; done))); omega; assumption; intro gb ha hc; cases ha; have hcc := hc; first | (obtain ⟨h1, h2, h3, _⟩ := hc) | (obtain ⟨h1, h2, _⟩ := hc) | (obtain ⟨h1, _⟩ := hc)) | (apply WL.storeO tOk; (iterate 4 exact rfl); assumption; exact extA; (iterate 3 exact rfl); exact eIk; assumption; exact rfl; exact extA; intro w' hO hX' hU; (replace hS := Sep.uRw (i := 0) rfl hU hO (.inl rfl) hS extA (by (exact Below.size extA))); (try simp only [List.set_cons_zero, List.set_cons_succ] at hS); (try have hR0 := hS.row (i := 0) rfl)) | (first | apply WL.nil | refine WL.au (k := ?_)) | (first | apply Z.tn | apply Z.bkn) | (first | apply W.seq | apply W.region | apply W.block | apply W.skip))
  rw [Int.toNat_natCast, preT_set rfl] at hS
  exact Z.agW ⟨by omega, by assumption, hS⟩ (by repeat' first | exact trivial | (refine And.intro ?_ ?_) | exact rfl)
 obtain rfl : j = c.ins.2.2.length := by omega
 have e2 : preT c.ins.2.2.length (fun _ => 2) (fun _ => 0) c.ins.2.2.length = List.replicate c.ins.2.2.length (2 : Int) := preT_all List.length_replicate fun u x hx => rep_get hx
 rw [e2] at hS
 have hOj : Own 1 encI 3 wi.heap.size wj (some ⟨gi, 0, none⟩) c.ins.2.2.length (List.replicate c.ins.2.2.length (2 : Int)) := hS.row (i := 0) rfl
 have hrl : (List.replicate c.ins.2.2.length (2 : Int)).length = c.ins.2.2.length := List.length_replicate
 clear hS
 obtain ⟨_, _, _, _, _, _, _, _, _, v9, v10, _⟩ := id hVi
 have eE : tvals (cNet c.t).1 (List.replicate c.ins.2.2.length 2 ++ v) = stkE c.t v := rfl
 repeat' (first | (apply W.cKF; exact rfl; exact dFf (by omega)) | (show W _ _ (.region 14 _ _) _ _ _; apply W.regionG (.fl true 0 (.fl true 2 (.fl true 3 (.fl false 1 (.br 4 (.br 5 (.fl true 6 (.fl true 7 .done)) .stop) .stop))))) [4] (Ext wi) tMix; kernel_rfl) | (show WL _ _ _ (⟨some 52, _, _, _, _, _⟩ :: _) _ _ _; apply WL.appendS (w0 := wi) tOk eIk; (iterate 10 exact rfl); exact hOj; exact extA; exact hrl; exact Rv; exact extA; exact rfl; exact nv; exact rfl; exact extA; omega; intro aI cI wI hOI hXI hUI hFI; have RI := hOI.row eIk) | (apply WL.call (f := 85); (iterate 4 exact rfl); exact tern_Eval _ _ _ _ _ _ _ (RNi.ext extA) (RI.ext extA) hOI.capLe (cNet_ok hg).2 (by omega); rintro v' w7 ⟨hx7, aE, cE, rfl, hOE⟩; rw [eE] at hOE ⊢) | (apply WL.call (f := 78); (iterate 4 exact rfl); exact slices_CloneI b cp v _ (Rv.ext extA) nv (by omega); rintro v' w8 ⟨hx8, aX, cX, rfl, hOX⟩) | (first | apply WL.nil | refine WL.au (k := ?_)) | (first | apply SG.done | (apply SG.fl0; exact rfl) | (apply SG.fl1; exact rfl; (focus ((intro m; first | assumption | (apply Ext.at; exact extA) | apply But.of_at; first | exact But.upd (by assumption) | exact But.ext extA | (refine But.trans ?_ (But.upd (by assumption)); exact But.ext extA) | exact But.at _ _ _); done))) | (apply SG.br1; exact rfl)) | (apply FL.loadE tOk; (iterate 5 exact rfl); assumption) | (first | apply FL.nilS | refine FL.au (k := ?_)) | (first | (apply Z.sgL; exact rfl) | (apply Z.sgE; (focus ((intro m; first | assumption | (apply Ext.at; exact extA) | apply But.of_at; first | exact But.upd (by assumption) | exact But.ext extA | (refine But.trans ?_ (But.upd (by assumption)); exact But.ext extA) | exact But.at _ _ _); done)))) | (first | apply Z.tn | apply Z.tnx | apply Z.bkx) | (first | apply W.seq | apply W.region | apply W.block | apply W.exit))
 have RE := hOE.row eIk
 have hXi8 : Ext wi w8 := extA
 have hB8 : wi.heap.size <= w8.heap.size := Below.size hXi8
 have h78 := hx8.size
 have hXi7 : Ext wi w7 := extA
 have hS0 := Sep.newRow (w := w7) Sep.none' hx8 (hOX.base (Nat.le_refl _)) (fun q hq => (hOX.blk_lt q hq).1) (Nat.le_refl _)
 have g0 : preT c.lat.2.2.length (stkF c.t v) (fun u => v.getD u 0) 0 = v := preT_zero hvl fun u x hx => gDo hx
 rw [<- g0] at hS0
 have d0 : dec (∀ u, u < 0 -> stkF c.t v u = v.getD u 0) = true := dTt fun u hu => absurd hu (Nat.not_lt_zero u)
 have g0l : v.length = c.lat.2.2.length := hvl
 refine W.loopW c.lat.2.2.length (fun j w' => j <= c.lat.2.2.length /\ Ext w7 w' /\ Lt.Sep w7.heap.size w' [prow 1 encI 3 w7.heap.size aX cX (preT c.lat.2.2.length (stkF c.t v) (fun u => v.getD u 0) j)])
  (fun j => [(1, .pointer (some ⟨gc, 0, none⟩)), (3, .pointer (some ⟨g3, 0, none⟩)), (4, .slice b v.length cp), (9, .slice aE (stkE c.t v).length cE), (10, .bool (dec (∀ u, u < j -> stkF c.t v u = v.getD u 0))), (11, .slice aX c.lat.2.2.length cX), (57, rowVal c.lat), (58, .int .i64 c.lat.2.2.length), (59, .int .i64 j)]) ⟨Nat.zero_le _, hx8, hS0⟩ (fun k w' h => h.1) (by repeat' first | exact trivial | (refine And.intro ?_ ?_) | exact rfl | (rw [d0]; exact rfl) | (rw [g0l]; exact rfl)) ?_
 clear hS0 hOX hOE hOj hOI hUI hFI RI
 rintro j2 wl ⟨hj2, hXl, hS⟩
 have hpl2 := preT_len c.lat.2.2.length (stkF c.t v) (fun u => v.getD u 0) j2
 have hXil : Ext wi wl := hXi7.trans hXl
 by_cases hlt : j2 < c.lat.2.2.length
 ·obtain ⟨t, ht⟩ := getI c.lat.2.2 hlt
  have RL := (hCi.ext hXil).lat.row
  obtain ⟨x, hx⟩ := getI v (show j2 < v.length by omega)
  have hxD : v.getD j2 0 = x := gDo hx
  have hkn := kLu hg (used_next (c := c.t) (List.mem_of_getElem? ht))
  have hxi : v[(j2 : Int).toNat]? = some x := by rw [Int.toNat_natCast]; exact hx
  have hst : stkF c.t v j2 = if x ≠ 2 /\ lit3 (stkE c.t v) (cl c.t t.2.1) ≠ x then 2 else x := by
   unfold stkF
   rw [hxD, gDo (show c.t.lat[j2]? = some t from ht)]
  have RXl := hS.row (i := 0) rfl
  obtain ⟨y, hy⟩ := getI (preT c.lat.2.2.length (stkF c.t v) (fun u => v.getD u 0) j2) (show j2 < _ by omega)
  have Rvl := Rv.ext hXil
  have hVl := Cells.ext hXil hVi
  by_cases q1 : x = 2
  ·have hs2 : stkF c.t v j2 = v.getD j2 0 := by rw [hst, if_neg (fun h => h.1 q1), hxD]
   have e1 : dec (∀ u, u < j2 + 1 -> stkF c.t v u = v.getD u 0) = dec (∀ u, u < j2 -> stkF c.t v u = v.getD u 0) := dCg ⟨fun h u hu => h u (by omega), fun h u hu => by
    rcases Nat.lt_or_ge u j2 with h5 | h5
    ·exact h u h5
    ·rw [show u = j2 by omega]; exact hs2⟩
   repeat' (first | (apply FL.gF; exact rfl; exact rfl; exact dFf (by omega)) | (apply W.cKT; exact rfl; (focus (exact dTt (by omega)))) | (show W _ _ (.region 19 _ _) _ _ _; apply W.regionGX (.fl true 0 (.fl true 1 (.fl true 2 (.fl false 3 (.fl true 4 (.fl true 5 (.fl true 6 (.fl true 8 (.fl true 12 (.fl true 13 (.fl true 14 (.fl false 7 (.fl false 9 (.fl false 15 (.br 10 (.br 11 (.fl true 16 (.fl true 17 .done)) .stop) .stop))))))))))))))) [5, 6, 7, 8, 9, 10, 11, 12, 13, 14, 15, 16, 17] tMix; kernel_rfl) | (apply WL.alloc tOk; (iterate 3 exact rfl); intro gb w' hb hge hx) | (apply WL.storeB (w0 := wl) tOk; (iterate 4 exact rfl); assumption; exact extA; (iterate 3 exact rfl); exact extA; assumption; intro w' hb hc hX' hU; have hcc := hc; obtain ⟨h1, h2, _⟩ := hc; (replace hS := Sep.updNew hS extA hU (by first | assumption | omega)); (try simp only [List.set_cons_zero, List.set_cons_succ] at hS); (try have hR0 := hS.row (i := 0) rfl)) | (first | (apply SX.done; intro w' hx) | (apply SX.fl0; exact rfl) | (apply SX.fl1; exact rfl; exact extA) | (apply SX.br1; exact rfl; intro w' hx)) | (first | apply FL.nilX | (apply FL.loadE tOk; (iterate 5 exact rfl); ((focus (apply Ext.cell; rotate_left; assumption; exact extA; done)))) | (apply FL.indexE tOk; (iterate 8 exact rfl); assumption; exact rfl; omega; assumption; intro b off h; have hcc := h; first | (obtain ⟨h1, h2, h3, h4, h5, h6, _⟩ := h) | (obtain ⟨h1, h2, h3, _⟩ := h) | (obtain ⟨h1, h2, _⟩ := h) | (obtain ⟨h1, _⟩ := h))) | (first | refine FL.au (k := ?_) | (apply FL.gdF; exact rfl; exact rfl)) | (apply Z.sxE; exact extA) | (first | apply WL.nil | refine WL.au (k := ?_) | (apply WL.index tOk; (iterate 8 exact rfl); assumption; exact extA; exact rfl; omega; assumption; intro b off h; have hcc := h; first | (obtain ⟨h1, h2, h3, h4, h5, h6, _⟩ := h) | (obtain ⟨h1, h2, h3, _⟩ := h) | (obtain ⟨h1, h2, _⟩ := h) | (obtain ⟨h1, _⟩ := h)) | (apply WL.gdF; exact rfl; exact rfl)) | (first | apply Z.tn | apply Z.bkn) | (first | apply W.seq | apply W.region | apply W.block | apply W.skip | (apply W.condF; exact rfl)))
   all_goals
    rw [<- preT_same hs2] at hS
    exact Z.agW ⟨by omega, extA, hS.ext extA⟩ (by repeat' first | exact trivial | (refine And.intro ?_ ?_) | exact rfl | (rw [e1]; exact rfl))
  ·by_cases q2 : lit3 (stkE c.t v) (cl c.t t.2.1) = x
   ·have hs2 : stkF c.t v j2 = v.getD j2 0 := by rw [hst, if_neg (fun h => h.2 q2), hxD]
    have e1 : dec (∀ u, u < j2 + 1 -> stkF c.t v u = v.getD u 0) = dec (∀ u, u < j2 -> stkF c.t v u = v.getD u 0) := dCg ⟨fun h u hu => h u (by omega), fun h u hu => by
     rcases Nat.lt_or_ge u j2 with h5 | h5
     ·exact h u h5
     ·rw [show u = j2 by omega]; exact hs2⟩
    repeat' (first | (apply FL.gT; exact rfl; exact rfl; (focus (exact dTt (by omega)))) | (apply W.cKT; exact rfl; (focus (exact dTt (by omega)))) | (apply W.cKF; exact rfl; exact dFf (fun h => h q2)) | (show W _ _ (.region 19 _ _) _ _ _; apply W.regionGX (.fl true 0 (.fl true 1 (.fl true 2 (.fl false 3 (.fl true 4 (.fl true 5 (.fl true 6 (.fl true 8 (.fl true 12 (.fl true 13 (.fl true 14 (.fl false 7 (.fl false 9 (.fl false 15 (.br 10 (.br 11 (.fl true 16 (.fl true 17 .done)) .stop) .stop))))))))))))))) [5, 6, 7, 8, 9, 10, 11, 12, 13, 14, 15, 16, 17] tMix; kernel_rfl) | (apply FL.loadAE (vs := viewV c aN cN aA cA) tOk; (iterate 5 exact rfl); exact Cells.ext extA hVl; exact rfl) | (apply WL.alloc tOk; (iterate 3 exact rfl); intro gb w' hb hge hx) | (apply WL.storeB (w0 := wl) tOk; (iterate 4 exact rfl); assumption; exact extA; (iterate 3 exact rfl); exact extA; assumption; intro w' hb hc hX' hU; have hcc := hc; obtain ⟨h1, h2, _⟩ := hc; (replace hS := Sep.updNew hS extA hU (by first | assumption | omega)); (try simp only [List.set_cons_zero, List.set_cons_succ] at hS); (try have hR0 := hS.row (i := 0) rfl)) | (apply WL.callP (f := 87); (iterate 4 exact rfl); exact coi_lit c aN aA cN cA hg hz _ hkn _ (RAi.ext (hXil.trans extA)); intro w' hx) | (apply WL.callS (f := 86); (iterate 4 exact rfl); exact tri_Lit _ _ _ _ _ (RE.ext (hXl.trans extA))) | (first | (apply SX.done; intro w' hx) | (apply SX.fl0; exact rfl) | (apply SX.fl1; exact rfl; exact extA) | (apply SX.br1; exact rfl; intro w' hx)) | (first | apply FL.nilX | (apply FL.loadE tOk; (iterate 5 exact rfl); (first | assumption | (focus (apply Ext.cell; rotate_left; assumption; exact extA; done)))) | (apply FL.indexE tOk; (iterate 8 exact rfl); assumption; exact rfl; omega; assumption; intro b off h; have hcc := h; first | (obtain ⟨h1, h2, h3, h4, h5, h6, _⟩ := h) | (obtain ⟨h1, h2, h3, _⟩ := h) | (obtain ⟨h1, h2, _⟩ := h) | (obtain ⟨h1, _⟩ := h))) | refine FL.au (k := ?_) | (apply Z.sxE; exact extA) | (first | apply WL.nil | refine WL.au (k := ?_) | (apply WL.index tOk; (iterate 8 exact rfl); assumption; exact extA; exact rfl; omega; assumption; intro b off h; have hcc := h; first | (obtain ⟨h1, h2, h3, h4, h5, h6, _⟩ := h) | (obtain ⟨h1, h2, h3, _⟩ := h) | (obtain ⟨h1, h2, _⟩ := h) | (obtain ⟨h1, _⟩ := h))) | (first | apply Z.tn | apply Z.bkn) | (first | apply W.seq | apply W.region | apply W.block | apply W.skip))
    all_goals
     rw [<- preT_same hs2] at hS
     exact Z.agW ⟨by omega, hXl.trans extA, hS.ext extA⟩ (by repeat' first | exact trivial | (refine And.intro ?_ ?_) | exact rfl | (rw [e1]; exact rfl))
   ·have hs2 : (2 : Int) = stkF c.t v j2 := by rw [hst, if_pos ⟨q1, q2⟩]
    have e1 : dec (∀ u, u < j2 + 1 -> stkF c.t v u = v.getD u 0) = false := dFf fun h => by
     have h5 := h j2 (by omega)
     rw [<- hs2, hxD] at h5; exact q1 h5.symm
    repeat' (first | (apply FL.gT; exact rfl; exact rfl; (focus (exact dTt (by omega)))) | (apply W.cKT; exact rfl; (focus (exact dTt (by omega)))) | (show W _ _ (.region 19 _ _) _ _ _; apply W.regionGX (.fl true 0 (.fl true 1 (.fl true 2 (.fl false 3 (.fl true 4 (.fl true 5 (.fl true 6 (.fl true 8 (.fl true 12 (.fl true 13 (.fl true 14 (.fl false 7 (.fl false 9 (.fl false 15 (.br 10 (.br 11 (.fl true 16 (.fl true 17 .done)) .stop) .stop))))))))))))))) [5, 6, 7, 8, 9, 10, 11, 12, 13, 14, 15, 16, 17] tMix; kernel_rfl) | (apply FL.loadAE (vs := viewV c aN cN aA cA) tOk; (iterate 5 exact rfl); exact Cells.ext extA hVl; exact rfl) | (apply WL.alloc tOk; (iterate 3 exact rfl); intro gb w' hb hge hx) | (apply WL.storeB (w0 := wl) tOk; (iterate 4 exact rfl); assumption; exact extA; (iterate 3 exact rfl); exact extA; assumption; intro w' hb hc hX' hU; have hcc := hc; obtain ⟨h1, h2, _⟩ := hc; (replace hS := Sep.updNew hS extA hU (by first | assumption | omega)); (try simp only [List.set_cons_zero, List.set_cons_succ] at hS); (try have hR0 := hS.row (i := 0) rfl)) | (apply WL.callP (f := 87); (iterate 4 exact rfl); exact coi_lit c aN aA cN cA hg hz _ hkn _ (RAi.ext (hXil.trans extA)); intro w' hx) | (apply WL.callS (f := 86); (iterate 4 exact rfl); exact tri_Lit _ _ _ _ _ (RE.ext (hXl.trans extA))) | (apply WL.indexO tOk; (iterate 8 exact rfl); assumption; exact extA; exact eIk; omega; omega; assumption; intro gb ha hc; cases ha; have hcc := hc; first | (obtain ⟨h1, h2, h3, _⟩ := hc) | (obtain ⟨h1, h2, _⟩ := hc) | (obtain ⟨h1, _⟩ := hc)) | (apply FL.indexO tOk; (iterate 8 exact rfl); assumption; exact extA; exact eIk; exact rfl; omega; assumption; intro gb ha hc; cases ha; have hcc := hc; first | (obtain ⟨h1, h2, h3, _⟩ := hc) | (obtain ⟨h1, h2, _⟩ := hc) | (obtain ⟨h1, _⟩ := hc)) | (apply WL.storeO tOk; (iterate 4 exact rfl); assumption; exact extA; (iterate 3 exact rfl); exact eIk; assumption; exact rfl; exact extA; intro w' hO hX' hU; (replace hS := Sep.uRw (i := 0) rfl hU hO (.inl rfl) hS extA (by (exact Below.size extA))); (try simp only [List.set_cons_zero, List.set_cons_succ] at hS); (try have hR0 := hS.row (i := 0) rfl)) | (first | (apply SX.done; intro w' hx) | (apply SX.fl0; exact rfl) | (apply SX.fl1; exact rfl; exact extA) | (apply SX.br1; exact rfl; intro w' hx)) | (first | apply FL.nilX | (apply FL.loadE tOk; (iterate 5 exact rfl); assumption)) | refine FL.au (k := ?_) | (apply Z.sxE; exact extA) | (first | apply WL.nil | refine WL.au (k := ?_) | (apply WL.index tOk; (iterate 8 exact rfl); assumption; exact extA; exact rfl; omega; assumption; intro b off h; have hcc := h; first | (obtain ⟨h1, h2, h3, h4, h5, h6, _⟩ := h) | (obtain ⟨h1, h2, h3, _⟩ := h) | (obtain ⟨h1, h2, _⟩ := h) | (obtain ⟨h1, _⟩ := h))) | (first | apply Z.tn | apply Z.bkn) | (first | apply W.seq | apply W.region | apply W.block | apply W.skip))
    all_goals
     rw [Int.toNat_natCast, preT_set hs2] at hS
     exact Z.agW ⟨by omega, extA, hS.ext extA⟩ (by repeat' first | exact trivial | (refine And.intro ?_ ?_) | exact rfl | (rw [e1]; exact rfl))
 obtain rfl : j2 = c.lat.2.2.length := by omega
 have eAll : preT c.lat.2.2.length (stkF c.t v) (fun u => v.getD u 0) c.lat.2.2.length = stkS c.t v := preT_all (stkS_len v) fun u x hx => by
  have hu := lGt hx
  rw [stkS_len] at hu
  have h5 := stkS_get (c := c.t) v hu
  rw [gDo hx] at h5; exact h5.symm
 rw [eAll] at hS
 by_cases hfix : ∀ u, u < c.lat.2.2.length -> stkF c.t v u = v.getD u 0
 ·have hvs : stkS c.t v = v := by
   have h5 : stkS c.t v = tab c.lat.2.2.length (fun u => v.getD u 0) := tab_congr hfix
   rw [h5]
   symm
   exact tab_eq hvl fun u x hx => gDo hx
  have hvd : v = skV c.t := by rw [hv]; rw [hv] at hvs; exact stk_done hk hvs
  have hOf := hOv.ext hXil
  repeat' (first | (apply W.cKT; exact rfl; exact dTt hfix) | (apply W.cKF; exact rfl; (focus (exact dFf (by omega)))) | (first | apply WL.nil | refine WL.au (k := ?_)) | (first | apply Z.tn | apply Z.tnx | apply Z.bkx | apply Z.tnr | apply Z.bkr) | (first | apply W.seq | apply W.region | apply W.ret | apply W.exit))
  rw [hvd] at hOf ⊢
  exact Z.bd1 Try.results29 rfl fun q => ⟨(((hXw4.trans hXi).trans hXil)).at q, _, _, rfl, (hOf.base (Below.size hXw4)).ext ((Ext.refl _).at q)⟩
 ·have hns : stkS c.t v ≠ v := fun h5 => hfix fun u hu => by rw [<- stkS_get (c := c.t) v hu, h5]
  have hne' : ∀ j, j < k + 1 -> stkS c.t (stkI c.t j) ≠ stkI c.t j := fun j hj => by
   rcases Nat.lt_or_ge j k with h5 | h5
   ·exact hne j h5
   ·rw [show j = k by omega, <- hv]; exact hns
  have hk1 : k + 1 <= c.lat.2.2.length := stk_short hne'
  have hOn : Own 1 encI 3 w7.heap.size wl aX cX (stkS c.t v) := hS.row (i := 0) rfl
  have e9 : stkI c.t (k + 1) = stkS c.t v := by rw [hv]; rfl
  have e9l : (stkI c.t (k + 1)).length = c.lat.2.2.length := stkI_len (k + 1)
  repeat' (first | (apply W.cKF; exact rfl; (focus (exact dFf (by omega)))) | (first | apply WL.nil | refine WL.au (k := ?_)) | (first | apply Z.tn | apply Z.bkn | apply Z.tnx | apply Z.bkx) | (first | apply W.seq | apply W.region | apply W.skip | apply W.exit))
  exact Z.agO aX cX ⟨hk1, hXi.trans hXil, hne', by rw [e9]; exact hOn.base (Below.size (hXi.trans hXi7))⟩ (by repeat' first | exact trivial | (refine And.intro ?_ ?_) | exact rfl | (rw [e9l]; exact rfl))
end Go.Proofs.Yteidpnpbfagaeaa
namespace Go.Lt
open Go.RowKit
theorem Sep.cons_iff {B : Nat} {w : World} {p : Piece} {ps : List Piece} : Sep B w (p :: ps) ↔ (p.P w /\ ∀ k, p.b = some k -> B <= k /\ k < w.heap.size) /\ (∀ q ∈ ps, p.b = none ∨ p.b ≠ q.b) /\ (∀ q ∈ ps, q.b = none ∨ q.b ≠ p.b) /\ Sep B w ps := by
 constructor
 ·intro h
  refine ⟨h.holds 0 p rfl, fun q hq => ?_, fun q hq => ?_, ⟨fun i q hi => h.holds (i + 1) q hi, fun i j q r h1 h2 hne => h.apart (i + 1) (j + 1) q r h1 h2 (by omega)⟩⟩
  ·obtain ⟨i, hi⟩ := List.mem_iff_getElem?.1 hq
   exact h.apart 0 (i + 1) p q rfl hi (by omega)
  ·obtain ⟨i, hi⟩ := List.mem_iff_getElem?.1 hq
   exact h.apart (i + 1) 0 q p hi rfl (by omega)
 ·rintro ⟨h1, h2, h3, h4⟩
  refine ⟨fun i q hi => ?_, fun i j q r hi hj hne => ?_⟩
  ·cases i with
   | zero => cases hi; exact h1
   | succ i => exact h4.holds i q hi
  ·cases i with
   | zero =>
    cases hi
    cases j with
    | zero => exact absurd rfl hne
    | succ j => exact h2 r (List.mem_of_getElem? (i := j) hj)
   | succ i =>
    cases j with
    | zero => cases hj; exact h3 q (List.mem_of_getElem? (i := i) hi)
    | succ j => exact h4.apart i j q r hi hj (by omega)
theorem Sep.ofPerm {B : Nat} {w : World} {ps qs : List Piece} (hp : ps.Perm qs) : Sep B w ps -> Sep B w qs := by
 induction hp with
 | nil => exact id
 | cons x hp ih =>
  intro h
  obtain ⟨h1, h2, h3, h4⟩ := Sep.cons_iff.1 h
  exact Sep.cons_iff.2 ⟨h1, fun q hq => h2 q (hp.mem_iff.2 hq), fun q hq => h3 q (hp.mem_iff.2 hq), ih h4⟩
 | swap x y l =>
  intro h
  obtain ⟨h1, h2, h3, h4⟩ := Sep.cons_iff.1 h
  obtain ⟨k1, k2, k3, k4⟩ := Sep.cons_iff.1 h4
  refine Sep.cons_iff.2 ⟨k1, fun q hq => ?_, fun q hq => ?_, Sep.cons_iff.2 ⟨h1, fun q hq => h2 q (List.mem_cons_of_mem _ hq), fun q hq => h3 q (List.mem_cons_of_mem _ hq), k4⟩⟩
  ·rcases List.mem_cons.1 hq with rfl | hq
   ·exact h3 x (List.mem_cons_self ..)
   ·exact k2 q hq
  ·rcases List.mem_cons.1 hq with rfl | hq
   ·exact h2 x (List.mem_cons_self ..)
   ·exact k3 q hq
 | trans _ _ ih1 ih2 => exact fun h => ih2 (ih1 h)
end Go.Lt
namespace Go.Proofs.Yteidpnpbfagaeaa
open Go Go.Lt Go.RowKit

abbrev Fr := RowV (Int × Int) × RowV Int
abbrev encUF : Fr -> List Value := fun f => [rowVal f.1, rowVal f.2]
def Known (w0 : World) (R : List Piece) (P : World -> Prop) : Prop := ∀ w, Ext w0 w -> (∀ p ∈ R, p.P w) -> P w
theorem Known.more {w0 : World} {R : List Piece} {P : World -> Prop} (h : Known w0 R P) (p : Piece) : Known w0 (p :: R) P := fun w hX hR => h w hX fun q hq => hR q (List.mem_cons_of_mem _ hq)
theorem Known.sep {w0 w : World} {R ps : List Piece} {P : World -> Prop} (h : Known w0 R P) (hX : Ext w0 w) {B : Nat} (hS : Lt.Sep B w ps) (hsub : ∀ p ∈ R, p ∈ ps) : P w :=
 h w hX fun p hp => by
  obtain ⟨i, hi⟩ := List.mem_iff_getElem?.1 (hsub p hp)
  exact (hS.holds i p hi).1
structure UM where
 gf : Nat
 gs : Nat
 r : Nat
 d : Circ
 aN : Option Addr
 cN : Nat
 aA : Option Addr
 cA : Nat
structure UX where
 a : Option Addr
 cap : Nat
 af : Option Addr
 cf : Nat
 fr : List Fr
 as' : Option Addr
 cs : Nat
 st : List (RowV Int)
 R : List Piece
noncomputable abbrev UM.vals (m : UM) (af : Option Addr) (nf cf : Nat) (as' : Option Addr) (ns cs : Nat) : List Value :=
 [.int .i64 m.d.max, rowVal m.d.ins, rowVal m.d.lat, rowVal m.d.outs, rowVal m.d.bads, rowVal m.d.cons, rowVal m.d.gates, rowVal m.d.syms, .string m.d.com,
  .slice m.aN (cNet m.d.t).1.length m.cN, .slice m.aA (cNet m.d.t).2.length m.cA, .pointer (some ⟨m.gs, 0, none⟩), .slice af nf cf, .slice as' ns cs]
noncomputable abbrev unP (B : Nat) (m : UM) (N : List (Int × Int)) (a : Option Addr) (cap : Nat) (af : Option Addr) (cf : Nat) (fr : List Fr) (as' : Option Addr) (cs : Nat) (st : List (RowV Int)) (R : List Piece) : List Piece :=
 stN B m.gs a cap m.r N ++ (pcell m.gf (m.vals af fr.length cf as' st.length cs).toArray 126 :: prow 2 encUF 129 B af cf fr :: prow 1 encRow 22 B as' cs st :: R)
structure URows (m : UM) (fr : List Fr) (st : List (RowV Int)) (w : World) : Prop where
 c : CAt w m.d
 n : Row 2 encN w m.aN (cNet m.d.t).1
 a : Row 1 encI w m.aA (cNet m.d.t).2
 vars : ∀ f ∈ fr, Row 2 encN w f.1.1 f.1.2.2
 ins : ∀ f ∈ fr, Row 1 encI w f.2.1 f.2.2.2
 st : ∀ s ∈ st, Row 1 encI w s.1 s.2.2
structure UKn (w0 : World) (m : UM) (u : UnV) (fr : List Fr) (st : List (RowV Int)) (R : List Piece) : Prop where
 hv : fr.map (fun f => f.1.2.2) = u.own.map (signsL m.d.t)
 hi : fr.map (fun f => f.2.2.2) = u.ins
 hs : st.map (fun r => r.2.2) = u.st
 sn : ∀ s ∈ st, s.1 = none -> s.2.1 = 0
 rows : Known w0 R (URows m fr st)
structure UAt (w0 w : World) (m : UM) (u : UnV) (x : UX) (rest : List Piece) : Prop where
 ext : Ext w0 w
 sep : Lt.Sep w0.heap.size w (unP w0.heap.size m u.N x.a x.cap x.af x.cf x.fr x.as' x.cs x.st x.R ++ rest)
 kn : UKn w0 m u x.fr x.st x.R
theorem UAt.rows {w0 w : World} {m : UM} {u : UnV} {x : UX} {rest : List Piece} (h : UAt w0 w m u x rest) : URows m x.fr x.st w :=
 h.kn.rows.sep h.ext h.sep fun p hp => List.mem_append_left _ (List.mem_append_right _ (List.mem_cons_of_mem _ (List.mem_cons_of_mem _ (List.mem_cons_of_mem _ hp))))
theorem UAt.up {w0 w w' : World} {m : UM} {u : UnV} {x : UX} {rest : List Piece} (h : UAt w0 w m u x rest) (hx : Ext w w') : UAt w0 w' m u x rest := ⟨h.ext.trans hx, h.sep.ext hx, h.kn⟩
theorem UAt.lf {w0 w : World} {m : UM} {u : UnV} {x : UX} {rest : List Piece} (h : UAt w0 w m u x rest) : x.fr.length = u.own.length /\ x.fr.length = u.ins.length /\ x.st.length = u.st.length := by
 have h1 := congrArg List.length h.kn.hv
 have h2 := congrArg List.length h.kn.hi
 have h3 := congrArg List.length h.kn.hs
 simp only [List.length_map] at h1 h2 h3
 exact ⟨h1, h2, h3⟩
theorem map_get' {α β : Type} {f : α -> β} {l : List α} {r : List β} (h : l.map f = r) {i : Nat} {x : α} (hx : l[i]? = some x) : r[i]? = some (f x) := by rw [<- h, List.getElem?_map, hx]; rfl
theorem UAt.frame {w0 w : World} {m : UM} {u : UnV} {x : UX} {rest : List Piece} (h : UAt w0 w m u x rest) {k : Nat} (hk : k < u.own.length) : ∃ f, x.fr[k]? = some f /\ f.1.2.2 = signsL m.d.t (u.own.getD k []) /\ f.2.2.2 = rowU u.ins (k : Nat) /\ Row 2 encN w f.1.1 (signsL m.d.t (u.own.getD k [])) /\ Row 1 encI w f.2.1 (rowU u.ins (k : Nat)) := by
 obtain ⟨l1, l2, l3⟩ := h.lf
 obtain ⟨f, hf⟩ := getI x.fr (show k < x.fr.length by omega)
 have hm := List.mem_of_getElem? hf
 obtain ⟨o, ho⟩ := getI u.own hk
 have h1 := map_get' h.kn.hv hf
 have h2 := map_get' h.kn.hi hf
 rw [List.getElem?_map, ho] at h1
 have e1 : f.1.2.2 = signsL m.d.t (u.own.getD k []) := by rw [gDo ho]; exact (Option.some.inj h1).symm
 have e2 : f.2.2.2 = rowU u.ins (k : Nat) := by
  unfold rowU; rw [if_pos (by omega), Int.toNat_natCast, gDo h2]
 refine ⟨f, hf, e1, e2, ?_, ?_⟩
 ·rw [<- e1]; exact h.rows.vars f hm
 ·rw [<- e2]; exact h.rows.ins f hm
theorem UAt.cells {w0 w : World} {m : UM} {u : UnV} {x : UX} {rest : List Piece} (h : UAt w0 w m u x rest) : Cells w m.gf 0 (m.vals x.af x.fr.length x.cf x.as' x.st.length x.cs) := by
 have h1 := cHp (h.sep.cell (i := 3) (gb := m.gf) (cs := (m.vals x.af x.fr.length x.cf x.as' x.st.length x.cs).toArray) (t := 126) rfl)
 simpa using h1

section
variable {w0 w : World} {m : UM} {u : UnV} {x : UX} {rest : List Piece}
structure UC (w : World) (m : UM) (af : Option Addr) (nf cf : Nat) (as' : Option Addr) (ns cs : Nat) : Prop where
 ins : w.cell? ⟨m.gf, 0 + 1, none⟩ = some (rowVal m.d.ins)
 lat : w.cell? ⟨m.gf, 0 + 2, none⟩ = some (rowVal m.d.lat)
 bads : w.cell? ⟨m.gf, 0 + 4, none⟩ = some (rowVal m.d.bads)
 cons : w.cell? ⟨m.gf, 0 + 5, none⟩ = some (rowVal m.d.cons)
 gates : w.cell? ⟨m.gf, 0 + 6, none⟩ = some (rowVal m.d.gates)
 net : w.cell? ⟨m.gf, 0 + 9, none⟩ = some (.slice m.aN (cNet m.d.t).1.length m.cN)
 at_ : w.cell? ⟨m.gf, 0 + 10, none⟩ = some (.slice m.aA (cNet m.d.t).2.length m.cA)
 store : w.cell? ⟨m.gf, 0 + 11, none⟩ = some (.pointer (some ⟨m.gs, 0, none⟩))
 frames : w.cell? ⟨m.gf, 0 + 12, none⟩ = some (.slice af nf cf)
 states : w.cell? ⟨m.gf, 0 + 13, none⟩ = some (.slice as' ns cs)
theorem UC.of {af as' : Option Addr} {nf cf ns cs : Nat} (h : Cells w m.gf 0 (m.vals af nf cf as' ns cs)) : UC w m af nf cf as' ns cs := by
 obtain ⟨_, h1, h2, _, h4, h5, h6, _, _, h9, h10, h11, h12, h13, _⟩ := h
 exact ⟨h1, h2, h4, h5, h6, h9, h10, h11, h12, h13⟩
theorem UC.ext {w' : World} {af as' : Option Addr} {nf cf ns cs : Nat} (h : UC w m af nf cf as' ns cs) (hx : Ext w w') : UC w' m af nf cf as' ns cs :=
 ⟨hx.cell h.1, hx.cell h.2, hx.cell h.3, hx.cell h.4, hx.cell h.5, hx.cell h.6, hx.cell h.7, hx.cell h.8, hx.cell h.9, hx.cell h.10⟩
end

theorem ordL_nil : ordL [] = [] := (IsOrd.ord (gs := []) (L := []) ⟨PreOrd.nil _, fun i ⟨g, hg, _⟩ => by simp at hg⟩).symm

theorem few_sz2 {c : CirT} {m : Int} (h : FewC c m) (hm : m <= 100000) : SzC c 100000 /\ c.syms.length <= 100000 := by
 obtain ⟨h1, h2, h3, h4, h5, h6, h7, _⟩ := few_iff.1 h
 exact ⟨⟨by omega, by omega, by omega, by omega, by omega, by omega⟩, by omega⟩

theorem factLt : FactEq Try.prog 87 := ⟨by kernel_rfl, by kernel_rfl⟩
theorem factGt : FactEq Try.prog 89 := ⟨by kernel_rfl, by kernel_rfl⟩
theorem factSy : FactEq Try.prog 150 := ⟨by kernel_rfl, by kernel_rfl⟩
theorem enc3_inj {x y : T3} (h : enc3 x = enc3 y) : x = y := by
 obtain ⟨a, b, c⟩ := x
 obtain ⟨d, e, f⟩ := y
 simp only [enc3, List.cons.injEq, Value.int.injEq, true_and, and_true] at h
 obtain ⟨rfl, rfl, rfl⟩ := h
 rfl
theorem encY_inj {x y : Sy} (h : encY x = encY y) : x = y := by
 obtain ⟨a, b, c⟩ := x
 obtain ⟨d, e, f⟩ := y
 simp only [encY, List.cons.injEq, Value.int.injEq, Value.string.injEq, true_and, and_true] at h
 obtain ⟨rfl, rfl, rfl⟩ := h
 rfl
theorem ne_iff {α : Type} {enc : α -> List Value} (inj : ∀ {x y}, enc x = enc y -> x = y) {x y : α} (h : ¬ x = y) : enc x ≠ enc y := fun he => h (inj he)
end Go.Proofs.Yteidpnpbfagaeaa
namespace Go.Lt
open Go.RowKit
section
variable {P : Program} {T : Tab} {e : Env} {dd : Option Tmp} {tt ty t : TypeId} {x y : Operand} {ps : String} {af : Array Edge} {g : Option (Nat × Bool)} {i : TI} {u v : ByteArray}
theorem loop_eq (u : ByteArray) : ∀ (n i : Nat) (r : List UInt8), u.size - i = n -> ByteArray.toList.loop u i r = r.reverse ++ u.data.toList.drop i := by
 intro n
 induction n with
 | zero =>
  intro i r h
  unfold ByteArray.toList.loop
  rw [if_neg (by omega), List.drop_eq_nil_of_le (by show u.data.size <= i; have : u.size = u.data.size := rfl; omega), List.append_nil]
 | succ n ih =>
  intro i r h
  unfold ByteArray.toList.loop
  have hi : i < u.data.toList.length := by show i < u.data.size; have : u.size = u.data.size := rfl; omega
  rw [if_pos (by omega), ih (i + 1) _ (by omega), List.reverse_cons, List.append_assoc, List.drop_eq_getElem_cons hi]
  congr 1
  rw [List.singleton_append]
  congr 1
  show u.data[i]! = u.data.toList[i]
  have hi2 : i < u.data.size := hi
  rw [getElem!_pos u.data i hi2]; rfl
theorem bytesL (u : ByteArray) : u.toList = u.data.toList := by
 unfold ByteArray.toList
 rw [loop_eq u u.size 0 [] rfl]; rfl
theorem bytesL_inj {u v : ByteArray} (h : u.toList = v.toList) : u = v := by
 rw [bytesL, bytesL] at h
 exact ByteArray.ext (Array.ext' h)
theorem yneStr (hT : OkTab P T) (hx : ev e x = some (.string u)) (hy : ev e y = some (.string v)) (ht : tget T t = some i) (hd : i.desc = .string) : Yields P e ⟨dd, .binOp .neq t x y ty, tt, ps, af, g⟩ (.bool (dec (u ≠ v))) := by
 intro ρ hρ w
 have h1 : (eqGuard .neq t x y (.string u) (.string v)).run P w = .ok () w := by simp [eqGuard]
 have h3 : (!dec (u = v)) = dec (u ≠ v) := by
  by_cases hh : u = v
  ·rw [dTt hh, dFf (fun h => h hh)]; rfl
  ·rw [dFf hh, dTt hh]; rfl
 have h2 : (binOp .neq t (.string u) (.string v)).run P w = .ok (.bool (dec (u ≠ v))) w := by
  by_cases h : u = v
  ·subst h; rw [dFf (fun h => h rfl)]; simp [binOp, Op.stringOp]
  ·rw [dTt h]; have hh : ¬ u.toList = v.toList := fun q => h (bytesL_inj q); simp [binOp, Op.stringOp, hh]
 simp [execOp, hρ _ _ hx, hρ _ _ hy, h1, h2]
variable {N d : Nat} {w : World} {Q : Exit -> Act -> World -> Prop} {C : World -> Prop} {ops l : List Oper}
theorem WL.neStr (hT : OkTab P T) (hg : gate ops e g = some true) (hd : Nat.blt d N = true) (hx : ev e x = some (.string u)) (hy : ev e y = some (.string v)) (ht : tget T t = some i) (htd : i.desc = .string) (k : WL P N ops.toArray l ((d, .bool (dec (u ≠ v))) :: e) w Q) : WL P N ops.toArray (⟨some d, .binOp .neq t x y ty, tt, ps, af, g⟩ :: l) e w Q := WL.step hg hd (yneStr hT hx hy ht htd).in k
theorem QL.neStr (hT : OkTab P T) (hg : gate ops e g = some true) (hd : Nat.blt d N = true) (hx : ev e x = some (.string u)) (hy : ev e y = some (.string v)) (ht : tget T t = some i) (htd : i.desc = .string) (k : QL P N C ops.toArray l ((d, .bool (dec (u ≠ v))) :: e) Q) : QL P N C ops.toArray (⟨some d, .binOp .neq t x y ty, tt, ps, af, g⟩ :: l) e Q := QL.step hg hd (yneStr hT hx hy ht htd).in k
end
end Go.Lt
namespace Go.Proofs.Yteidpnpbfagaeaa
open Go Go.Lt Go.RowKit

theorem ref11_Same (a b : Circ) (w : World) (hCa : CAt w a) (hCb : CAt w b) : Pure Try.prog 72 [a.val, b.val] w (.bool (dec (a.t = b.t))) := by
 by_cases e0 : a.max = b.max
 rotate_left
 ·skip
  refine Spec.of _ Try.func72 rfl Try.ntmps72 (by kernel_rfl) rfl ?_
  repeat' (first | (apply WL.box; (iterate 3 exact rfl); intro gb w' hb hge hc hx; have hcc := hc; obtain ⟨h1, h2, h3, _⟩ := hc; (first | (have h_0 := xA0; clear h_0; have hB := hcc; obtain ⟨xB0, xB1, xB2, xB3, xB4, xB5, xB6, xB7, xB8, _⟩ := hcc; (obtain ⟨gB, rfl⟩ : ∃ x, x = gb := ⟨_, rfl⟩; obtain ⟨wB, rfl⟩ : ∃ x, x = w' := ⟨_, rfl⟩; obtain ⟨hxB, rfl⟩ : ∃ x, x = hx := ⟨_, rfl⟩)) | (have hA := hcc; obtain ⟨xA0, xA1, xA2, xA3, xA4, xA5, xA6, xA7, xA8, _⟩ := hcc; (obtain ⟨gA, rfl⟩ : ∃ x, x = gb := ⟨_, rfl⟩; obtain ⟨wA, rfl⟩ : ∃ x, x = w' := ⟨_, rfl⟩; obtain ⟨hxA, rfl⟩ : ∃ x, x = hx := ⟨_, rfl⟩)))) | (apply WL.gT; exact rfl; exact rfl; exact dTt e0) | (first | apply WL.nil | refine WL.au (k := ?_) | (apply WL.gdF; exact rfl; exact rfl)) | (first | apply Z.tn | apply Z.tnr) | (first | apply W.seq | apply W.region | apply W.ret | (apply W.condT; exact rfl)))
  exact Z.bd1 Try.results72 rfl fun m => ⟨congrArg Value.bool (dFf (show ¬ a.t = b.t from fun h => e0 (congrArg CirT.max h))).symm, Ext.at extA m⟩
 by_cases e1 : a.com = b.com
 rotate_left
 ·skip
  refine Spec.of _ Try.func72 rfl Try.ntmps72 (by kernel_rfl) rfl ?_
  repeat' (first | (apply WL.box; (iterate 3 exact rfl); intro gb w' hb hge hc hx; have hcc := hc; obtain ⟨h1, h2, h3, _⟩ := hc; (first | (have h_0 := xA0; clear h_0; have hB := hcc; obtain ⟨xB0, xB1, xB2, xB3, xB4, xB5, xB6, xB7, xB8, _⟩ := hcc; (obtain ⟨gB, rfl⟩ : ∃ x, x = gb := ⟨_, rfl⟩; obtain ⟨wB, rfl⟩ : ∃ x, x = w' := ⟨_, rfl⟩; obtain ⟨hxB, rfl⟩ : ∃ x, x = hx := ⟨_, rfl⟩)) | (have hA := hcc; obtain ⟨xA0, xA1, xA2, xA3, xA4, xA5, xA6, xA7, xA8, _⟩ := hcc; (obtain ⟨gA, rfl⟩ : ∃ x, x = gb := ⟨_, rfl⟩; obtain ⟨wA, rfl⟩ : ∃ x, x = w' := ⟨_, rfl⟩; obtain ⟨hxA, rfl⟩ : ∃ x, x = hx := ⟨_, rfl⟩)))) | (apply WL.neStr tOk; (iterate 6 exact rfl)) | (apply WL.gT; exact rfl; exact rfl; exact dTt e1) | (apply WL.gF; exact rfl; exact rfl; (focus (exact dFf (fun h => h e0)))) | (first | apply WL.nil | refine WL.au (k := ?_) | (apply WL.gdF; exact rfl; exact rfl)) | (first | apply Z.tn | apply Z.tnr) | (first | apply W.seq | apply W.region | apply W.ret | (apply W.condT; exact rfl)))
  exact Z.bd1 Try.results72 rfl fun m => ⟨congrArg Value.bool (dFf (show ¬ a.t = b.t from fun h => e1 (congrArg CirT.com h))).symm, Ext.at extA m⟩
 by_cases e2 : a.ins.2.2 = b.ins.2.2
 rotate_left
 ·skip
  refine Spec.of _ Try.func72 rfl Try.ntmps72 (by kernel_rfl) rfl ?_
  repeat' (first | (apply WL.box; (iterate 3 exact rfl); intro gb w' hb hge hc hx; have hcc := hc; obtain ⟨h1, h2, h3, _⟩ := hc; (first | (have h_0 := xA0; clear h_0; have hB := hcc; obtain ⟨xB0, xB1, xB2, xB3, xB4, xB5, xB6, xB7, xB8, _⟩ := hcc; (obtain ⟨gB, rfl⟩ : ∃ x, x = gb := ⟨_, rfl⟩; obtain ⟨wB, rfl⟩ : ∃ x, x = w' := ⟨_, rfl⟩; obtain ⟨hxB, rfl⟩ : ∃ x, x = hx := ⟨_, rfl⟩)) | (have hA := hcc; obtain ⟨xA0, xA1, xA2, xA3, xA4, xA5, xA6, xA7, xA8, _⟩ := hcc; (obtain ⟨gA, rfl⟩ : ∃ x, x = gb := ⟨_, rfl⟩; obtain ⟨wA, rfl⟩ : ∃ x, x = w' := ⟨_, rfl⟩; obtain ⟨hxA, rfl⟩ : ∃ x, x = hx := ⟨_, rfl⟩)))) | (apply WL.neStr tOk; (iterate 6 exact rfl)) | (apply WL.gT; exact rfl; exact rfl; (focus ((rw [dFf e2]; rfl); done))) | (apply WL.gF; exact rfl; exact rfl; (focus (first | exact dFf (fun h => h e0) | exact dFf (fun h => h e1)))) | (apply WL.callS (f := 14); (iterate 4 exact rfl); exact rIn _ _ _ _ _ _ _ (hCa.ins.row.ext extA) (hCb.ins.row.ext extA)) | (first | apply WL.nil | refine WL.au (k := ?_) | (apply WL.gdF; exact rfl; exact rfl)) | (first | apply Z.tn | apply Z.tnr) | (first | apply W.seq | apply W.region | apply W.ret | (apply W.condT; exact rfl)))
  exact Z.bd1 Try.results72 rfl fun m => ⟨congrArg Value.bool (dFf (show ¬ a.t = b.t from fun h => e2 (congrArg CirT.ins h))).symm, Ext.at extA m⟩
 by_cases e3 : a.outs.2.2 = b.outs.2.2
 rotate_left
 ·skip
  refine Spec.of _ Try.func72 rfl Try.ntmps72 (by kernel_rfl) rfl ?_
  repeat' (first | (apply WL.box; (iterate 3 exact rfl); intro gb w' hb hge hc hx; have hcc := hc; obtain ⟨h1, h2, h3, _⟩ := hc; (first | (have h_0 := xA0; clear h_0; have hB := hcc; obtain ⟨xB0, xB1, xB2, xB3, xB4, xB5, xB6, xB7, xB8, _⟩ := hcc; (obtain ⟨gB, rfl⟩ : ∃ x, x = gb := ⟨_, rfl⟩; obtain ⟨wB, rfl⟩ : ∃ x, x = w' := ⟨_, rfl⟩; obtain ⟨hxB, rfl⟩ : ∃ x, x = hx := ⟨_, rfl⟩)) | (have hA := hcc; obtain ⟨xA0, xA1, xA2, xA3, xA4, xA5, xA6, xA7, xA8, _⟩ := hcc; (obtain ⟨gA, rfl⟩ : ∃ x, x = gb := ⟨_, rfl⟩; obtain ⟨wA, rfl⟩ : ∃ x, x = w' := ⟨_, rfl⟩; obtain ⟨hxA, rfl⟩ : ∃ x, x = hx := ⟨_, rfl⟩)))) | (apply WL.neStr tOk; (iterate 6 exact rfl)) | (apply WL.gT; exact rfl; exact rfl; (focus ((rw [dFf e3]; rfl); done))) | (apply WL.gF; exact rfl; exact rfl; (focus (first | exact dFf (fun h => h e0) | exact dFf (fun h => h e1) | (rw [dTt e2]; rfl)))) | (apply WL.callS (f := 14); (iterate 4 exact rfl); exact rIn _ _ _ _ _ _ _ (hCa.ins.row.ext extA) (hCb.ins.row.ext extA)) | (apply WL.callS (f := 14); (iterate 4 exact rfl); exact rIn _ _ _ _ _ _ _ (hCa.outs.row.ext extA) (hCb.outs.row.ext extA)) | (first | apply WL.nil | refine WL.au (k := ?_) | (apply WL.gdF; exact rfl; exact rfl)) | (first | apply Z.tn | apply Z.tnr) | (first | apply W.seq | apply W.region | apply W.ret | (apply W.condT; exact rfl)))
  exact Z.bd1 Try.results72 rfl fun m => ⟨congrArg Value.bool (dFf (show ¬ a.t = b.t from fun h => e3 (congrArg CirT.outs h))).symm, Ext.at extA m⟩
 by_cases e4 : a.bads.2.2 = b.bads.2.2
 rotate_left
 ·skip
  refine Spec.of _ Try.func72 rfl Try.ntmps72 (by kernel_rfl) rfl ?_
  repeat' (first | (apply WL.box; (iterate 3 exact rfl); intro gb w' hb hge hc hx; have hcc := hc; obtain ⟨h1, h2, h3, _⟩ := hc; (first | (have h_0 := xA0; clear h_0; have hB := hcc; obtain ⟨xB0, xB1, xB2, xB3, xB4, xB5, xB6, xB7, xB8, _⟩ := hcc; (obtain ⟨gB, rfl⟩ : ∃ x, x = gb := ⟨_, rfl⟩; obtain ⟨wB, rfl⟩ : ∃ x, x = w' := ⟨_, rfl⟩; obtain ⟨hxB, rfl⟩ : ∃ x, x = hx := ⟨_, rfl⟩)) | (have hA := hcc; obtain ⟨xA0, xA1, xA2, xA3, xA4, xA5, xA6, xA7, xA8, _⟩ := hcc; (obtain ⟨gA, rfl⟩ : ∃ x, x = gb := ⟨_, rfl⟩; obtain ⟨wA, rfl⟩ : ∃ x, x = w' := ⟨_, rfl⟩; obtain ⟨hxA, rfl⟩ : ∃ x, x = hx := ⟨_, rfl⟩)))) | (apply WL.neStr tOk; (iterate 6 exact rfl)) | (apply WL.gT; exact rfl; exact rfl; (focus ((rw [dFf e4]; rfl); done))) | (apply WL.gF; exact rfl; exact rfl; (focus (first | exact dFf (fun h => h e0) | exact dFf (fun h => h e1) | (rw [dTt e2]; rfl) | (rw [dTt e3]; rfl)))) | (apply WL.callS (f := 14); (iterate 4 exact rfl); exact rIn _ _ _ _ _ _ _ (hCa.ins.row.ext extA) (hCb.ins.row.ext extA)) | (apply WL.callS (f := 14); (iterate 4 exact rfl); exact rIn _ _ _ _ _ _ _ (hCa.outs.row.ext extA) (hCb.outs.row.ext extA)) | (apply WL.callS (f := 14); (iterate 4 exact rfl); exact rIn _ _ _ _ _ _ _ (hCa.bads.row.ext extA) (hCb.bads.row.ext extA)) | (first | apply WL.nil | refine WL.au (k := ?_) | (apply WL.gdF; exact rfl; exact rfl)) | (first | apply Z.tn | apply Z.tnr) | (first | apply W.seq | apply W.region | apply W.ret | (apply W.condT; exact rfl)))
  exact Z.bd1 Try.results72 rfl fun m => ⟨congrArg Value.bool (dFf (show ¬ a.t = b.t from fun h => e4 (congrArg CirT.bads h))).symm, Ext.at extA m⟩
 by_cases e5 : a.cons.2.2 = b.cons.2.2
 rotate_left
 ·skip
  refine Spec.of _ Try.func72 rfl Try.ntmps72 (by kernel_rfl) rfl ?_
  repeat' (first | (apply WL.box; (iterate 3 exact rfl); intro gb w' hb hge hc hx; have hcc := hc; obtain ⟨h1, h2, h3, _⟩ := hc; (first | (have h_0 := xA0; clear h_0; have hB := hcc; obtain ⟨xB0, xB1, xB2, xB3, xB4, xB5, xB6, xB7, xB8, _⟩ := hcc; (obtain ⟨gB, rfl⟩ : ∃ x, x = gb := ⟨_, rfl⟩; obtain ⟨wB, rfl⟩ : ∃ x, x = w' := ⟨_, rfl⟩; obtain ⟨hxB, rfl⟩ : ∃ x, x = hx := ⟨_, rfl⟩)) | (have hA := hcc; obtain ⟨xA0, xA1, xA2, xA3, xA4, xA5, xA6, xA7, xA8, _⟩ := hcc; (obtain ⟨gA, rfl⟩ : ∃ x, x = gb := ⟨_, rfl⟩; obtain ⟨wA, rfl⟩ : ∃ x, x = w' := ⟨_, rfl⟩; obtain ⟨hxA, rfl⟩ : ∃ x, x = hx := ⟨_, rfl⟩)))) | (apply WL.neStr tOk; (iterate 6 exact rfl)) | (apply WL.gF; exact rfl; exact rfl; (focus (first | exact dFf (fun h => h e0) | exact dFf (fun h => h e1) | (rw [dTt e2]; rfl) | (rw [dTt e3]; rfl) | (rw [dTt e4]; rfl)))) | (apply W.cKT; exact rfl; (focus ((rw [dFf e5]; rfl); done))) | (apply WL.callS (f := 14); (iterate 4 exact rfl); exact rIn _ _ _ _ _ _ _ (hCa.ins.row.ext extA) (hCb.ins.row.ext extA)) | (apply WL.callS (f := 14); (iterate 4 exact rfl); exact rIn _ _ _ _ _ _ _ (hCa.outs.row.ext extA) (hCb.outs.row.ext extA)) | (apply WL.callS (f := 14); (iterate 4 exact rfl); exact rIn _ _ _ _ _ _ _ (hCa.bads.row.ext extA) (hCb.bads.row.ext extA)) | (apply WL.callS (f := 14); (iterate 4 exact rfl); exact rIn _ _ _ _ _ _ _ (hCa.cons.row.ext extA) (hCb.cons.row.ext extA)) | (first | apply WL.nil | refine WL.au (k := ?_)) | (first | apply Z.tn | apply Z.tnr) | (first | apply W.seq | apply W.region | apply W.ret))
  exact Z.bd1 Try.results72 rfl fun m => ⟨congrArg Value.bool (dFf (show ¬ a.t = b.t from fun h => e5 (congrArg CirT.cons h))).symm, Ext.at extA m⟩
 by_cases l0 : a.lat.2.2.length = b.lat.2.2.length
 rotate_left
 ·skip
  refine Spec.of _ Try.func72 rfl Try.ntmps72 (by kernel_rfl) rfl ?_
  repeat' (first | (apply WL.box; (iterate 3 exact rfl); intro gb w' hb hge hc hx; have hcc := hc; obtain ⟨h1, h2, h3, _⟩ := hc; (first | (have h_0 := xA0; clear h_0; have hB := hcc; obtain ⟨xB0, xB1, xB2, xB3, xB4, xB5, xB6, xB7, xB8, _⟩ := hcc; (obtain ⟨gB, rfl⟩ : ∃ x, x = gb := ⟨_, rfl⟩; obtain ⟨wB, rfl⟩ : ∃ x, x = w' := ⟨_, rfl⟩; obtain ⟨hxB, rfl⟩ : ∃ x, x = hx := ⟨_, rfl⟩)) | (have hA := hcc; obtain ⟨xA0, xA1, xA2, xA3, xA4, xA5, xA6, xA7, xA8, _⟩ := hcc; (obtain ⟨gA, rfl⟩ : ∃ x, x = gb := ⟨_, rfl⟩; obtain ⟨wA, rfl⟩ : ∃ x, x = w' := ⟨_, rfl⟩; obtain ⟨hxA, rfl⟩ : ∃ x, x = hx := ⟨_, rfl⟩)))) | (apply WL.neStr tOk; (iterate 6 exact rfl)) | (apply WL.gT; exact rfl; exact rfl; exact dTt (show ((a.lat.2.2.length : Nat) : Int) ≠ (b.lat.2.2.length : Nat) by omega)) | (apply WL.gF; exact rfl; exact rfl; (focus (first | exact dFf (fun h => h e0) | exact dFf (fun h => h e1) | (rw [dTt e2]; rfl) | (rw [dTt e3]; rfl) | (rw [dTt e4]; rfl)))) | (apply W.cKF; exact rfl; (focus ((rw [dTt e5]; rfl)))) | (apply WL.callS (f := 14); (iterate 4 exact rfl); exact rIn _ _ _ _ _ _ _ (hCa.ins.row.ext extA) (hCb.ins.row.ext extA)) | (apply WL.callS (f := 14); (iterate 4 exact rfl); exact rIn _ _ _ _ _ _ _ (hCa.outs.row.ext extA) (hCb.outs.row.ext extA)) | (apply WL.callS (f := 14); (iterate 4 exact rfl); exact rIn _ _ _ _ _ _ _ (hCa.bads.row.ext extA) (hCb.bads.row.ext extA)) | (apply WL.callS (f := 14); (iterate 4 exact rfl); exact rIn _ _ _ _ _ _ _ (hCa.cons.row.ext extA) (hCb.cons.row.ext extA)) | (first | apply WL.nil | refine WL.au (k := ?_) | (apply WL.gdF; exact rfl; exact rfl)) | (first | apply Z.tn | apply Z.tnr) | (first | apply W.seq | apply W.region | apply W.skip | apply W.ret | (apply W.condT; exact rfl)))
  exact Z.bd1 Try.results72 rfl fun m => ⟨congrArg Value.bool (dFf (show ¬ a.t = b.t from fun h => l0 (congrArg (fun c : CirT => c.lat.length) h))).symm, Ext.at extA m⟩
 by_cases l1 : a.gates.2.2.length = b.gates.2.2.length
 rotate_left
 ·skip
  refine Spec.of _ Try.func72 rfl Try.ntmps72 (by kernel_rfl) rfl ?_
  repeat' (first | (apply WL.box; (iterate 3 exact rfl); intro gb w' hb hge hc hx; have hcc := hc; obtain ⟨h1, h2, h3, _⟩ := hc; (first | (have h_0 := xA0; clear h_0; have hB := hcc; obtain ⟨xB0, xB1, xB2, xB3, xB4, xB5, xB6, xB7, xB8, _⟩ := hcc; (obtain ⟨gB, rfl⟩ : ∃ x, x = gb := ⟨_, rfl⟩; obtain ⟨wB, rfl⟩ : ∃ x, x = w' := ⟨_, rfl⟩; obtain ⟨hxB, rfl⟩ : ∃ x, x = hx := ⟨_, rfl⟩)) | (have hA := hcc; obtain ⟨xA0, xA1, xA2, xA3, xA4, xA5, xA6, xA7, xA8, _⟩ := hcc; (obtain ⟨gA, rfl⟩ : ∃ x, x = gb := ⟨_, rfl⟩; obtain ⟨wA, rfl⟩ : ∃ x, x = w' := ⟨_, rfl⟩; obtain ⟨hxA, rfl⟩ : ∃ x, x = hx := ⟨_, rfl⟩)))) | (apply WL.neStr tOk; (iterate 6 exact rfl)) | (apply WL.gT; exact rfl; exact rfl; exact dTt (show ((a.gates.2.2.length : Nat) : Int) ≠ (b.gates.2.2.length : Nat) by omega)) | (apply WL.gF; exact rfl; exact rfl; (focus (first | exact dFf (fun h => h e0) | exact dFf (fun h => h e1) | (rw [dTt e2]; rfl) | (rw [dTt e3]; rfl) | (rw [dTt e4]; rfl) | exact dFf (show ¬ ((a.lat.2.2.length : Nat) : Int) ≠ (b.lat.2.2.length : Nat) by omega)))) | (apply W.cKF; exact rfl; (focus ((rw [dTt e5]; rfl)))) | (apply WL.callS (f := 14); (iterate 4 exact rfl); exact rIn _ _ _ _ _ _ _ (hCa.ins.row.ext extA) (hCb.ins.row.ext extA)) | (apply WL.callS (f := 14); (iterate 4 exact rfl); exact rIn _ _ _ _ _ _ _ (hCa.outs.row.ext extA) (hCb.outs.row.ext extA)) | (apply WL.callS (f := 14); (iterate 4 exact rfl); exact rIn _ _ _ _ _ _ _ (hCa.bads.row.ext extA) (hCb.bads.row.ext extA)) | (apply WL.callS (f := 14); (iterate 4 exact rfl); exact rIn _ _ _ _ _ _ _ (hCa.cons.row.ext extA) (hCb.cons.row.ext extA)) | (first | apply WL.nil | refine WL.au (k := ?_) | (apply WL.gdF; exact rfl; exact rfl)) | (first | apply Z.tn | apply Z.tnr) | (first | apply W.seq | apply W.region | apply W.skip | apply W.ret | (apply W.condT; exact rfl)))
  exact Z.bd1 Try.results72 rfl fun m => ⟨congrArg Value.bool (dFf (show ¬ a.t = b.t from fun h => l1 (congrArg (fun c : CirT => c.gates.length) h))).symm, Ext.at extA m⟩
 by_cases l2 : a.syms.2.2.length = b.syms.2.2.length
 rotate_left
 ·skip
  refine Spec.of _ Try.func72 rfl Try.ntmps72 (by kernel_rfl) rfl ?_
  repeat' (first | (apply WL.box; (iterate 3 exact rfl); intro gb w' hb hge hc hx; have hcc := hc; obtain ⟨h1, h2, h3, _⟩ := hc; (first | (have h_0 := xA0; clear h_0; have hB := hcc; obtain ⟨xB0, xB1, xB2, xB3, xB4, xB5, xB6, xB7, xB8, _⟩ := hcc; (obtain ⟨gB, rfl⟩ : ∃ x, x = gb := ⟨_, rfl⟩; obtain ⟨wB, rfl⟩ : ∃ x, x = w' := ⟨_, rfl⟩; obtain ⟨hxB, rfl⟩ : ∃ x, x = hx := ⟨_, rfl⟩)) | (have hA := hcc; obtain ⟨xA0, xA1, xA2, xA3, xA4, xA5, xA6, xA7, xA8, _⟩ := hcc; (obtain ⟨gA, rfl⟩ : ∃ x, x = gb := ⟨_, rfl⟩; obtain ⟨wA, rfl⟩ : ∃ x, x = w' := ⟨_, rfl⟩; obtain ⟨hxA, rfl⟩ : ∃ x, x = hx := ⟨_, rfl⟩)))) | (apply WL.neStr tOk; (iterate 6 exact rfl)) | (apply WL.gF; exact rfl; exact rfl; (focus (first | exact dFf (fun h => h e0) | exact dFf (fun h => h e1) | (rw [dTt e2]; rfl) | (rw [dTt e3]; rfl) | (rw [dTt e4]; rfl) | exact dFf (show ¬ ((a.lat.2.2.length : Nat) : Int) ≠ (b.lat.2.2.length : Nat) by omega) | exact dFf (show ¬ ((a.gates.2.2.length : Nat) : Int) ≠ (b.gates.2.2.length : Nat) by omega)))) | (apply W.cKT; exact rfl; exact dTt (show ((a.syms.2.2.length : Nat) : Int) ≠ (b.syms.2.2.length : Nat) by omega)) | (apply W.cKF; exact rfl; (focus ((rw [dTt e5]; rfl)))) | (apply WL.callS (f := 14); (iterate 4 exact rfl); exact rIn _ _ _ _ _ _ _ (hCa.ins.row.ext extA) (hCb.ins.row.ext extA)) | (apply WL.callS (f := 14); (iterate 4 exact rfl); exact rIn _ _ _ _ _ _ _ (hCa.outs.row.ext extA) (hCb.outs.row.ext extA)) | (apply WL.callS (f := 14); (iterate 4 exact rfl); exact rIn _ _ _ _ _ _ _ (hCa.bads.row.ext extA) (hCb.bads.row.ext extA)) | (apply WL.callS (f := 14); (iterate 4 exact rfl); exact rIn _ _ _ _ _ _ _ (hCa.cons.row.ext extA) (hCb.cons.row.ext extA)) | (first | apply WL.nil | refine WL.au (k := ?_)) | (first | apply Z.tn | apply Z.tnr) | (first | apply W.seq | apply W.region | apply W.skip | apply W.ret))
  exact Z.bd1 Try.results72 rfl fun m => ⟨congrArg Value.bool (dFf (show ¬ a.t = b.t from fun h => l2 (congrArg (fun c : CirT => c.syms.length) h))).symm, Ext.at extA m⟩
 refine Spec.of _ Try.func72 rfl Try.ntmps72 (by kernel_rfl) rfl ?_
 repeat' (first | (apply WL.box; (iterate 3 exact rfl); intro gb w' hb hge hc hx; have hcc := hc; obtain ⟨h1, h2, h3, _⟩ := hc; (first | (have h_0 := xA0; clear h_0; have hB := hcc; obtain ⟨xB0, xB1, xB2, xB3, xB4, xB5, xB6, xB7, xB8, _⟩ := hcc; (obtain ⟨gB, rfl⟩ : ∃ x, x = gb := ⟨_, rfl⟩; obtain ⟨wB, rfl⟩ : ∃ x, x = w' := ⟨_, rfl⟩; obtain ⟨hxB, rfl⟩ : ∃ x, x = hx := ⟨_, rfl⟩)) | (have hA := hcc; obtain ⟨xA0, xA1, xA2, xA3, xA4, xA5, xA6, xA7, xA8, _⟩ := hcc; (obtain ⟨gA, rfl⟩ : ∃ x, x = gb := ⟨_, rfl⟩; obtain ⟨wA, rfl⟩ : ∃ x, x = w' := ⟨_, rfl⟩; obtain ⟨hxA, rfl⟩ : ∃ x, x = hx := ⟨_, rfl⟩)))) | (apply WL.neStr tOk; (iterate 6 exact rfl)) | (apply WL.gF; exact rfl; exact rfl; (focus (first | exact dFf (fun h => h e0) | exact dFf (fun h => h e1) | (rw [dTt e2]; rfl) | (rw [dTt e3]; rfl) | (rw [dTt e4]; rfl) | exact dFf (show ¬ ((a.lat.2.2.length : Nat) : Int) ≠ (b.lat.2.2.length : Nat) by omega) | exact dFf (show ¬ ((a.gates.2.2.length : Nat) : Int) ≠ (b.gates.2.2.length : Nat) by omega)))) | (apply W.cKF; exact rfl; (focus (first | (rw [dTt e5]; rfl) | exact dFf (show ¬ ((a.syms.2.2.length : Nat) : Int) ≠ (b.syms.2.2.length : Nat) by omega); done))) | (apply WL.callS (f := 14); (iterate 4 exact rfl); exact rIn _ _ _ _ _ _ _ (hCa.ins.row.ext extA) (hCb.ins.row.ext extA)) | (apply WL.callS (f := 14); (iterate 4 exact rfl); exact rIn _ _ _ _ _ _ _ (hCa.outs.row.ext extA) (hCb.outs.row.ext extA)) | (apply WL.callS (f := 14); (iterate 4 exact rfl); exact rIn _ _ _ _ _ _ _ (hCa.bads.row.ext extA) (hCb.bads.row.ext extA)) | (apply WL.callS (f := 14); (iterate 4 exact rfl); exact rIn _ _ _ _ _ _ _ (hCa.cons.row.ext extA) (hCb.cons.row.ext extA)) | (first | apply WL.nil | refine WL.au (k := ?_)) | apply Z.tn | (first | apply W.seq | apply W.region | apply W.block | apply W.skip))
 have hX : Ext w wB := extA
 have hA' := hA.ext hxB
 have ka2 : wB.cell? ⟨gA, 0 + 1 + 1, none⟩ = some (rowVal a.lat) := hA'.2.2.1
 have ka6 : wB.cell? ⟨gA, 0 + 1 + 1 + 1 + 1 + 1 + 1, none⟩ = some (rowVal a.gates) := hA'.2.2.2.2.2.2.1
 have ka7 : wB.cell? ⟨gA, 0 + 1 + 1 + 1 + 1 + 1 + 1 + 1, none⟩ = some (rowVal a.syms) := hA'.2.2.2.2.2.2.2.1
 have Ra0 := hCa.lat.row.ext hX
 have Rb0 := hCb.lat.row.ext hX
 have hln0 := Ra0.len
 refine W.loop1 a.lat.2.2.length (fun k => k <= a.lat.2.2.length /\ ∀ i, i < k -> a.lat.2.2[i]? = b.lat.2.2[i]?) (fun k => [(2, .pointer (some ⟨gA, 0, none⟩)), (3, .pointer (some ⟨gB, 0, none⟩)), (5, .int .i64 k)]) ⟨by omega, fun i hi => by omega⟩ (fun k h => h.1) ⟨rfl, rfl, rfl, trivial⟩ ?_
 rintro k ⟨hk, heq⟩
 by_cases hlt : k < a.lat.2.2.length
 ·obtain ⟨x, hx⟩ := getI a.lat.2.2 hlt
  obtain ⟨y, hy⟩ := getI b.lat.2.2 (show k < b.lat.2.2.length by omega)
  by_cases hxy : x = y
  ·subst hxy
   repeat' (first | (apply W.cKT; exact rfl; (focus (exact dTt (show ((k : Nat) : Int) < (a.lat.2.2.length : Int) by omega)))) | (apply W.cKF; exact rfl; exact dFf (fun h => h rfl)) | (apply QL.neqS tOk; (iterate 7 exact rfl); exact factLt) | (first | apply WL.nil | refine WL.au (k := ?_)) | (first | apply QL.nil | refine QL.au (k := ?_) | (apply QL.index tOk; (iterate 8 exact rfl); assumption; exact extA; exact rfl; omega; assumption; intro b off h; have hcc := h; first | (obtain ⟨h1, h2, h3, h4, h5, h6, _⟩ := h) | (obtain ⟨h1, h2, h3, _⟩ := h) | (obtain ⟨h1, h2, _⟩ := h) | (obtain ⟨h1, _⟩ := h))) | (first | apply Z.tn | apply Z.bkn) | (first | apply W.seq | apply W.region | apply W.block | apply W.skip | (apply W.rgD tMix; kernel_rfl)))
   exact Z.again1 ⟨by omega, eq_snoc heq hx hy rfl⟩ ⟨rfl, rfl, rfl, trivial⟩
  ·repeat' (first | (apply W.cKT; exact rfl; (focus (first | exact dTt (show ((k : Nat) : Int) < (a.lat.2.2.length : Int) by omega) | exact dTt (ne_iff enc3_inj hxy); done))) | (apply QL.neqS tOk; (iterate 7 exact rfl); exact factLt) | (first | apply WL.nil | refine WL.au (k := ?_)) | (first | apply QL.nil | refine QL.au (k := ?_) | (apply QL.index tOk; (iterate 8 exact rfl); assumption; exact extA; exact rfl; omega; assumption; intro b off h; have hcc := h; first | (obtain ⟨h1, h2, h3, h4, h5, h6, _⟩ := h) | (obtain ⟨h1, h2, h3, _⟩ := h) | (obtain ⟨h1, h2, _⟩ := h) | (obtain ⟨h1, _⟩ := h))) | (first | apply Z.tn | apply Z.tnr | apply Z.bkr) | (first | apply W.seq | apply W.region | apply W.block | apply W.skip | apply W.ret | (apply W.rgD tMix; kernel_rfl)))
   exact Z.bd1 Try.results72 rfl fun m => ⟨congrArg Value.bool (dFf (fun h => ne_at hx hy hxy (congrArg CirT.lat h))).symm, Ext.at extA m⟩
 have e6 := eq_all heq l0 (by omega)
 repeat' (first | (apply W.cKF; exact rfl; exact dFf (show ¬ ((k : Nat) : Int) < (a.lat.2.2.length : Int) by omega)) | (first | apply WL.nil | refine WL.au (k := ?_)) | (first | apply Z.tn | apply Z.tnx | apply Z.bkx) | (first | apply W.seq | apply W.region | apply W.block | apply W.exit))
 clear heq hlt hk
 have Ra1 := hCa.gates.row.ext hX
 have Rb1 := hCb.gates.row.ext hX
 have hln1 := Ra1.len
 refine W.loop1 a.gates.2.2.length (fun k => k <= a.gates.2.2.length /\ ∀ i, i < k -> a.gates.2.2[i]? = b.gates.2.2[i]?) (fun k => [(2, .pointer (some ⟨gA, 0, none⟩)), (3, .pointer (some ⟨gB, 0, none⟩)), (6, .int .i64 k)]) ⟨by omega, fun i hi => by omega⟩ (fun k h => h.1) ⟨rfl, rfl, rfl, trivial⟩ ?_
 rintro k ⟨hk, heq⟩
 by_cases hlt : k < a.gates.2.2.length
 ·obtain ⟨x, hx⟩ := getI a.gates.2.2 hlt
  obtain ⟨y, hy⟩ := getI b.gates.2.2 (show k < b.gates.2.2.length by omega)
  by_cases hxy : x = y
  ·subst hxy
   repeat' (first | (apply W.cKT; exact rfl; (focus (exact dTt (show ((k : Nat) : Int) < (a.gates.2.2.length : Int) by omega)))) | (apply W.cKF; exact rfl; exact dFf (fun h => h rfl)) | (apply QL.neqS tOk; (iterate 7 exact rfl); exact factGt) | (first | apply WL.nil | refine WL.au (k := ?_)) | (first | apply QL.nil | refine QL.au (k := ?_) | (apply QL.index tOk; (iterate 8 exact rfl); assumption; exact extA; exact rfl; omega; assumption; intro b off h; have hcc := h; first | (obtain ⟨h1, h2, h3, h4, h5, h6, _⟩ := h) | (obtain ⟨h1, h2, h3, _⟩ := h) | (obtain ⟨h1, h2, _⟩ := h) | (obtain ⟨h1, _⟩ := h))) | (first | apply Z.tn | apply Z.bkn) | (first | apply W.seq | apply W.region | apply W.block | apply W.skip | (apply W.rgD tMix; kernel_rfl)))
   exact Z.again1 ⟨by omega, eq_snoc heq hx hy rfl⟩ ⟨rfl, rfl, rfl, trivial⟩
  ·repeat' (first | (apply W.cKT; exact rfl; (focus (first | exact dTt (show ((k : Nat) : Int) < (a.gates.2.2.length : Int) by omega) | exact dTt (ne_iff enc3_inj hxy); done))) | (apply QL.neqS tOk; (iterate 7 exact rfl); exact factGt) | (first | apply WL.nil | refine WL.au (k := ?_)) | (first | apply QL.nil | refine QL.au (k := ?_) | (apply QL.index tOk; (iterate 8 exact rfl); assumption; exact extA; exact rfl; omega; assumption; intro b off h; have hcc := h; first | (obtain ⟨h1, h2, h3, h4, h5, h6, _⟩ := h) | (obtain ⟨h1, h2, h3, _⟩ := h) | (obtain ⟨h1, h2, _⟩ := h) | (obtain ⟨h1, _⟩ := h))) | (first | apply Z.tn | apply Z.tnr | apply Z.bkr) | (first | apply W.seq | apply W.region | apply W.block | apply W.skip | apply W.ret | (apply W.rgD tMix; kernel_rfl)))
   exact Z.bd1 Try.results72 rfl fun m => ⟨congrArg Value.bool (dFf (fun h => ne_at hx hy hxy (congrArg CirT.gates h))).symm, Ext.at extA m⟩
 have e7 := eq_all heq l1 (by omega)
 repeat' (first | (apply W.cKF; exact rfl; exact dFf (show ¬ ((k : Nat) : Int) < (a.gates.2.2.length : Int) by omega)) | (first | apply WL.nil | refine WL.au (k := ?_)) | (first | apply Z.tn | apply Z.tnx | apply Z.bkx) | (first | apply W.seq | apply W.region | apply W.block | apply W.exit))
 clear heq hlt hk
 have Ra2 := hCa.syms.row.ext hX
 have Rb2 := hCb.syms.row.ext hX
 have hln2 := Ra2.len
 refine W.loop1 a.syms.2.2.length (fun k => k <= a.syms.2.2.length /\ ∀ i, i < k -> a.syms.2.2[i]? = b.syms.2.2[i]?) (fun k => [(2, .pointer (some ⟨gA, 0, none⟩)), (3, .pointer (some ⟨gB, 0, none⟩)), (7, .int .i64 k)]) ⟨by omega, fun i hi => by omega⟩ (fun k h => h.1) ⟨rfl, rfl, rfl, trivial⟩ ?_
 rintro k ⟨hk, heq⟩
 by_cases hlt : k < a.syms.2.2.length
 ·obtain ⟨x, hx⟩ := getI a.syms.2.2 hlt
  obtain ⟨y, hy⟩ := getI b.syms.2.2 (show k < b.syms.2.2.length by omega)
  by_cases hxy : x = y
  ·subst hxy
   repeat' (first | (apply W.cKT; exact rfl; (focus (exact dTt (show ((k : Nat) : Int) < (a.syms.2.2.length : Int) by omega)))) | (apply W.cKF; exact rfl; exact dFf (fun h => h rfl)) | (apply QL.neqS tOk; (iterate 7 exact rfl); exact factSy) | (first | apply WL.nil | refine WL.au (k := ?_)) | (first | apply QL.nil | refine QL.au (k := ?_) | (apply QL.index tOk; (iterate 8 exact rfl); assumption; exact extA; exact rfl; omega; assumption; intro b off h; have hcc := h; first | (obtain ⟨h1, h2, h3, h4, h5, h6, _⟩ := h) | (obtain ⟨h1, h2, h3, _⟩ := h) | (obtain ⟨h1, h2, _⟩ := h) | (obtain ⟨h1, _⟩ := h))) | (first | apply Z.tn | apply Z.bkn) | (first | apply W.seq | apply W.region | apply W.block | apply W.skip | (apply W.rgD tMix; kernel_rfl)))
   exact Z.again1 ⟨by omega, eq_snoc heq hx hy rfl⟩ ⟨rfl, rfl, rfl, trivial⟩
  ·repeat' (first | (apply W.cKT; exact rfl; (focus (first | exact dTt (show ((k : Nat) : Int) < (a.syms.2.2.length : Int) by omega) | exact dTt (ne_iff encY_inj hxy); done))) | (apply QL.neqS tOk; (iterate 7 exact rfl); exact factSy) | (first | apply WL.nil | refine WL.au (k := ?_)) | (first | apply QL.nil | refine QL.au (k := ?_) | (apply QL.index tOk; (iterate 8 exact rfl); assumption; exact extA; exact rfl; omega; assumption; intro b off h; have hcc := h; first | (obtain ⟨h1, h2, h3, h4, h5, h6, _⟩ := h) | (obtain ⟨h1, h2, h3, _⟩ := h) | (obtain ⟨h1, h2, _⟩ := h) | (obtain ⟨h1, _⟩ := h))) | (first | apply Z.tn | apply Z.tnr | apply Z.bkr) | (first | apply W.seq | apply W.region | apply W.block | apply W.skip | apply W.ret | (apply W.rgD tMix; kernel_rfl)))
   exact Z.bd1 Try.results72 rfl fun m => ⟨congrArg Value.bool (dFf (fun h => ne_at hx hy hxy (congrArg CirT.syms h))).symm, Ext.at extA m⟩
 have e8 := eq_all heq l2 (by omega)
 repeat' (first | (apply W.cKF; exact rfl; exact dFf (show ¬ ((k : Nat) : Int) < (a.syms.2.2.length : Int) by omega)) | (first | apply WL.nil | refine WL.au (k := ?_)) | (first | apply Z.tn | apply Z.tnx | apply Z.bkx) | (first | apply W.seq | apply W.region | apply W.ret | apply W.exit))
 clear heq hlt hk
 exact Z.bd1 Try.results72 rfl fun m => ⟨congrArg Value.bool (dTt (show a.t = b.t by unfold Circ.t; rw [e0, e1, e2, e3, e4, e5, e6, e7, e8])).symm, Ext.at extA m⟩

theorem Known.frz {α : Type} {s : Nat} {enc : α -> List Value} {el b cap : Nat} {w0 w2 : World} {a : Option Addr} {l : List α} (hE : Enc s enc) (h : Own s enc el b w2 a cap l) : Known w0 (frz b w2) (fun w => Row s enc w a l) := fun w _ hR => by
 refine (h.row hE).keep fun k hk => ?_
 obtain ⟨h1, h2⟩ := h.blk_lt k hk
 have hm : pfro k (w2.heap[k]?) ∈ Lt.frz b w2 := by
  unfold Lt.frz
  exact List.mem_map.2 ⟨k - b, List.mem_range.2 (by omega), by simp only [show b + (k - b) = k by omega]⟩
 exact hR _ hm

section cls
variable {P : Program} {T : Tab} {N d : Nat} {e : Env} {w : World} {C : World -> Prop} {ops l : List Oper} {Kf : Act -> Prop} {tt t : TypeId} {ps : String} {af : Array Edge} {g : Option (Nat × Bool)} {x : Operand}
theorem FL.loadK {p : Addr} {v : Value} {i : TI} (hT : OkTab P T) (hg : gate ops e g = some true) (hd : Nat.blt d N = true) (hx : ev e x = some (.pointer (some p))) (ht : tget T t = some i) (ha : isAggD i.desc = false) (hv : ∀ w', C w' -> w'.cell? p = some v)
  (k : FL P N ops.toArray C l ((d, v) :: e) w Kf) : FL P N ops.toArray C (⟨some d, .load t x, tt, ps, af, g⟩ :: l) e w Kf := by
 refine FL.step hg hd ?_ k
 intro ρ hρ w' hw'
 have h1 := run_isAgg' (hT.at ht); rw [ha] at h1
 have h2 := hv w' hw'
 simp [execOp, hρ _ _ hx, Instr.loadAt, Instr.sureAddr, loadVar, h1, h2]
end cls
structure GrC (gf gx : Nat) (v12 v13 u0 u1 : Value) (w : World) : Prop where
 c12 : w.cell? ⟨gf, 0 + 12, none⟩ = some v12
 c13 : w.cell? ⟨gf, 0 + 13, none⟩ = some v13
 g : Cells w gx 0 [u0, u1]
theorem GrC.ext {gf gx : Nat} {v12 v13 u0 u1 : Value} {w w' : World} (h : GrC gf gx v12 v13 u0 u1 w) (hx : Ext w w') : GrC gf gx v12 v13 u0 u1 w' := ⟨hx.cell h.c12, hx.cell h.c13, h.g.ext hx⟩
theorem GrC.at {gf gx : Nat} {v12 v13 u0 u1 : Value} {w : World} (h : GrC gf gx v12 v13 u0 u1 w) (q : Nat) : GrC gf gx v12 v13 u0 u1 (at' w q) := h.ext ((Ext.refl w).at q)
theorem GrC.of {B : Nat} {w : World} {ps : List Piece} {m : UM} {gx i j nf cf ns cs : Nat} {af as' : Option Addr} {u0 u1 : Value} (hS : Lt.Sep B w ps) (hi : ps[i]? = some (pcell m.gf (m.vals af nf cf as' ns cs).toArray 126)) (hj : ps[j]? = some (pcell gx #[u0, u1] 129)) : GrC m.gf gx (.slice af nf cf) (.slice as' ns cs) u0 u1 w :=
 ⟨(UC.of (cHp (hS.cell hi))).frames, (UC.of (cHp (hS.cell hi))).states, cHp (hS.cell hj)⟩
theorem Sep.pickL {B : Nat} {w : World} {pre tl : List Piece} (L : List Nat) (d : Piece) (hS : Lt.Sep B w (pre ++ tl)) (hok : (L.all (fun i => Nat.blt i pre.length) && decide L.Nodup) = true) : Lt.Sep B w (L.map (fun i => pre.getD i d) ++ tl) := by
 simp only [Bool.and_eq_true, List.all_eq_true, decide_eq_true_eq] at hok
 obtain ⟨h1, h2⟩ := hok
 have hl : (L.map (fun i => pre.getD i d)).length = L.length := List.length_map _
 have hL : ∀ i, i < L.length -> ∃ k, L[i]? = some k /\ k < pre.length := fun i hi => by
  obtain ⟨k, hk⟩ := getI L hi
  exact ⟨k, hk, by simpa [Nat.blt_eq] using h1 k (List.mem_of_getElem? hk)⟩
 refine hS.pick (fun i => if i < L.length then L.getD i 0 else i - L.length + pre.length) (fun i x h => ?_) (fun i j hi hj hne => ?_)
 ·by_cases hi : i < L.length
  ·obtain ⟨k, hk, hkl⟩ := hL i hi
   rw [List.getElem?_append_left (by omega), List.getElem?_map, hk] at h
   obtain ⟨y, hy⟩ := getI pre hkl
   have h' : pre.getD k d = x := Option.some.inj h
   rw [gDo hy] at h'
   show (pre ++ tl)[if i < L.length then L.getD i 0 else i - L.length + pre.length]? = some x
   rw [if_pos hi, gDo hk, List.getElem?_append_left hkl, hy, h']
  ·rw [List.getElem?_append_right (by omega), hl] at h
   show (pre ++ tl)[if i < L.length then L.getD i 0 else i - L.length + pre.length]? = some x
   rw [if_neg hi, List.getElem?_append_right (by omega), Nat.add_sub_cancel]; exact h
 ·show (if i < L.length then L.getD i 0 else i - L.length + pre.length) ≠ (if j < L.length then L.getD j 0 else j - L.length + pre.length)
  by_cases hi' : i < L.length
  ·obtain ⟨k, hk, hkl⟩ := hL i hi'
   by_cases hj' : j < L.length
   ·obtain ⟨k2, hk2, hkl2⟩ := hL j hj'
    rw [if_pos hi', if_pos hj', gDo hk, gDo hk2]
    intro he
    subst he
    have := List.pairwise_iff_getElem.1 (List.nodup_iff_pairwise_ne.1 h2)
    obtain ⟨a1, a2⟩ := List.getElem?_eq_some_iff.1 hk
    obtain ⟨b1, b2⟩ := List.getElem?_eq_some_iff.1 hk2
    rcases Nat.lt_or_gt_of_ne hne with hlt | hlt
    ·exact this i j a1 b1 hlt (by rw [a2, b2])
    ·exact this j i b1 a1 hlt (by rw [a2, b2])
   ·rw [if_pos hi', if_neg hj', gDo hk]; omega
  ·by_cases hj' : j < L.length
   ·obtain ⟨k2, hk2, hkl2⟩ := hL j hj'
    rw [if_neg hi', if_pos hj', gDo hk2]; omega
   ·rw [if_neg hi', if_neg hj']; omega
def pnone : Piece := ⟨none, fun _ => True, fun _ _ => trivial⟩

noncomputable abbrev foldW (c : Circ) (aN : Option Addr) (cN : Nat) (aA : Option Addr) (cA : Nat) (vs vp vo : Value) : List Value :=
 [.int .i64 c.max, rowVal c.ins, rowVal c.lat, rowVal c.outs, rowVal c.bads, rowVal c.cons, rowVal c.gates, rowVal c.syms, .string c.com,
  .slice aN (cNet c.t).1.length cN, .slice aA (cNet c.t).2.length cA, vs, vp, vo]
abbrev zeroW : List Value := [.int .i64 0, .slice none 0 0, .slice none 0 0, .slice none 0 0, .slice none 0 0, .slice none 0 0, .slice none 0 0, .slice none 0 0, .string ⟨#[]⟩, .slice none 0 0, .slice none 0 0, .slice none 0 0, .pointer none, .slice none 0 0]
noncomputable abbrev foP (B gs gi g9 gc g8 m : Nat) (a : Option Addr) (cap r : Nat) (N : List (Int × Int)) (c : Circ) (v9 : List Value) (l : List Int) (F : List Piece) : List Piece :=
 stN B gs a cap r N ++ (prow 1 encI 3 B (some ⟨gi, 0, none⟩) m l :: pcell g9 v9.toArray 114 :: pcell gc c.vals.toArray 27 :: pcell g8 zeroW.toArray 114 :: F)
theorem fill1_cnt (m : Nat) (inp : List Int) : ∀ k, k <= inp.length -> (fill1 m inp k).2 = k /\ (fill1 m inp k).1.length = m
 | 0, _ => ⟨rfl, by simp [fill1]⟩
 | k + 1, hk => by
  obtain ⟨z, hz⟩ := getI inp (show k < _ by omega)
  obtain ⟨i1, i2⟩ := fill1_cnt m inp k (by omega)
  rw [fill1_succ hz]
  unfold putFC
  exact ⟨by dsimp only; omega, by rw [List.length_set]; exact i2⟩
theorem fill2_cnt (I m : Nat) (inp la : List Int) : ∀ k, k <= la.length -> (fill2 I m inp la k).2 = inp.length + k /\ (fill2 I m inp la k).1.length = m
 | 0, _ => fill1_cnt m inp inp.length (Nat.le_refl _)
 | k + 1, hk => by
  obtain ⟨z, hz⟩ := getI la (show k < _ by omega)
  obtain ⟨i1, i2⟩ := fill2_cnt I m inp la k (by omega)
  rw [fill2_succ hz]
  unfold putFC
  exact ⟨by dsimp only; omega, by rw [List.length_set]; exact i2⟩
theorem fill1_put {m : Nat} {inp : List Int} {k : Nat} {z : Int} (h : inp[k]? = some z) : (fill1 m inp (k + 1)).1 = (fill1 m inp k).1.set z.toNat (2 * ((k : Int) + 1)) := by
 rw [fill1_succ h]
 unfold putFC
 rw [(fill1_cnt m inp k (Nat.le_of_lt (lGt h))).1, Nat.zero_add]
theorem fill2_put {I m : Nat} {inp la : List Int} {k : Nat} {z : Int} (h : la[k]? = some z) : (fill2 I m inp la (k + 1)).1 = (fill2 I m inp la k).1.set (I + z.toNat) (2 * (((inp.length + k : Nat) : Int) + 1)) := by
 rw [fill2_succ h]
 unfold putFC
 rw [(fill2_cnt I m inp la k (Nat.le_of_lt (lGt h))).1]
theorem frz_ltF {B b k : Nat} {w w2 : World} {ps : List Piece} (hS : Lt.Sep B w ps) (hsub : ∀ p ∈ Lt.frz b w2, p ∈ ps) (h1 : b <= k) (h2 : k < w2.heap.size) : k < w.heap.size := by
 have hm : pfro k (w2.heap[k]?) ∈ Lt.frz b w2 := by
  unfold Lt.frz
  exact List.mem_map.2 ⟨k - b, List.mem_range.2 (by omega), by simp only [show b + (k - b) = k by omega]⟩
 obtain ⟨i, hi⟩ := List.mem_iff_getElem?.1 (hsub _ hm)
 exact ((hS.holds i _ hi).2 k rfl).2
structure FoC (gc g9 : Nat) (v1 v12 : Value) (w : World) : Prop where
 c1 : w.cell? ⟨gc, 0 + 1, none⟩ = some v1
 c12 : w.cell? ⟨g9, 0 + 12, none⟩ = some v12
theorem FoC.at {gc g9 : Nat} {v1 v12 : Value} {w : World} (h : FoC gc g9 v1 v12 w) (q : Nat) : FoC gc g9 v1 v12 (at' w q) := ⟨((Ext.refl w).at q).cell h.c1, ((Ext.refl w).at q).cell h.c12⟩
theorem coi_fold (c : Circ) (st la inp : List Int) (aS aL aI : Option Addr) (cS cL cI : Nat) (w : World) (hC : CAt w c) (hg : GoodC' c.t) (hz : SzC c.t 100000) (hF : FoldOk c.t st la inp) (hll : la.length <= 100000) (hil : inp.length <= 100000) (RS0 : Row 1 encI w aS st) (RL0 : Row 1 encI w aL la) (RI0 : Row 1 encI w aI inp) :
  Lt.Spec Try.prog 74 [c.val, .slice aS st.length cS, .slice aL la.length cL, .slice aI inp.length cI] w (fun v w' => Ext w w' /\ ∃ aN cN aA cA gs r a cap aO cO, v = .agg (foldW c aN cN aA cA (.slice aS st.length cS) (.pointer (some ⟨gs, 0, none⟩)) (.slice aO (foldV c.t st la inp).1.length cO)).toArray /\
   Row 2 encN w' aN (cNet c.t).1 /\ Row 1 encI w' aA (cNet c.t).2 /\ Row 1 encI w' aO (foldV c.t st la inp).1 /\ Lt.Sep w.heap.size w' (stN w.heap.size gs a cap r (foldV c.t st la inp).2) /\ (∀ k, (blk aN = some k ∨ blk aA = some k ∨ blk aO = some k) -> w.heap.size <= k /\ k < w'.heap.size)) := by
 have z1 : c.ins.2.2.length <= 100000 := hz.1
 have z2 : c.lat.2.2.length <= 100000 := hz.2.1
 have hnl := net_len hg hz
 refine Spec.of _ Try.func74 rfl Try.ntmps74 (by kernel_rfl) rfl ?_
 repeat' (first | (apply WL.box; (iterate 3 exact rfl); intro gc wc hbc hgec hc hxc; have hcc := hc; obtain ⟨h1, h2, h3, _⟩ := hc; (have hcells := hcc; have hSc := Sep.newCell Sep.none' hxc hbc hgec (Nat.le_refl _))) | (show WL _ _ _ (⟨some 8, .alloc _, _, _, _, _⟩ :: _) _ _ _; apply WL.alloc tOk; (iterate 3 exact rfl); intro g8 w1 hb8 hge8 hx8; have hb8' : w1.heap[g8]? = some (.cells zeroW.toArray 114 (0, 0)) := hb8; have hS1 := Sep.newCell hSc hx8 hb8' hge8 (Below.size hxc)) | (apply WL.call (f := 84); (iterate 4 exact rfl); exact coi_of c _ (hC.ext (hxc.trans hx8)) hg hz; rintro v' w2 ⟨hx2, aN, cN, aA, cA, rfl, hON, hOA⟩; have hS2 := Sep.freeze hS1 hx2 (Below.size (hxc.trans hx8))) | (apply WL.call (f := 54); (iterate 4 exact rfl); exact aig_NewV w2 w _ ((hxc.trans hx8).trans hx2) hS2; rintro v' w3 ⟨hx3, gs, r, rfl, hS3⟩) | (apply WL.build tOk; (iterate 7 exact rfl); kernel_rfl) | (show WL _ _ _ (⟨some 9, .alloc _, _, _, _, _⟩ :: _) _ _ _; apply WL.alloc tOk; (iterate 3 exact rfl); intro g9 w4 hb9 hge9 hx9; have hB3 := Below.size ((hxc.trans hx8).trans (hx2.trans hx3)); have hS4 := Sep.newCell hS3 hx9 hb9 hge9 (Below.size ((hxc.trans hx8).trans (hx2.trans hx3)))) | (show WL _ _ _ (⟨none, .store _ (.tmp 9) _, _, _, _, _⟩ :: _) _ _ _; apply WL.storeB (w0 := w3) tOk; (iterate 4 exact rfl); exact hb9; exact Ext.refl _; kernel_rfl; kernel_rfl; kernel_rfl; exact hx9; exact hge9; intro w5 hb5 hc5 hX5 hU5; obtain ⟨y0, y1, y2, y3, y4, y5, y6, y7, y8, _⟩ := Cells.ext ((hx8.trans hx2).trans (hx3.trans hX5)) hcells) | (apply WL.makeC (w0 := w5) (z := (0:Int)) tOk; (iterate 9 exact rfl); exact eIk; exact rfl; exact rfl; exact extA; omega; intro gi w6 hOi hgei hxi) | (first | apply WL.nil | refine WL.au (k := ?_)) | apply Z.tn | (first | apply W.seq | apply W.region | apply W.block))
 obtain ⟨v9, hv9⟩ : ∃ v9, v9 = foldW c aN cN aA cA (.slice aS st.length cS) (.pointer (some ⟨gs, 0, none⟩)) (.slice none 0 0) := ⟨_, rfl⟩
 have hb5' : w5.heap[g9]? = some (.cells v9.toArray 114 (0, 0)) := by rw [hv9]; exact hb5
 have hB4 : w.heap.size <= w4.heap.size := Nat.le_trans hB3 (Below.size hx9)
 have hX35 : Ext w3 w5 := hX5
 have hXw5 : Ext w w5 := ((hxc.trans hx8).trans (hx2.trans hx3)).trans hX35
 have hS5 := Sep.uCl (i := 0) rfl hU5 hb5' hS4 (Ext.refl _) hB4
 have hM : ((c.ins.2.2.length : Int) + (c.lat.2.2.length : Int)).toNat = c.ins.2.2.length + c.lat.2.2.length := by omega
 have hMl : (List.replicate (c.ins.2.2.length + c.lat.2.2.length) (0 : Int)).length = c.ins.2.2.length + c.lat.2.2.length := List.length_replicate
 obtain ⟨M, hMM⟩ : ∃ M, M = c.ins.2.2.length + c.lat.2.2.length := ⟨_, rfl⟩
 rw [hM] at hOi ⊢
 rw [<- hMM] at hOi hMl ⊢
 have hS6 := Sep.newRow hS5 hxi (hOi.base (Below.size hXw5)) (fun k hk => by cases hk; exact hgei) (Below.size hXw5)
 have hS7 : Lt.Sep w.heap.size w6 (foP w.heap.size gs gi g9 gc g8 M none 0 r [] c v9 (List.replicate M 0) (Lt.frz w1.heap.size w2)) := Sep.pickL (pre := [_, _, _, _, _, _, _]) [2, 3, 4, 0, 1, 6, 5] pnone hS6 rfl
 have hB1 : w.heap.size <= w1.heap.size := Below.size (hxc.trans hx8)
 have hkN : Known w (Lt.frz w1.heap.size w2) (fun w' => Row 2 encN w' aN (cNet c.t).1) := Known.frz encN_ok hON
 have hkA : Known w (Lt.frz w1.heap.size w2) (fun w' => Row 1 encI w' aA (cNet c.t).2) := Known.frz eIk hOA
 have hbN : ∀ k, blk aN = some k -> w1.heap.size <= k /\ k < w2.heap.size := fun k hk => hON.blk_lt k hk
 have hbA : ∀ k, blk aA = some k -> w1.heap.size <= k /\ k < w2.heap.size := fun k hk => hOA.blk_lt k hk
 obtain ⟨F, hF0⟩ : ∃ F, F = Lt.frz w1.heap.size w2 := ⟨_, rfl⟩
 rw [<- hF0] at hS7 hkN hkA
 have hX6 : Ext w w6 := hXw5.trans hxi
 clear hS1 hSc hS2 hS3 hS4 hS5 hS6 hOi hb5 hb5' hc5 hb9 hb8 hb8' hbc hU5
 have hg9 : ∀ (w9 : World) (a : Option Addr) (cap : Nat) (N : List (Int × Int)) (l : List Int), Lt.Sep w.heap.size w9 (foP w.heap.size gs gi g9 gc g8 M a cap r N c v9 l F) -> Cells w9 g9 0 (foldW c aN cN aA cA (.slice aS st.length cS) (.pointer (some ⟨gs, 0, none⟩)) (.slice none 0 0)) /\ Cells w9 gc 0 c.vals := fun w9 a cap N l h => ⟨by
  have h1 := cHp (h.cell (i := 4) (gb := g9) rfl)
  rw [hv9] at h1; exact h1, cHp (h.cell (i := 5) (gb := gc) rfl)⟩
 refine W.loopW inp.length (fun k w' => k <= inp.length /\ Ext w w' /\ ∃ a cap, Lt.Sep w.heap.size w' (foP w.heap.size gs gi g9 gc g8 M a cap r (List.replicate k (-1, 0)) c v9 (fill1 M inp k).1 F))
  (fun k => [(1, .slice aS st.length cS), (2, .slice aL la.length cL), (4, .pointer (some ⟨gc, 0, none⟩)), (8, .pointer (some ⟨g8, 0, none⟩)), (9, .pointer (some ⟨g9, 0, none⟩)), (10, .slice (some ⟨gi, 0, none⟩) M M), (30, .slice aI inp.length cI), (31, .int .i64 inp.length), (32, .int .i64 k)]) ⟨Nat.zero_le _, hX6, none, 0, hS7⟩ (fun k w' h => h.1) (by repeat' first | exact trivial | (refine And.intro ?_ ?_) | exact rfl | (rw [hMl]; exact rfl)) ?_
 clear hS7 y0 y1 y2 y3 y4 y5 y6 y7 y8
 rintro k w9 ⟨hk, hX9, a9, cap9, hS⟩
 obtain ⟨q1, q2⟩ := fill1_cnt M inp k hk
 have hrk : (List.replicate k ((-1 : Int), (0 : Int))).length = k := List.length_replicate
 by_cases hlt : k < inp.length
 ·obtain ⟨z, hz'⟩ := getI inp hlt
  have RIk := RI0.ext hX9
  have hzb := hF.inp z (List.mem_of_getElem? hz')
  have hzI : z < (c.ins.2.2.length : Int) := hzb.2
  have e1 := fill1_put (m := M) hz'
  obtain ⟨y, hy⟩ := getI (fill1 M inp k).1 (show z.toNat < _ by omega)
  obtain ⟨_, _, _, _, _, _, _, _, _, _, _, _, u12, _⟩ := (hg9 _ _ _ _ _ hS).1
  repeat' (first | (apply W.cKT; exact rfl; exact dTt (by omega)) | (apply WL.call (f := 90); (iterate 4 exact rfl); exact aig_InputV gs r _ _ (List.replicate k (-1, 0)) _ _ w hX9 hS (by omega); rintro v' w8 ⟨hX8', a8, cap8, rfl, hS⟩; (try simp only [List.set_cons_zero, List.set_cons_succ] at hS); (try have hR1 := hS.row (i := 1) rfl); (try have hR3 := hS.row (i := 3) rfl); (try have hC0 := hS.cell (i := 0) rfl); (try have hD0 := (cHp hC0).1); (try have hE0 := (cHp hC0).2.1); (try have hC4 := hS.cell (i := 4) rfl); (try have hM2 := hS.map (i := 2) rfl)) | (apply WL.indexO tOk; (iterate 8 exact rfl); assumption; exact extA; exact eIk; omega; omega; assumption; intro gb ha hc; cases ha; have hcc := hc; first | (obtain ⟨h1, h2, h3, _⟩ := hc) | (obtain ⟨h1, h2, _⟩ := hc) | (obtain ⟨h1, _⟩ := hc)) | (apply WL.storeO tOk; (iterate 4 exact rfl); assumption; exact extA; (iterate 3 exact rfl); exact eIk; assumption; exact rfl; exact extA; intro w' hO hX' hU; (replace hS := Sep.uRw (i := 3) rfl hU hO (.inl rfl) hS extA (by (exact Below.size extA))); (try simp only [List.set_cons_zero, List.set_cons_succ] at hS); (try have hR1 := hS.row (i := 1) rfl); (try have hR3 := hS.row (i := 3) rfl); (try have hC0 := hS.cell (i := 0) rfl); (try have hD0 := (cHp hC0).1); (try have hE0 := (cHp hC0).2.1); (try have hC4 := hS.cell (i := 4) rfl); (try have hM2 := hS.map (i := 2) rfl)) | (first | apply WL.nil | refine WL.au (k := ?_) | (apply WL.index tOk; (iterate 8 exact rfl); assumption; exact extA; exact rfl; omega; assumption; intro b off h; have hcc := h; first | (obtain ⟨h1, h2, h3, h4, h5, h6, _⟩ := h) | (obtain ⟨h1, h2, h3, _⟩ := h) | (obtain ⟨h1, h2, _⟩ := h) | (obtain ⟨h1, _⟩ := h))) | (first | apply Z.tn | apply Z.bkn) | (first | apply W.seq | apply W.region | apply W.block | apply W.skip))
  rw [List.length_replicate, <- e1, <- List.replicate_succ'] at hS
  exact Z.agW ⟨by omega, by assumption, a8, cap8, hS⟩ (by repeat' first | exact trivial | (refine And.intro ?_ ?_) | exact rfl)
 obtain rfl : k = inp.length := by omega
 have e1 : (fill1 M inp inp.length).1 = (fill2 c.ins.2.2.length M inp la 0).1 := rfl
 rw [e1, show inp.length = inp.length + 0 from rfl] at hS
 repeat' (first | (apply W.cKF; exact rfl; exact dFf (by omega)) | (first | apply WL.nil | refine WL.au (k := ?_)) | (first | apply Z.tn | apply Z.tnx | apply Z.bkx) | (first | apply W.seq | apply W.region | apply W.block | apply W.exit))
 refine W.loopW la.length (fun k w' => k <= la.length /\ Ext w w' /\ ∃ a cap, Lt.Sep w.heap.size w' (foP w.heap.size gs gi g9 gc g8 M a cap r (List.replicate (inp.length + k) (-1, 0)) c v9 (fill2 c.ins.2.2.length M inp la k).1 F))
  (fun k => [(1, .slice aS st.length cS), (4, .pointer (some ⟨gc, 0, none⟩)), (8, .pointer (some ⟨g8, 0, none⟩)), (9, .pointer (some ⟨g9, 0, none⟩)), (10, .slice (some ⟨gi, 0, none⟩) M M), (43, .slice aL la.length cL), (44, .int .i64 la.length), (45, .int .i64 k)]) ⟨Nat.zero_le _, hX9, a9, cap9, hS⟩ (fun k w' h => h.1) (by repeat' first | exact trivial | (refine And.intro ?_ ?_) | exact rfl) ?_
 clear hS
 rintro k wk ⟨hk2, hXk, ak, capk, hS⟩
 obtain ⟨q3, q4⟩ := fill2_cnt c.ins.2.2.length M inp la k hk2
 have hrk2 : (List.replicate (inp.length + k) ((-1 : Int), (0 : Int))).length = inp.length + k := List.length_replicate
 by_cases hlt2 : k < la.length
 ·obtain ⟨z, hz'⟩ := getI la hlt2
  have RLk := RL0.ext hXk
  have hzb := hF.la z (List.mem_of_getElem? hz')
  have hzI : z < (c.lat.2.2.length : Int) := hzb.2
  have e2 := fill2_put (I := c.ins.2.2.length) (m := M) (inp := inp) hz'
  have ez : ((c.ins.2.2.length : Int) + z).toNat = c.ins.2.2.length + z.toNat := by omega
  obtain ⟨y, hy⟩ := getI (fill2 c.ins.2.2.length M inp la k).1 (show ((c.ins.2.2.length : Int) + z).toNat < _ by omega)
  have hOi : Own 1 encI 3 w.heap.size wk (some ⟨gi, 0, none⟩) M (fill2 c.ins.2.2.length M inp la k).1 := hS.row (i := 3) rfl
  have hC0 : FoC gc g9 (rowVal c.ins) (.pointer (some ⟨gs, 0, none⟩)) wk := by
   obtain ⟨h1, h2⟩ := hg9 _ _ _ _ _ hS
   obtain ⟨_, _, _, _, _, _, _, _, _, _, _, _, u12, _⟩ := h1
   obtain ⟨_, u1, _⟩ := h2
   exact ⟨u1, u12⟩
  repeat' (first | (apply W.cKT; exact rfl; exact dTt (by omega)) | (show W _ _ (.region 11 _ _) _ _ _; apply W.regionG (.fl true 0 (.fl true 1 (.fl true 4 (.fl true 6 (.fl false 2 (.fl true 3 (.fl true 5 (.fl false 7 (.br 8 (.fl true 9 (.br 10 .done .stop)) .stop))))))))) [5, 7, 8] (FoC gc g9 (rowVal c.ins) (.pointer (some ⟨gs, 0, none⟩))) tMix; kernel_rfl) | (apply FL.loadK tOk; (iterate 5 exact rfl); (first | exact fun w9 h9 => h9.c1 | exact fun w9 h9 => h9.c12)) | (apply FL.indexO tOk; (iterate 8 exact rfl); (exact hOi2); exact Ext.refl _; exact eIk; exact q4; omega; exact hy; intro gS hgS hcS; cases hgS) | (apply WL.call (f := 90); (iterate 4 exact rfl); exact aig_InputV gs r _ _ (List.replicate (inp.length + k) (-1, 0)) _ _ w hXk hS (by omega); rintro v' w8 ⟨hX8', a8, cap8, rfl, hS8⟩; have hOi2 : Own 1 encI 3 w.heap.size w8 (some ⟨gi, 0, none⟩) M (fill2 c.ins.2.2.length M inp la k).1 := hS8.row (i := 3) rfl; have hS := hS8; have hC2 : FoC gc g9 (rowVal c.ins) (.pointer (some ⟨gs, 0, none⟩)) w8 := (by obtain ⟨h1, h2⟩ := hg9 _ _ _ _ _ hS8; obtain ⟨_, _, _, _, _, _, _, _, _, _, _, _, u12, _⟩ := h1; obtain ⟨_, u1, _⟩ := h2; exact ⟨u1, u12⟩)) | (apply WL.storeO tOk; (iterate 4 exact rfl); assumption; exact extA; (iterate 3 exact rfl); exact eIk; assumption; exact rfl; exact extA; intro w' hO hX' hU; (replace hS := Sep.uRw (i := 3) rfl hU hO (.inl rfl) hS extA (by (exact Below.size extA))); (try simp only [List.set_cons_zero, List.set_cons_succ] at hS); (try have hR1 := hS.row (i := 1) rfl); (try have hR3 := hS.row (i := 3) rfl); (try have hC0 := hS.cell (i := 0) rfl); (try have hD0 := (cHp hC0).1); (try have hE0 := (cHp hC0).2.1); (try have hC4 := hS.cell (i := 4) rfl); (try have hM2 := hS.map (i := 2) rfl); (have hC3 : FoC gc g9 (rowVal c.ins) (.pointer (some ⟨gs, 0, none⟩)) w' := (by obtain ⟨h1, h2⟩ := hg9 _ _ _ _ _ hS; obtain ⟨_, _, _, _, _, _, _, _, _, _, _, _, u12, _⟩ := h1; obtain ⟨_, u1, _⟩ := h2; exact ⟨u1, u12⟩))) | (apply SG.fl1; exact rfl; intro q; exact hC0.at q) | (apply Z.sgE; intro q; first | exact hC3.at q | exact hC2.at q | exact hC0.at q) | (first | apply WL.nil | refine WL.au (k := ?_) | (apply WL.index tOk; (iterate 8 exact rfl); assumption; exact extA; exact rfl; omega; assumption; intro b off h; have hcc := h; first | (obtain ⟨h1, h2, h3, h4, h5, h6, _⟩ := h) | (obtain ⟨h1, h2, h3, _⟩ := h) | (obtain ⟨h1, h2, _⟩ := h) | (obtain ⟨h1, _⟩ := h))) | (first | apply SG.done | (apply SG.fl0; exact rfl) | (apply SG.br1; exact rfl)) | (first | apply FL.nilS | refine FL.au (k := ?_)) | (first | apply Z.tn | apply Z.bkn) | (first | apply W.seq | apply W.region | apply W.block | apply W.skip))
  all_goals
   rw [List.length_replicate, ez, <- e2, <- List.replicate_succ'] at hS
   exact Z.agW ⟨by omega, by assumption, a8, cap8, hS⟩ (by repeat' first | exact trivial | (refine And.intro ?_ ?_) | exact rfl)
 obtain rfl : k = la.length := by omega
 have hst := hF.st.1
 have hsl : st.length = c.lat.2.2.length := hst
 obtain ⟨N0, hN0⟩ : ∃ N0, N0 = foldN la inp := ⟨_, rfl⟩
 have hN0l : N0.length = inp.length + la.length := by rw [hN0]; exact List.length_replicate
 obtain ⟨L2, hL2⟩ : ∃ L2, L2 = (fill2 c.ins.2.2.length M inp la la.length).1 := ⟨_, rfl⟩
 have hL2l : L2.length = M := by rw [hL2]; exact q4
 rw [show List.replicate (inp.length + la.length) ((-1 : Int), (0 : Int)) = N0 from hN0.symm, <- hL2] at hS
 repeat' (first | (apply W.cKF; exact rfl; exact dFf (by omega)) | (first | apply WL.nil | refine WL.au (k := ?_)) | (first | apply Z.tn | apply Z.tnx | apply Z.bkx) | (first | apply W.seq | apply W.region | apply W.block | apply W.exit))
 refine W.loopW st.length (fun k w' => k <= st.length /\ Ext w w' /\ Lt.Sep w.heap.size w' (foP w.heap.size gs gi g9 gc g8 M ak capk r N0 c v9 (fill3 c.ins.2.2.length st L2 k) F))
  (fun k => [(4, .pointer (some ⟨gc, 0, none⟩)), (8, .pointer (some ⟨g8, 0, none⟩)), (9, .pointer (some ⟨g9, 0, none⟩)), (10, .slice (some ⟨gi, 0, none⟩) M M), (60, .slice aS st.length cS), (61, .int .i64 st.length), (62, .int .i64 k)]) ⟨Nat.zero_le _, hXk, hS⟩ (fun k w' h => h.1) (by repeat' first | exact trivial | (refine And.intro ?_ ?_) | exact rfl) ?_
 clear hS
 rintro k wm ⟨hk3, hXm, hS⟩
 have hfl := fill3_len c.ins.2.2.length st L2 k
 by_cases hlt3 : k < st.length
 ·obtain ⟨y, hy⟩ := getI st hlt3
  have RSk := RS0.ext hXm
  have hyD : st.getD k 0 = y := gDo hy
  obtain ⟨_, u1, u2, _⟩ := (hg9 _ _ _ _ _ hS).2
  by_cases q5 : y = 2
  ·have e3 : fill3 c.ins.2.2.length st L2 (k + 1) = fill3 c.ins.2.2.length st L2 k := by
    rw [fill3_succ]; unfold stkP; rw [if_neg (by rw [hyD]; exact fun h => h q5)]
   repeat' (first | (apply W.cKT; exact rfl; (focus (exact dTt (by omega)))) | (apply W.cKF; exact rfl; exact dFf (by omega)) | (first | apply WL.nil | refine WL.au (k := ?_) | (apply WL.index tOk; (iterate 8 exact rfl); assumption; exact extA; exact rfl; omega; assumption; intro b off h; have hcc := h; first | (obtain ⟨h1, h2, h3, h4, h5, h6, _⟩ := h) | (obtain ⟨h1, h2, h3, _⟩ := h) | (obtain ⟨h1, h2, _⟩ := h) | (obtain ⟨h1, _⟩ := h))) | (first | apply Z.tn | apply Z.bkn) | (first | apply W.seq | apply W.region | apply W.block | apply W.skip))
   exact Z.agW ⟨by omega, hXm, by rw [e3]; exact hS⟩ (by repeat' first | exact trivial | (refine And.intro ?_ ?_) | exact rfl)
  ·have e3 : fill3 c.ins.2.2.length st L2 (k + 1) = (fill3 c.ins.2.2.length st L2 k).set (c.ins.2.2.length + k) y := by
    rw [fill3_succ]; unfold stkP; rw [hyD, if_pos q5]
   have ez : ((c.ins.2.2.length : Int) + (k : Int)).toNat = c.ins.2.2.length + k := by omega
   obtain ⟨yy, hyy⟩ := getI (fill3 c.ins.2.2.length st L2 k) (show ((c.ins.2.2.length : Int) + (k : Int)).toNat < _ by omega)
   (try simp only [List.set_cons_zero, List.set_cons_succ] at hS); (try have hR1 := hS.row (i := 1) rfl); (try have hR3 := hS.row (i := 3) rfl); (try have hC0 := hS.cell (i := 0) rfl); (try have hD0 := (cHp hC0).1); (try have hE0 := (cHp hC0).2.1); (try have hC4 := hS.cell (i := 4) rfl); (try have hM2 := hS.map (i := 2) rfl)
   repeat' (first | (apply W.cKT; exact rfl; exact dTt (by omega)) | (apply WL.indexO tOk; (iterate 8 exact rfl); assumption; exact extA; exact eIk; omega; omega; assumption; intro gb ha hc; cases ha; have hcc := hc; first | (obtain ⟨h1, h2, h3, _⟩ := hc) | (obtain ⟨h1, h2, _⟩ := hc) | (obtain ⟨h1, _⟩ := hc)) | (apply WL.storeO tOk; (iterate 4 exact rfl); assumption; exact extA; (iterate 3 exact rfl); exact eIk; assumption; exact rfl; exact extA; intro w' hO hX' hU; (replace hS := Sep.uRw (i := 3) rfl hU hO (.inl rfl) hS extA (by (exact Below.size extA))); (try simp only [List.set_cons_zero, List.set_cons_succ] at hS); (try have hR1 := hS.row (i := 1) rfl); (try have hR3 := hS.row (i := 3) rfl); (try have hC0 := hS.cell (i := 0) rfl); (try have hD0 := (cHp hC0).1); (try have hE0 := (cHp hC0).2.1); (try have hC4 := hS.cell (i := 4) rfl); (try have hM2 := hS.map (i := 2) rfl)) | (first | apply WL.nil | refine WL.au (k := ?_) | (apply WL.index tOk; (iterate 8 exact rfl); assumption; exact extA; exact rfl; omega; assumption; intro b off h; have hcc := h; first | (obtain ⟨h1, h2, h3, h4, h5, h6, _⟩ := h) | (obtain ⟨h1, h2, h3, _⟩ := h) | (obtain ⟨h1, h2, _⟩ := h) | (obtain ⟨h1, _⟩ := h))) | (first | apply Z.tn | apply Z.bkn) | (first | apply W.seq | apply W.region | apply W.block | apply W.skip))
   rw [ez, <- e3] at hS
   exact Z.agW ⟨by omega, by assumption, hS⟩ (by repeat' first | exact trivial | (refine And.intro ?_ ?_) | exact rfl)
 obtain rfl : k = st.length := by omega
 have eF : fill3 c.ins.2.2.length st L2 st.length = fillC c.t st la inp := by
  unfold fillC
  rw [hL2, hMM, hsl]
 rw [eF] at hS hfl
 obtain ⟨_, _, _, _, _, _, _, _, _, u9, _, _, u12, _⟩ := (hg9 _ _ _ _ _ hS).1
 have hcL : (fillC c.t st la inp).length = M := by omega
 have hsubF : ∀ (w' : World) (P : World -> Prop) (a' : Option Addr) (cap' : Nat) (N' : List (Int × Int)), Known w F P -> Ext w w' -> Lt.Sep w.heap.size w' (stN w.heap.size gs a' cap' r N' ++ (prow 1 encI 3 w.heap.size (some ⟨gi, 0, none⟩) M (fillC c.t st la inp) :: pcell g9 v9.toArray 114 :: pcell gc c.vals.toArray 27 :: pcell g8 zeroW.toArray 114 :: F)) -> P w' := fun w' P a' cap' N' h1 h2 h3 =>
  h1.sep h2 h3 fun p hp => List.mem_append_right _ (List.mem_cons_of_mem _ (List.mem_cons_of_mem _ (List.mem_cons_of_mem _ (List.mem_cons_of_mem _ hp))))
 have hcp := aig_CopyV gs r capk cN M ak aN (some ⟨gi, 0, none⟩) N0 (cNet c.t).1 (fillC c.t st la inp) _ wm w hXm hS (by omega) (cNet_ok hg).2 (by omega) (fun w' a' cap' N' h1 h2 => hsubF w' _ a' cap' N' hkN h1 h2) (fun w' a' cap' N' h1 h2 => Own.row eIk (h2.row (i := 3) rfl))
 have eV : copyV N0 (cNet c.t).1 (fillC c.t st la inp) = foldV c.t st la inp := by unfold foldV; rw [hN0]
 rw [eV, hcL] at hcp
 obtain ⟨V, hV⟩ : ∃ V, V = foldV c.t st la inp := ⟨_, rfl⟩
 rw [<- hV] at hcp ⊢
 repeat' (first | (apply W.cKF; exact rfl; exact dFf (by omega)) | (apply WL.call (f := 55); (iterate 4 exact rfl); exact hcp; rintro v' wC ⟨hXC, a8, cap8, aO, cO, rfl, hSC⟩; have hbC : wC.heap[g9]? = some (.cells (foldW c aN cN aA cA (.slice aS st.length cS) (.pointer (some ⟨gs, 0, none⟩)) (.slice none 0 0)).toArray 114 (0, 0)) := (by have h := hSC.cell (i := 5) (gb := g9) rfl; rw [hv9] at h; exact h)) | (apply WL.storeF (w0 := w) tOk; (iterate 4 exact rfl); exact hbC; exact Ext.refl _; (iterate 4 exact rfl); exact hXC; exact Nat.le_trans hB3 hge9; intro wS hbS hXS hUS; have hSS := Sep.uCl (i := 5) rfl hUS hbS hSC (Ext.refl _) (Below.size hXC); have hcS : Cells wS g9 0 (foldW c aN cN aA cA (.slice aS st.length cS) (.pointer (some ⟨gs, 0, none⟩)) (.slice aO V.1.length cO)) := cHp hbS; have hb8S : wS.heap[g8]? = some (.cells zeroW.toArray 114 (0, 0)) := hSS.cell (i := 7) rfl) | (show WL _ _ _ (⟨none, .store _ (.tmp 8) _, _, _, _, _⟩ :: _) _ _ _; apply WL.storeB (w0 := w) tOk; (iterate 4 exact rfl); exact hb8S; exact Ext.refl _; kernel_rfl; kernel_rfl; kernel_rfl; exact hXS; exact Nat.le_trans (Below.size hxc) hge8; intro wE hbE hcE hXE hUE) | (first | apply WL.nil | refine WL.au (k := ?_)) | (first | apply Z.tn | apply Z.tnx | apply Z.bkx) | (first | apply W.seq | apply W.region | apply W.ret | apply W.exit))
 have hcE' : Cells wE g8 0 (foldW c aN cN aA cA (.slice aS st.length cS) (.pointer (some ⟨gs, 0, none⟩)) (.slice aO V.1.length cO)) := hcE
 have hXE0 : Ext w wE := hXE
 have hSE : Lt.Sep w.heap.size wE (stN w.heap.size gs a8 cap8 r V.2 ++ (prow 1 encI 3 w.heap.size aO cO V.1 :: prow 1 encI 3 w.heap.size (some ⟨gi, 0, none⟩) M (fillC c.t st la inp) :: pcell g9 (foldW c aN cN aA cA (.slice aS st.length cS) (.pointer (some ⟨gs, 0, none⟩)) (.slice aO V.1.length cO)).toArray 114 :: pcell gc c.vals.toArray 27 :: pcell g8 (foldW c aN cN aA cA (.slice aS st.length cS) (.pointer (some ⟨gs, 0, none⟩)) (.slice aO V.1.length cO)).toArray 114 :: F)) := Sep.uCl (i := 7) rfl hUE hbE hSS (Ext.refl _) (Below.size hXS)
 have RNE := hkN.sep hXE0 hSE (fun p hp => List.mem_append_right _ (List.mem_cons_of_mem _ (List.mem_cons_of_mem _ (List.mem_cons_of_mem _ (List.mem_cons_of_mem _ (List.mem_cons_of_mem _ hp))))))
 have RAE := hkA.sep hXE0 hSE (fun p hp => List.mem_append_right _ (List.mem_cons_of_mem _ (List.mem_cons_of_mem _ (List.mem_cons_of_mem _ (List.mem_cons_of_mem _ (List.mem_cons_of_mem _ hp))))))
 have ROE : Own 1 encI 3 w.heap.size wE aO cO V.1 := hSE.row (i := 3) rfl
 have hfrz : ∀ k, (w1.heap.size <= k /\ k < w2.heap.size) -> k < wE.heap.size := fun k hk => by
  rw [hF0] at hSE
  exact frz_ltF hSE (fun p hp => List.mem_append_right _ (List.mem_cons_of_mem _ (List.mem_cons_of_mem _ (List.mem_cons_of_mem _ (List.mem_cons_of_mem _ (List.mem_cons_of_mem _ hp)))))) hk.1 hk.2
 have hS3 := Sep.takeN hSE 3
 exact Z.bodyC tOk Try.results74 rfl rfl rfl rfl hcE' fun m => ⟨hXE0.at m, aN, cN, aA, cA, gs, r, a8, cap8, aO, cO, rfl, RNE.ext ((Ext.refl _).at m), RAE.ext ((Ext.refl _).at m), (ROE.row eIk).ext ((Ext.refl _).at m), hS3.ext ((Ext.refl _).at m), fun k hk => by
  rcases hk with hk | hk | hk
  ·exact ⟨Nat.le_trans hB1 (hbN k hk).1, hfrz k (hbN k hk)⟩
  ·exact ⟨Nat.le_trans hB1 (hbA k hk).1, hfrz k (hbA k hk)⟩
  ·exact ⟨(ROE.blk_lt k hk).1, (ROE.blk_lt k hk).2⟩⟩

structure OwnOk (c : CirT) (own : List Int) : Prop where
 len : own.length = (cNet c).1.length + 1
 all : ∀ z ∈ own, 0 <= z /\ z <= 4611686018427387904
theorem fold_ownOk {c : CirT} {st la inp : List Int} (hg : GoodC' c) (hz : SzC c 100000) (h : FoldOk c st la inp) (hll : la.length <= 100000) (hil : inp.length <= 100000) : OwnOk c (foldV c st la inp).1 := by
 obtain ⟨a1, a2, _, a4, _⟩ := fold_inv hg h
 have := net_len hg hz
 exact ⟨a1, fun z hz' => by have := a2 z hz'; unfold hasL at this; omega⟩
noncomputable abbrev flit (c : CirT) (own : List Int) (l : Int) : Int := litI own (cl c l)
theorem flit_bd {c : CirT} {own : List Int} (hg : GoodC' c) (ho : OwnOk c own) {l : Int} (hl : KnL c l) : ∃ z, own[(cl c l / 2).toNat]? = some z /\ 0 <= z /\ z <= 4611686018427387904 /\ flit c own l = xorI z (cl c l % 2) := by
 have hr : 0 <= cl c l /\ cl c l <= 2 * ((cNet c).1.length : Int) + 1 := knL_range hg hl
 obtain ⟨z, hz⟩ := getI own (show (cl c l / 2).toNat < own.length by rw [ho.len]; omega)
 obtain ⟨h1, h2⟩ := ho.all z (List.mem_of_getElem? hz)
 exact ⟨z, hz, h1, h2, litI_some hz⟩
theorem flit_in {c : CirT} {own : List Int} (hg : GoodC' c) (ho : OwnOk c own) {l : Int} (hl : KnL c l) : 0 <= flit c own l /\ flit c own l <= 4611686018427387905 := by
 obtain ⟨z, hz, h1, h2, h3⟩ := flit_bd hg ho hl
 rw [h3]
 unfold xorI Lt.xor1
 split <;> (try split) <;> omega
theorem coi_flit (c : Circ) (aN aA aO : Option Addr) (cN cA cO : Nat) (vs vp : Value) (own : List Int) (hg : GoodC' c.t) (hz : SzC c.t 100000) (ho : OwnOk c.t own) (l : Int) (hl : KnL c.t l) (w : World) (RA : Row 1 encI w aA (cNet c.t).2) (RO : Row 1 encI w aO own) (kvs : vs.oneCell' = true) (kvp : vp.oneCell' = true) :
  Pure Try.prog 75 [.agg (foldW c aN cN aA cA vs vp (.slice aO own.length cO)).toArray, .int .i64 l] w (.int .i64 (flit c.t own l)) := by
 obtain ⟨z, hzz, z1, z2, ez⟩ := flit_bd hg ho hl
 have hr := knL_range hg hl
 have hnl := net_len hg hz
 have hx0 : 0 <= cl c.t l := hr.1
 have hx1 : cl c.t l <= 600001 := by unfold cl; omega
 rw [ez]
 refine Spec.of _ Try.func75 rfl Try.ntmps75 (by kernel_rfl) rfl ?_
 repeat' (first | (apply WL.box; (iterate 3 exact rfl); intro gb w' hb hge hc hx; have hcc := hc; obtain ⟨h1, h2, h3, _⟩ := hc; (have hcells : Cells w' gb 0 (foldW c aN cN aA cA vs vp (.slice aO own.length cO)) := hcc; obtain ⟨y0, y1, y2, y3, y4, y5, y6, y7, y8, y9, y10, y11, y12, y13, _⟩ := id hcells; have hview : Cells w' gb (0 + 0) (viewV c aN cN aA cA) := ⟨y0, y1, y2, y3, y4, y5, y6, y7, y8, y9, y10, trivial⟩)) | (apply WL.andA; (iterate 4 exact rfl)) | (apply WL.xorI; (iterate 4 exact rfl); omega; omega) | (apply WL.callP (f := 87); (iterate 4 exact rfl); exact coi_lit c aN aA cN cA hg hz l hl _ (RA.ext extA); intro w' hx) | (first | apply WL.nil | refine WL.au (k := ?_) | (apply WL.index tOk; (iterate 8 exact rfl); assumption; exact extA; exact rfl; omega; assumption; intro b off h; have hcc := h; first | (obtain ⟨h1, h2, h3, h4, h5, h6, _⟩ := h) | (obtain ⟨h1, h2, h3, _⟩ := h) | (obtain ⟨h1, h2, _⟩ := h) | (obtain ⟨h1, _⟩ := h))) | apply Z.tn | (first | apply W.seq | apply W.region | apply W.ret))
 exact Z.bd1 Try.results75 rfl fun m => ⟨rfl, Ext.at extA m⟩
theorem coi_fall (c : Circ) (aN aA aO a : Option Addr) (cN cA cO cap : Nat) (vs vp : Value) (own l : List Int) (hg : GoodC' c.t) (hz : SzC c.t 100000) (ho : OwnOk c.t own) (hl : ∀ x ∈ l, KnL c.t x) (hll : l.length <= 1000000) (w : World) (RA : Row 1 encI w aA (cNet c.t).2) (RO : Row 1 encI w aO own) (R : Row 1 encI w a l) (kvs : vs.oneCell' = true) (kvp : vp.oneCell' = true) :
  Lt.Spec Try.prog 77 [.agg (foldW c aN cN aA cA vs vp (.slice aO own.length cO)).toArray, .slice a l.length cap] w (IsFresh 1 encI 3 w (l.map (flit c.t own))) := by
 refine Spec.of _ Try.func77 rfl Try.ntmps77 (by kernel_rfl) rfl ?_
 repeat' (first | (apply WL.box; (iterate 3 exact rfl); intro gf wf hb hge hc hxf; have hcc := hc; obtain ⟨h1, h2, h3, _⟩ := hc; (have hcells : Cells wf gf 0 (foldW c aN cN aA cA vs vp (.slice aO own.length cO)) := hcc)) | (apply WL.makeC (w0 := wf) (z := (0:Int)) tOk; (iterate 9 exact rfl); exact eIk; exact rfl; exact rfl; exact extA; omega; intro gl w8 hOL hgeL hxL) | (first | apply WL.nil | refine WL.au (k := ?_)) | apply Z.tn | (first | apply W.seq | apply W.region | apply W.block))
 have en : ((l.length : Nat) : Int).toNat = l.length := Int.toNat_natCast _
 have e0l : (List.replicate l.length (0 : Int)).length = l.length := List.length_replicate
 obtain ⟨f, hf⟩ : ∃ f : Nat -> Int, f = fun u => flit c.t own (l.getD u 0) := ⟨_, rfl⟩
 have e0 : preT l.length f (fun _ => 0) 0 = List.replicate l.length (0 : Int) := preT_zero e0l fun u x hx => rep_get hx
 rw [en] at hOL ⊢
 rw [<- e0] at hOL
 refine W.loopW l.length (fun k w' => k <= l.length /\ Ext wf w' /\ Own 1 encI 3 wf.heap.size w' (some ⟨gl, 0, none⟩) l.length (preT l.length f (fun _ => 0) k))
  (fun k => [(2, .pointer (some ⟨gf, 0, none⟩)), (5, .slice (some ⟨gl, 0, none⟩) l.length l.length), (11, .slice a l.length cap), (12, .int .i64 l.length), (13, .int .i64 k)]) ⟨by omega, hxL, hOL⟩ (fun k w' h => h.1) (by repeat' first | exact trivial | (refine And.intro ?_ ?_) | exact rfl | (rw [e0l]; exact rfl)) ?_
 clear hOL
 rintro k wk ⟨hk, hXk, hOk⟩
 have hpl := preT_len l.length f (fun _ => 0) k
 by_cases hlt : k < l.length
 ·obtain ⟨x, hx⟩ := getI l hlt
  have Rk := R.ext (hxf.trans hXk)
  have hkn := hl x (List.mem_of_getElem? hx)
  have hck := Cells.ext hXk hcells
  obtain ⟨y, hy⟩ := getI (preT l.length f (fun _ => 0) k) (show k < _ by omega)
  repeat' (first | (apply W.cKT; exact rfl; exact dTt (by omega)) | (apply WL.callP (f := 75); (iterate 4 exact rfl); exact coi_flit c aN aA aO cN cA cO vs vp own hg hz ho x hkn _ (RA.ext (hxf.trans hXk)) (RO.ext (hxf.trans hXk)) kvs kvp; intro w9 hx9; have hO := hOk.ext hx9) | (apply WL.indexO tOk; (iterate 8 exact rfl); assumption; exact extA; exact eIk; omega; omega; assumption; intro gb ha hc; cases ha; have hcc := hc; first | (obtain ⟨h1, h2, h3, _⟩ := hc) | (obtain ⟨h1, h2, _⟩ := hc) | (obtain ⟨h1, _⟩ := hc)) | (apply WL.storeO tOk; (iterate 4 exact rfl); assumption; exact extA; (iterate 3 exact rfl); exact eIk; assumption; exact rfl; exact extA; intro w' hO hX' hU) | (first | apply WL.nil | refine WL.au (k := ?_) | (apply WL.index tOk; (iterate 8 exact rfl); assumption; exact extA; exact rfl; omega; assumption; intro b off h; have hcc := h; first | (obtain ⟨h1, h2, h3, h4, h5, h6, _⟩ := h) | (obtain ⟨h1, h2, h3, _⟩ := h) | (obtain ⟨h1, h2, _⟩ := h) | (obtain ⟨h1, _⟩ := h))) | (first | apply Z.tn | apply Z.bkn) | (first | apply W.seq | apply W.region | apply W.block | apply W.skip))
  have hfk : flit c.t own x = f k := by rw [hf]; dsimp only; rw [gDo hx]
  rw [Int.toNat_natCast, preT_set hfk] at hO
  exact Z.agW ⟨by omega, extA, hO⟩ (by repeat' first | exact trivial | (refine And.intro ?_ ?_) | exact rfl)
 obtain rfl : k = l.length := by omega
 repeat' (first | (apply W.cKF; exact rfl; exact dFf (by omega)) | (first | apply WL.nil | refine WL.au (k := ?_)) | (first | apply Z.tn | apply Z.tnx | apply Z.bkx) | (first | apply W.seq | apply W.region | apply W.ret | apply W.exit))
 have e1 : preT l.length f (fun _ => 0) l.length = l.map (flit c.t own) := preT_all (List.length_map _) fun u x hx => by
  rw [List.getElem?_map] at hx
  obtain ⟨y, hy, rfl⟩ := Option.map_eq_some_iff.1 hx
  rw [hf]; dsimp only; rw [gDo hy]
 rw [e1] at hOk
 exact Z.bd1 Try.results77 rfl fun q => ⟨(hxf.trans hXk).at q, _, _, by rw [List.length_map], (hOk.base (Below.size hxf)).ext ((Ext.refl _).at q)⟩
end Go.Proofs.Yteidpnpbfagaeaa
namespace Go.Lt
open Go.RowKit
section
variable {P : Program} {N : Nat} {e : Env} {w : World} {T : Tab} {ti : TI}
theorem Z.bodyCTT {fn : Func} {R : Value -> World -> Prop} {b ty : Nat} {vs : List Value} {t u s : Nat} {x y : Value} (hT : OkTab P T) (hr : fn.results = #[.cell t ty, .tmp u, .tmp s]) (hv : get e t = some (.pointer (some ⟨b, 0, none⟩))) (hx : get e u = some x) (hy : get e s = some y)
  (ht : tget T ty = some ti) (ha : isAggD ti.desc = true) (hs : ti.size = vs.length) (hc : Cells w b 0 vs) (hR : ∀ m, R (.tuple #[.agg vs.toArray, x, y]) (at' w m)) :
  Z N (bodyPost P fn fun x w' => ∃ v, x = .returned v /\ R v w') .ret e w := ⟨fun a m hf => by
 have h1 := run_isAgg' (hT.at ht) (at' w m); rw [ha] at h1
 have h3 := run_sizeOf' (hT.at ht) (at' w m); rw [hs] at h3
 have h2 := run_loadCellsFrom (P := P) (acc := #[]) (off := 0) (i := 0) (b := b) (hc.ext ((Ext.refl w).at m))
 refine bodyPost_ret (v := .tuple #[.agg vs.toArray, x, y]) ?_ hf.defers ⟨_, rfl, hR m⟩
 have h4 := hf.slots _ _ hv
 have h5 := hf.slots _ _ hx
 have h6 := hf.slots _ _ hy
 simp [results, hr, Array.getD_eq_getD_getElem?, h4, h5, h6, asAddr, loadVar, h1, h3, loadCells, h2]⟩
end
end Go.Lt
namespace Go.Proofs.Yteidpnpbfagaeaa
open Go Go.Lt Go.RowKit

theorem red_ownOk {c : CirT} {prop : Int} (hg : GoodC' c) (hz : SzC c 100000) : OwnOk c (redF c prop).1 := by
 have h1 : (laV c prop).length <= c.lat.length := sel_le _ _
 have h2 : (inV c prop).length <= c.ins.length := sel_le _ _
 have h3 : c.ins.length <= 100000 := hz.1
 have h4 : c.lat.length <= 100000 := hz.2.1
 exact fold_ownOk hg hz (need_ok hg prop) (by omega) (by omega)
theorem want_has {c : CirT} {prop : Int} (hg : GoodC' c) {x : Int} (hx : x ∈ wantW c prop) : hasL (redF c prop).2 x := by
 unfold wantW nextW at hx
 rcases List.mem_append.1 hx with h | h
 ·obtain ⟨j, hj, rfl⟩ := List.mem_map.1 h
  exact redL_has hg (kLu hg (used_next (latD_mem hj).1))
 ·rcases List.mem_cons.1 h with rfl | h
  ·exact redL_has hg (bad_kn hg prop)
  ·obtain ⟨l, hl, rfl⟩ := List.mem_map.1 h
   exact redL_has hg (kLu hg (used_con hl))
abbrev dV (mx : Int) (ai : Option Addr) (ci : Nat) (I : List Int) (al : Option Addr) (cl : Nat) (L : List T3) (ab : Option Addr) (cb nb : Nat) (ac : Option Addr) (cc : Nat) (C : List Int) (ag : Option Addr) (cg : Nat) (G : List T3) : List Value := [.int .i64 mx, .slice ai I.length ci, .slice al L.length cl, .slice none 0 0, .slice ab nb cb, .slice ac C.length cc, .slice ag G.length cg, .slice none 0 0, .string ⟨#[]⟩]
theorem xor_twoX {z b : Int} (h0 : 0 <= z) (h1 : z % 2 = 0) (hb : b = 0 ∨ b = 1) : xorI z b = z + b := by
 unfold xorI Lt.xor1
 rcases hb with rfl | rfl
 ·rw [if_neg (by decide)]; omega
 ·rw [if_pos rfl, if_pos h1]
theorem now_at {c : CirT} {prop : Int} (hg : GoodC' c) (hz : SzC c 100000) {x : Int} (hx : x ∈ wantW c prop) : ∃ z, (atT (redF c prop).2 (keepP c prop) ((redF c prop).2.length + 1))[(x / 2).toNat]? = some z /\ 0 <= z /\ z <= 4611686018427387904 /\ nowL c prop x = xorI z (x % 2) /\ 0 <= x /\ x <= 4611686018427387904 := by
 have hh := want_has hg hx
 have hc := keepL hh hx
 have hl := red_len (prop := prop) hg hz
 unfold hasL at hh
 have hev := atv_even (keepP c prop) hc (by omega)
 have hget := atT_get (P := keepP c prop) (n := (redF c prop).2) (k := (redF c prop).2.length + 1) (u := (x / 2).toNat) (by omega) (by omega)
 exact ⟨_, hget, hev.1, by omega, (xor_twoX hev.1 hev.2.1 (by omega)).symm, by omega, by omega⟩

def Mark (c : CirT) (kI kL : List Int) (v : Nat) : Prop := (1 <= v /\ v <= c.ins.length /\ ((v : Int) - 1) ∈ kI) ∨ ∃ k j, v = c.ins.length + 1 + k /\ (freeV c)[k]? = some j /\ j ∈ kL
def DoneX (c : CirT) (kI kL : List Int) (x : Int) : Prop := ∀ v : Nat, HangL (storeV c).2 x v -> InP (storeV c).2 v -> Mark c kI kL v
structure NdB (c : CirT) (prop : Int) (kI kL : List Int) : Prop where
 i : ∀ p ∈ kI, 0 <= p /\ p < (c.ins.length : Int) /\ Need c prop (p.toNat + 1)
 l : ∀ j ∈ kL, ∃ k, (freeV c)[k]? = some j /\ Need c prop (c.ins.length + 1 + k)
 nd : kL.Nodup
structure NdI (c : CirT) (prop : Int) (kI kL todo : List Int) : Prop where
 b : NdB c prop kI kL
 t : ∀ x ∈ todo, ∃ l, KnL c l /\ x = inSt c l /\ AllN c prop l
 w : ∀ l ∈ badL c prop :: c.cons, inSt c l ∈ todo ∨ DoneX c kI kL (inSt c l)
 e : ∀ j ∈ kL, ∀ t, c.lat[j.toNat]? = some t -> inSt c t.2.1 ∈ todo ∨ DoneX c kI kL (inSt c t.2.1)
structure NdJ (c : CirT) (prop : Int) (kI0 kL0 s : List Int) (q : Nat) (kI kL todo : List Int) : Prop where
 b : NdB c prop kI kL
 si : ∀ p ∈ kI0, p ∈ kI
 sl : ∀ j ∈ kL0, j ∈ kL
 t : ∀ x ∈ todo, ∃ j ∈ kL, ∃ t, c.lat[j.toNat]? = some t /\ x = inSt c t.2.1
 e : ∀ j ∈ kL, j ∈ kL0 ∨ ∀ t, c.lat[j.toNat]? = some t -> inSt c t.2.1 ∈ todo
 m : ∀ v ∈ s.take q, Mark c kI kL v.toNat
 g : kL0.length <= kL.length /\ (todo ≠ [] -> kL0.length < kL.length)
section
variable {c : CirT} {prop : Int} {kI kL kI0 kL0 todo : List Int}
theorem Mark.mono {v : Nat} {kI' kL' : List Int} (h : Mark c kI kL v) (h1 : ∀ p ∈ kI, p ∈ kI') (h2 : ∀ j ∈ kL, j ∈ kL') : Mark c kI' kL' v := by
 rcases h with ⟨a, b, d⟩ | ⟨k, j, a, b, d⟩
 ·exact .inl ⟨a, b, h1 _ d⟩
 ·exact .inr ⟨k, j, a, b, h2 _ d⟩
theorem DoneX.mono {x : Int} {kI' kL' : List Int} (h : DoneX c kI kL x) (h1 : ∀ p ∈ kI, p ∈ kI') (h2 : ∀ j ∈ kL, j ∈ kL') : DoneX c kI' kL' x := fun v a b => (h v a b).mono h1 h2
theorem ndI_first : NdI c prop [] [] (inSt c (badL c prop) :: c.cons.map (inSt c)) ∨ ¬ GoodC' c := by
 by_cases hg : GoodC' c
 ·left
  have hw : ∀ l ∈ badL c prop :: c.cons, inSt c l ∈ inSt c (badL c prop) :: c.cons.map (inSt c) := fun l hl => by
   rcases List.mem_cons.1 hl with rfl | hl
   ·exact List.mem_cons_self ..
   ·exact List.mem_cons_of_mem _ (List.mem_map.2 ⟨l, hl, rfl⟩)
  refine ⟨⟨fun p hp => (by cases hp), fun j hj => (by cases hj), List.nodup_nil⟩, fun x hx => ?_, fun l hl => .inl (hw l hl), fun j hj => (by cases hj)⟩
  rcases List.mem_cons.1 hx with rfl | hx
  ·exact ⟨_, bad_kn hg prop, rfl, want_all (List.mem_cons_self ..)⟩
  ·obtain ⟨l, hl, rfl⟩ := List.mem_map.1 hx
   exact ⟨l, kLu hg (used_con hl), rfl, want_all (List.mem_cons_of_mem _ hl)⟩
 ·exact .inr hg
theorem sup_mem {n : List (Int × Int)} {l : List Int} {v : Int} (h : v ∈ supL n l) : ∃ x ∈ l, HangL n x (v.toNat : Nat) /\ InP n v.toNat /\ 1 <= v := by
 obtain ⟨u, rfl, hu, ⟨h1, x, hx, hh⟩, hp⟩ := sel_mem.1 h
 refine ⟨x, hx, ?_, ?_, by omega⟩
 ·rw [Int.toNat_natCast]; exact hh
 ·rw [Int.toNat_natCast]; exact hp
theorem mem_sup {n : List (Int × Int)} {l : List Int} {x : Int} {v : Nat} (hx : x ∈ l) (h : HangL n x v) (hp : InP n v) : (v : Int) ∈ supL n l := by
 have h1 := h.2.2.1
 have h2 := h.2.1
 have h3 := h.2.2.2.1
 exact sel_mem.2 ⟨v, rfl, by omega, ⟨by omega, x, hx, h⟩, hp⟩
theorem ndI_meets (hg : GoodC' c) (h : NdI c prop kI kL todo) {v : Int} (hv : v ∈ supL (storeV c).2 todo) : Need c prop v.toNat /\ 1 <= v /\ v <= ((c.ins.length + (freeV c).length : Nat) : Int) := by
 obtain ⟨x, hx, hh, hp, h1⟩ := sup_mem hv
 obtain ⟨l, _, rfl, hn⟩ := h.t x hx
 have h2 := in_var (fold_only hg (store_ok hg)) (v := v.toNat) (by omega) hp
 rw [allI_len] at h2
 exact ⟨hn _ hh hp, h1, by omega⟩
theorem ndJ_first (h : NdI c prop kI kL todo) (s : List Int) : NdJ c prop kI kL s 0 kI kL [] :=
 ⟨h.b, fun _ h => h, fun _ h => h, fun x hx => (by cases hx), fun j hj => .inl hj, fun v hv => (by simp at hv), Nat.le_refl _, fun h => absurd rfl h⟩
variable {s : List Int} {q : Nat} {t2 : List Int}
theorem take_mem {s : List Int} {q : Nat} {v : Int} (hv : s[q]? = some v) {x : Int} (h : x ∈ s.take (q + 1)) : x ∈ s.take q ∨ x = v := by
 rw [tkS hv, List.mem_append, List.mem_singleton] at h; exact h
theorem ndJ_in (h : NdJ c prop kI0 kL0 s q kI kL t2) {v : Int} (hv : s[q]? = some v) (hn : Need c prop v.toNat) (h1 : 1 <= v) (h2 : v <= (c.ins.length : Int)) {kI' : List Int} (h3 : ∀ p, p ∈ kI' ↔ p ∈ kI ∨ p = v - 1) : NdJ c prop kI0 kL0 s (q + 1) kI' kL t2 := by
 have hsub : ∀ p ∈ kI, p ∈ kI' := fun p hp => (h3 p).2 (.inl hp)
 refine ⟨⟨fun p hp => ?_, h.b.l, h.b.nd⟩, fun p hp => hsub p (h.si p hp), h.sl, h.t, h.e, fun x hx => ?_, h.g⟩
 ·rcases (h3 p).1 hp with hp | rfl
  ·exact h.b.i p hp
  ·refine ⟨by omega, by omega, ?_⟩
   rw [show (v - 1).toNat + 1 = v.toNat by omega]; exact hn
 ·rcases take_mem hv hx with hx | rfl
  ·exact (h.m x hx).mono hsub fun _ h => h
  ·refine .inl ⟨by omega, by omega, (h3 _).2 (.inr ?_)⟩
   omega
theorem ndJ_old (h : NdJ c prop kI0 kL0 s q kI kL t2) {v j : Int} (hv : s[q]? = some v) (h1 : (c.ins.length : Int) < v) (hj : (freeV c)[(v - 1 - (c.ins.length : Int)).toNat]? = some j) (hm : j ∈ kL) : NdJ c prop kI0 kL0 s (q + 1) kI kL t2 := by
 refine ⟨h.b, h.si, h.sl, h.t, h.e, fun x hx => ?_, h.g⟩
 rcases take_mem hv hx with hx | rfl
 ·exact h.m x hx
 ·exact .inr ⟨_, j, by omega, hj, hm⟩
theorem ndJ_new (h : NdJ c prop kI0 kL0 s q kI kL t2) {v j : Int} {t : T3} (hv : s[q]? = some v) (hn : Need c prop v.toNat) (h1 : (c.ins.length : Int) < v) (hj : (freeV c)[(v - 1 - (c.ins.length : Int)).toNat]? = some j) (ht : c.lat[j.toNat]? = some t) (hm : j ∉ kL) : NdJ c prop kI0 kL0 s (q + 1) kI (kL ++ [j]) (t2 ++ [inSt c t.2.1]) := by
 have hsub : ∀ p ∈ kL, p ∈ kL ++ [j] := fun p hp => List.mem_append_left _ hp
 have hjm : j ∈ kL ++ [j] := List.mem_append_right _ (List.mem_singleton.2 rfl)
 refine ⟨⟨h.b.i, fun p hp => ?_, ?_⟩, h.si, fun p hp => hsub p (h.sl p hp), fun x hx => ?_, fun p hp => ?_, fun x hx => ?_, ?_, fun _ => ?_⟩
 ·rcases List.mem_append.1 hp with hp | hp
  ·exact h.b.l p hp
  ·rw [List.mem_singleton.1 hp]
   exact ⟨_, hj, by rw [show c.ins.length + 1 + (v - 1 - (c.ins.length : Int)).toNat = v.toNat by omega]; exact hn⟩
 ·refine List.nodup_append.2 ⟨h.b.nd, (by simp), fun a ha b hb => ?_⟩
  rw [List.mem_singleton.1 hb]
  intro e; subst e; exact hm ha
 ·rcases List.mem_append.1 hx with hx | hx
  ·obtain ⟨j', h2, h3⟩ := h.t x hx
   exact ⟨j', hsub _ h2, h3⟩
  ·rw [List.mem_singleton.1 hx]; exact ⟨j, hjm, t, ht, rfl⟩
 ·rcases List.mem_append.1 hp with hp | hp
  ·rcases h.e p hp with h2 | h2
   ·exact .inl h2
   ·exact .inr fun t' ht' => List.mem_append_left _ (h2 t' ht')
  ·rw [List.mem_singleton.1 hp]
   right
   intro t' ht'
   rw [ht] at ht'; cases ht'
   exact List.mem_append_right _ (List.mem_singleton.2 rfl)
 ·rcases take_mem hv hx with hx | rfl
  ·exact (h.m x hx).mono (fun _ h => h) hsub
  ·exact .inr ⟨_, j, by omega, hj, hjm⟩
 ·rw [List.length_append]; have := h.g.1; omega
 ·rw [List.length_append, List.length_singleton]; have := h.g.1; omega
theorem ndJ_end (hg : GoodC' c) (hI : NdI c prop kI0 kL0 todo) (hs : s = supL (storeV c).2 todo) (h : NdJ c prop kI0 kL0 s s.length kI kL t2) : NdI c prop kI kL t2 := by
 have hdone : ∀ x ∈ todo, DoneX c kI kL x := fun x hx v h1 h2 => by
  have h3 := mem_sup hx h1 h2
  rw [<- hs] at h3
  have h4 := h.m v (by rw [List.take_length]; exact h3)
  rw [Int.toNat_natCast] at h4; exact h4
 have keep : ∀ x, (x ∈ todo ∨ DoneX c kI0 kL0 x) -> DoneX c kI kL x := fun x hx => by
  rcases hx with hx | hx
  ·exact hdone x hx
  ·exact hx.mono h.si h.sl
 refine ⟨h.b, fun x hx => ?_, fun l hl => .inr (keep _ (hI.w l hl)), fun j hj t ht => ?_⟩
 ·obtain ⟨j, hj, t, ht, rfl⟩ := h.t x hx
  obtain ⟨k, hk, hn⟩ := h.b.l j hj
  exact ⟨t.2.1, kLu hg (used_next (List.mem_of_getElem? ht)), rfl, fun v h1 h2 => .step hn hk ht h1 h2⟩
 ·rcases h.e j hj with h2 | h2
  ·exact .inr (keep _ (hI.e j h2 t ht))
  ·exact .inl (h2 t ht)
theorem ndI_marks (h : NdI c prop kI kL []) {v : Nat} (hn : Need c prop v) : Mark c kI kL v := by
 induction hn with
 | base hl h1 h2 =>
  rcases h.w _ hl with h3 | h3
  ·cases h3
  ·exact h3 _ h1 h2
 | step _ hk ht h1 h2 ih =>
  rename_i k v' j t hn'
  rcases ih with ⟨_, a, _⟩ | ⟨k', j', e, hk', hm⟩
  ·omega
  ·have : k' = k := by omega
   subst this
   rw [hk] at hk'; cases hk'
   rcases h.e _ hm _ ht with h3 | h3
   ·cases h3
   ·exact h3 _ h1 h2
theorem allI_sel (m : Nat) : allI m = sel m (fun _ => True) := by
 unfold allI sel
 rw [List.filter_eq_self.2 fun u _ => dTt trivial]
theorem ndI_in (h : NdI c prop kI kL []) : (allI c.ins.length).filter (fun v => dec (v ∈ kI)) = inV c prop := by
 rw [allI_sel, sel_filter]
 unfold inV
 refine sel_congr fun u hu => ⟨fun hh => ?_, fun hh => ⟨trivial, ?_⟩⟩
 ·have := (h.b.i _ hh.2).2.2
  rw [Int.toNat_natCast] at this; exact this
 ·rcases ndI_marks h hh with ⟨_, _, a⟩ | ⟨k, j, e, _, _⟩
  ·rw [show (((u + 1 : Nat) : Int) - 1) = (u : Int) by omega] at a; exact a
  ·omega
theorem ndI_la (h : NdI c prop kI kL []) : (freeV c).filter (fun v => dec (v ∈ kL)) = laV c prop := by
 unfold freeV
 rw [sel_filter]
 unfold laV
 refine sel_congr fun u hu => ⟨fun hh => ?_, fun hh => ?_⟩
 ·exact h.b.l _ hh.2
 ·obtain ⟨k, hk, hn⟩ := hh
  have hf := free_mem.1 (List.mem_of_getElem? hk)
  refine ⟨by have := hf.2.2; rwa [Int.toNat_natCast] at this, ?_⟩
  rcases ndI_marks h hn with ⟨_, a, _⟩ | ⟨k', j', e, hk', hm⟩
  ·omega
  ·have : k' = k := by omega
   subst this
   rw [hk] at hk'; cases hk'; exact hm
theorem nd_len (h : NdB c prop kI kL) : kL.length <= c.lat.length := by
 have hsub : ∀ j ∈ kL, j ∈ freeV c := fun j hj => by
  obtain ⟨k, hk, _⟩ := h.l j hj
  exact List.mem_of_getElem? hk
 have h1 := List.Nodup.length_le_of_subset h.nd hsub
 have h2 : (freeV c).length <= c.lat.length := sel_le _ _
 omega
end

noncomputable def outQ (st : List Int) (x : Int) : Bool := dec (st.getD x.toNat 0 ≠ 2)
theorem coi_Needs1 (g6 cS : Nat) (aS : Option Addr) (st : List Int) (x : Int) (w : World) (hc : w.cell? ⟨g6, 0, none⟩ = some (.slice aS st.length cS)) (RS : Row 1 encI w aS st) (hx : 0 <= x /\ x.toNat < st.length) :
  Still Try.prog 124 ([.int .i64 x] ++ [.pointer (some ⟨g6, 0, none⟩)]) w (.bool (outQ st x)) := by
 obtain ⟨z, hz⟩ := getI st hx.2
 have e : outQ st x = dec (z ≠ 2) := by unfold outQ; rw [gDo hz]
 rw [e]
 refine Spec.of _ Try.func124 rfl Try.ntmps124 (by kernel_rfl) rfl ?_
 repeat' (first | (first | apply WL.nil | refine WL.au (k := ?_) | (apply WL.index tOk; (iterate 8 exact rfl); assumption; exact extA; exact rfl; omega; assumption; intro b off h; have hcc := h; first | (obtain ⟨h1, h2, h3, h4, h5, h6, _⟩ := h) | (obtain ⟨h1, h2, h3, _⟩ := h) | (obtain ⟨h1, h2, _⟩ := h) | (obtain ⟨h1, _⟩ := h))) | apply Z.tn | (first | apply W.seq | apply W.region | apply W.ret))
 exact Z.bd1 Try.results124 rfl fun m => ⟨rfl, m, rfl⟩
theorem coi_Needs21 (g3 r : Nat) (ks : List Int) (x : Int) (w : World) (hc : w.cell? ⟨g3, 0, none⟩ = some (.map (some r))) (hM : MapIs encK isB w r (keysL true ks)) :
  Still Try.prog 127 ([.int .i64 x] ++ [.pointer (some ⟨g3, 0, none⟩)]) w (.bool (!dec (x ∈ ks))) := by
 refine Spec.of _ Try.func127 rfl Try.ntmps127 (by kernel_rfl) rfl ?_
 repeat' (first | (apply WL.lookKeys tOk keyI; (iterate 8 exact rfl); exact hM) | (first | apply WL.nil | refine WL.au (k := ?_)) | apply Z.tn | (first | apply W.seq | apply W.region | apply W.ret))
 exact Z.bd1 Try.results127 rfl fun m => ⟨rfl, m, rfl⟩
theorem upd_map {B r : Nat} {a : Option Addr} {w w' : World} {ks : List Int} (hM : MapIs encK isB w r (keysL true ks)) (hU : Upd B a w w') (hr : blk a ≠ some r) : MapIs encK isB w' r (keysL true ks) := by
 refine hM.keep (hU.grown.block r hM.lt fun he => hr ?_)
 exact he.symm
theorem coi_Needs2 (a : Option Addr) (cap r : Nat) (l ks : List Int) (w w0 : World) (ho : Own 1 encI 3 w0.heap.size w a cap l) (hX : Ext w0 w) (hl : l.length <= 1000000) (hM : MapIs encK isB w r (keysL true ks)) (hr : blk a ≠ some r) :
  Lt.Spec Try.prog 126 [.slice a l.length cap, .map (some r)] w (fun v w' => Ext w0 w' /\ v = .slice a (l.filter (fun x => dec (x ∈ ks))).length cap /\ Own 1 encI 3 w0.heap.size w' a cap (l.filter (fun x => dec (x ∈ ks))) /\ ∀ g, g < w.heap.size -> blk a ≠ some g -> w'.heap[g]? = w.heap[g]?) := by
 refine Spec.of _ Try.func126 rfl Try.ntmps126 (by kernel_rfl) rfl ?_
 have hcl : ∀ w1 g3 w', Ext w w1 -> w1.heap[g3]? = some (.cells #[.map (some r)] 152 (0, 0)) -> w.heap.size <= g3 -> Upd w0.heap.size a w1 w' -> w'.cell? ⟨g3, 0, none⟩ = some (.map (some r)) /\ MapIs encK isB w' r (keysL true ks) := fun w1 g3 w' hx1 hb1 hge1 hU9 => by
  have h1 : w'.heap[g3]? = w1.heap[g3]? := hU9.grown.block g3 (heap_lt hb1) fun he => by
   have h2 := ho.blk_lt g3 he.symm
   omega
  rw [hb1] at h1
  exact ⟨(cHp h1).1, upd_map (hM.ext hx1) hU9 hr⟩
 repeat' (first | (apply WL.box; (iterate 3 exact rfl); intro g3 w1 hb1 hge1 hc hx1; have hcc := hc; (first | (obtain ⟨h1, h2, h3, _⟩ := hc) | (obtain ⟨h1, h2, _⟩ := hc))) | (apply WL.call (f := 122); (iterate 4 exact rfl); exact slices_DeleteFuncU a cap l 127 [.pointer (some ⟨g3, 0, none⟩)] (fun x => !dec (x ∈ ks)) w1 w0 (ho.ext hx1) (hX.trans hx1) (by omega) (fun w' _ hU9 x _ => coi_Needs21 g3 r ks x w' (hcl w1 g3 w' hx1 hb1 hge1 hU9).1 (hcl w1 g3 w' hx1 hb1 hge1 hU9).2); rintro v' w2 ⟨hX2, hU2, rfl, hO2⟩; simp only [Bool.not_not] at hO2 ⊢) | (first | apply WL.nil | refine WL.au (k := ?_)) | apply Z.tn | (first | apply W.seq | apply W.region | apply W.ret))
 exact Z.bd1 Try.results126 rfl fun m => ⟨hX2.at m, rfl, hO2.ext ((Ext.refl _).at m), fun g hg hne => (hU2.grown.block g (Nat.lt_of_lt_of_le hg (Below.size hx1)) (fun he => hne he.symm)).trans (hx1.block g hg)⟩
theorem free_out (c : CirT) : (allI c.lat.length).filter (fun x => !outQ (skV c) x) = freeV c := by
 have e : (fun x => !outQ (skV c) x) = fun v => dec ((skV c).getD v.toNat 0 = 2) := by
  funext x
  unfold outQ
  by_cases h : (skV c).getD x.toNat 0 = 2
  ·rw [dFf (fun hh => hh h), dTt h]; rfl
  ·rw [dTt h, dFf h]; rfl
 rw [e, allI_sel, sel_filter]
 unfold freeV
 refine sel_congr fun u _ => ⟨fun h => ?_, fun h => ⟨trivial, ?_⟩⟩
 ·have := h.2; rwa [Int.toNat_natCast] at this
 ·rwa [Int.toNat_natCast]

structure MAt (w : World) (gm : Nat) (c : Circ) (rn : RowV (Int × Int)) (ra : RowV Int) : Prop where
 cells : Cells w gm 0 (c.vals ++ [rowVal rn, rowVal ra])
 cat : CAt w c
 net : Row 2 encN w rn.1 rn.2.2
 at_ : Row 1 encI w ra.1 ra.2.2
 en : rn.2.2 = (cNet c.t).1
 ea : ra.2.2 = (cNet c.t).2
 good : GoodC' c.t
 size : SzC c.t 100000
theorem MAt.ext {w w' : World} {gm : Nat} {c : Circ} {rn : RowV (Int × Int)} {ra : RowV Int} (h : MAt w gm c rn ra) (hx : Ext w w') : MAt w' gm c rn ra :=
 ⟨h.cells.ext hx, h.cat.ext hx, h.net.ext hx, h.at_.ext hx, h.en, h.ea, h.good, h.size⟩

theorem ref17_Brought (a : Option Addr) (cap : Nat) (l : List Bool) (m : Nat) (w : World) (R : Row 1 encB w a l) (hm : m <= 1048576) :
  Lt.Spec Try.prog 16 [.slice a l.length cap, .int .i64 (m : Nat)] w (IsFresh 1 encB 4 w (brV l m)) := by
 have hlen := R.len
 refine Spec.of _ Try.func16 rfl Try.ntmps16 (by kernel_rfl) rfl ?_
 repeat' (first | (apply WL.lit (len := 0) tOk; (iterate 6 exact rfl); kernel_rfl; exact rfl; intro gb w' hb hge hc hx; have hO0 := Own.ofB0 (enc := encB) (s := 1) hb hge) | (first | apply WL.nil | refine WL.au (k := ?_)) | apply Z.tn | (first | apply W.seq | apply W.region | apply W.block))
 refine W.loopO m (fun k d dp w' => k <= m /\ Ext w w' /\ Own 1 encB 4 w.heap.size w' d dp (brV l k)) (fun k d dp => [(0, .slice a l.length cap), (1, .int .i64 (m : Nat)), (5, .slice d (brV l k).length dp), (6, .int .i64 k)]) (some ⟨gb, 0, none⟩) 0 ⟨Nat.zero_le _, hx, hO0⟩ (fun k d dp w' h => h.1) ⟨rfl, rfl, rfl, rfl, trivial⟩ ?_
 rintro k d dp w' ⟨hk, hx', hO'⟩
 have hbl := brV_len l k
 have e1 := brV_succ l k
 by_cases hlt : k < m
 ·by_cases hkl : k < l.length
  ·obtain ⟨z, hz⟩ := getI l hkl
   rw [gDo hz] at e1
   repeat' (first | (apply WL.gT; exact rfl; exact rfl; exact dTt (by omega)) | (apply W.cKT; exact rfl; exact dTt (by omega)) | (apply WL.lit tOk; (iterate 6 exact rfl); kernel_rfl; exact rfl; intro gb w' hb hge hc hx) | (apply WL.ap1 (z := (z)) tOk eBk; (iterate 10 exact rfl); assumption; exact extA; exact rfl; assumption; exact rfl; exact rfl; exact extA; omega; intro a' cap' w' hO hX' hU hF) | (first | apply WL.nil | refine WL.au (k := ?_) | (apply WL.index tOk; (iterate 8 exact rfl); assumption; exact extA; exact rfl; omega; assumption; intro b off h; have hcc := h; first | (obtain ⟨h1, h2, h3, h4, h5, h6, _⟩ := h) | (obtain ⟨h1, h2, h3, _⟩ := h) | (obtain ⟨h1, h2, _⟩ := h) | (obtain ⟨h1, _⟩ := h))) | (first | apply Z.tn | apply Z.bkn) | (first | apply W.seq | apply W.region | apply W.block | apply W.skip))
   exact Z.agO a' cap' ⟨by omega, hX', by rw [e1]; exact hO⟩ (by repeat' first | exact trivial | (refine And.intro ?_ ?_) | exact rfl | (rw [e1]; exact rfl))
  ·rw [List.getD, List.getElem?_eq_none (by omega)] at e1
   have e1 : brV l (k + 1) = brV l k ++ [false] := e1
   repeat' (first | (apply WL.gF; exact rfl; exact rfl; exact dFf (by omega)) | (apply W.cKT; exact rfl; (focus (exact dTt (by omega)))) | (apply WL.lit tOk; (iterate 6 exact rfl); kernel_rfl; exact rfl; intro gb w' hb hge hc hx) | (apply WL.ap1 (z := (false)) tOk eBk; (iterate 10 exact rfl); assumption; exact extA; exact rfl; assumption; exact rfl; exact rfl; exact extA; omega; intro a' cap' w' hO hX' hU hF) | (first | apply WL.nil | refine WL.au (k := ?_) | (apply WL.gdF; exact rfl; exact rfl)) | (first | apply Z.tn | apply Z.bkn) | (first | apply W.seq | apply W.region | apply W.block | apply W.skip))
   exact Z.agO a' cap' ⟨by omega, hX', by rw [e1]; exact hO⟩ (by repeat' first | exact trivial | (refine And.intro ?_ ?_) | exact rfl | (rw [e1]; exact rfl))
 ·obtain rfl : k = m := by omega
  repeat' (first | (apply W.cKF; exact rfl; exact dFf (by omega)) | (first | apply WL.nil | refine WL.au (k := ?_)) | (first | apply Z.tn | apply Z.tnx | apply Z.bkx) | (first | apply W.seq | apply W.region | apply W.ret | apply W.exit))
  exact Z.bd1 Try.results16 rfl fun m => ⟨hx'.at m, d, dp, rfl, hO'⟩

theorem ref17_Lit (gm : Nat) (c : Circ) (rn : RowV (Int × Int)) (ra : RowV Int) (a b : Option Addr) (ca cb : Nat) (s i : List Bool) (l : Int) (w : World) (hM : MAt w gm c rn ra) (Rs : Row 1 encB w a s) (Ri : Row 1 encB w b i) (hl : l ∈ c.t.used) :
  Pure Try.prog 71 [.pointer (some ⟨gm, 0, none⟩), .slice a s.length ca, .slice b i.length cb, .int .i64 l] w (.bool (litV c.t s i l)) := by
 obtain ⟨hcells, hC, Rn, Ra, en, ea, hg, hz⟩ := hM
 have hcells0 := hcells
 obtain ⟨y0, y1, y2, y3, y4, y5, y6, y7, y8, y9, y10, _⟩ := hcells
 have hnl := Nat.le_trans (net_len hg hz) (show 300000 <= 1048576 by omega)
 have hng := (cNet_ok hg).2
 rw [<- en] at hnl hng
 obtain ⟨z, z1, z2, z3, z4⟩ := net_lit hg hl
 have hlu := hg.used l hl
 have hmx := hg.max
 rw [<- ea] at z1
 rw [<- en] at z4
 have k1 : c.ins.2.2.length <= 100000 := hz.1
 have k2 : c.lat.2.2.length <= 100000 := hz.2.1
 have b1 := brV_len i c.ins.2.2.length
 have b2 := brV_len s c.lat.2.2.length
 have hvl := values_len' rn.2.2 (brV i c.ins.2.2.length ++ brV s c.lat.2.2.length)
 have ez : litV c.t s i l = (ofL (values rn.2.2 (brV i c.ins.2.2.length ++ brV s c.lat.2.2.length)) z != decide (l % 2 = 1)) := by
  rw [litV_ref z1 z2, en, ea]; rfl
 refine Spec.of _ Try.func71 rfl Try.ntmps71 (by kernel_rfl) rfl ?_
 repeat' (first | (apply FL.nilc; (iterate 3 exact rfl)) | (show W _ _ (.region 1 _ _) _ _ _; apply W.regionGX (.fl true 0 (.fl true 1 (.fl true 2 (.fl true 3 (.fl true 4 (.fl true 8 (.fl true 9 (.fl true 10 (.fl true 11 (.fl true 12 (.fl false 5 (.fl true 6 (.fl false 13 (.fl true 14 (.br 7 (.br 15 (.br 16 (.fl true 17 .done) .stop) .stop) .stop))))))))))))))) [7, 13, 14, 15, 16] tMix; kernel_rfl) | (apply WL.call (f := 16); (iterate 4 exact rfl); exact ref17_Brought _ _ i c.ins.2.2.length _ (Ri.ext extA) (by omega); rintro v' w1 ⟨hx, a1, c1, rfl, hO1⟩) | (apply WL.call (f := 16); (iterate 4 exact rfl); exact ref17_Brought _ _ s c.lat.2.2.length _ (Rs.ext extA) (by omega); rintro v' w' ⟨hx, a2, c2, rfl, hO2⟩; (have R2 := hO2.row eBk; have n2 := hO2.nCp)) | (apply WL.appendS tOk eBk; (iterate 10 exact rfl); assumption; exact extA; exact rfl; assumption; exact extA; exact rfl; assumption; exact rfl; exact extA; omega; intro a' cap' w' hO hX' hU hF) | (first | (apply SX.done; intro w' hx) | (apply SX.fl0; exact rfl) | (apply SX.fl1; exact rfl; exact extA) | (apply SX.br1; exact rfl; intro w' hx)) | (first | apply FL.nilX | (apply FL.loadE tOk; (iterate 5 exact rfl); assumption)) | refine FL.au (k := ?_) | (apply Z.sxE; exact extA) | (first | apply WL.nil | refine WL.au (k := ?_)) | apply Z.tn | (first | apply W.seq | apply W.region))
 obtain ⟨w5, rfl⟩ : ∃ x, x = w' := ⟨_, rfl⟩; obtain ⟨a5, rfl⟩ : ∃ x, x = a' := ⟨_, rfl⟩; obtain ⟨c5, rfl⟩ : ∃ x, x = cap' := ⟨_, rfl⟩
 have hX5 : Ext w w5 := extA
 have Rv := hO.row eBk
 have Ra5 := Ra.ext hX5
 clear y0 y1 y2 y3 y4 y5 y6 y7 y8 y9 y10
 have hcells := hcells0.ext hX5
 obtain ⟨y0, y1, y2, y3, y4, y5, y6, y7, y8, y9, y10, _⟩ := hcells
 repeat' (first | (apply FL.nilc; (iterate 3 exact rfl)) | (show W _ _ (.region 2 _ _) _ _ _; apply W.regionGX (.fl true 0 (.fl true 1 (.fl true 2 (.fl true 4 (.fl true 6 (.fl true 7 (.fl true 8 (.fl true 10 (.fl true 11 (.fl true 15 (.fl true 16 (.fl true 17 (.fl false 3 (.fl false 9 (.fl true 12 (.fl false 13 (.br 5 (.br 14 (.fl true 18 (.fl true 19 .done)) .stop) .stop))))))))))))))))) [5, 9, 12, 13, 14, 18] tMix; kernel_rfl) | (apply WL.call (f := 22); (iterate 4 exact rfl); exact ref07_Values _ _ _ _ rn.2.2 _ _ (Rn.ext extA) (Rv.ext extA) hng hnl; rintro v' w' ⟨hx, av, cv, rfl, hOv⟩; (have RV := hOv.row eBk)) | (apply WL.callS (f := 40); (iterate 4 exact rfl); exact ref07_Of _ _ _ z _ (RV.ext extA) ⟨z2, by omega, by omega⟩) | (first | (apply SX.done; intro w' hx) | (apply SX.fl0; exact rfl) | (apply SX.fl1; exact rfl; exact extA) | (apply SX.br1; exact rfl; intro w' hx)) | (first | apply FL.nilX | (apply FL.loadE tOk; (iterate 5 exact rfl); assumption) | (apply FL.indexE tOk; (iterate 8 exact rfl); assumption; exact rfl; omega; assumption; intro b off h; have hcc := h; first | (obtain ⟨h1, h2, h3, h4, h5, h6, _⟩ := h) | (obtain ⟨h1, h2, h3, _⟩ := h) | (obtain ⟨h1, h2, _⟩ := h) | (obtain ⟨h1, _⟩ := h))) | refine FL.au (k := ?_) | (apply Z.sxE; exact extA) | apply WL.nil | apply Z.tn | apply W.ret)
 exact Z.bd1 Try.results71 rfl fun m => ⟨by rw [ez]; exact congrArg Value.bool (by rw [dec_ne_dec]), Ext.at extA m⟩

theorem ref17_Starts (gm : Nat) (c : Circ) (rn : RowV (Int × Int)) (ra : RowV Int) (a : Option Addr) (ca : Nat) (s : List Bool) (w : World) (hM : MAt w gm c rn ra) (Rs : Row 1 encB w a s) :
  Still Try.prog 30 [.pointer (some ⟨gm, 0, none⟩), .slice a s.length ca] w (.bool (dec (StartsP c.t s))) := by
 obtain ⟨hcells, hC, Rn, Ra, en, ea, hg, hz⟩ := hM
 obtain ⟨y0, y1, y2, _⟩ := hcells
 have k2 : c.lat.2.2.length <= 100000 := hz.2.1
 have Rl := hC.lat.row
 have hsl := Rs.len
 by_cases he : s.length = c.lat.2.2.length
 rotate_left
 ·have e : dec (StartsP c.t s) = false := dFf fun h => he h.1
  refine Spec.of _ Try.func30 rfl Try.ntmps30 (by kernel_rfl) rfl ?_
  repeat' (first | (apply WL.nilc; (iterate 3 exact rfl)) | (apply W.cKT; exact rfl; exact dTt (by omega)) | (first | apply WL.nil | refine WL.au (k := ?_)) | (first | apply Z.tn | apply Z.tnr) | (first | apply W.seq | apply W.region | apply W.ret))
  exact Z.bd1 Try.results30 rfl fun m => ⟨by rw [e], m, rfl⟩
 refine Spec.of _ Try.func30 rfl Try.ntmps30 (by kernel_rfl) rfl ?_
 repeat' (first | (apply WL.nilc; (iterate 3 exact rfl)) | (apply W.cKF; exact rfl; exact dFf (by omega)) | (first | apply WL.nil | refine WL.au (k := ?_)) | apply Z.tn | (first | apply W.seq | apply W.region | apply W.block | apply W.skip))
 refine W.loop1 s.length (fun k => k <= s.length /\ ∀ (j : Nat) x b, j < k -> c.lat.2.2[j]? = some x -> s[j]? = some b -> ¬ (x.2.2 = 0 /\ b = true) /\ ¬ (x.2.2 = 1 /\ b = false)) (fun k => [(0, .pointer (some ⟨gm, 0, none⟩)), (1, .slice a s.length ca), (5, .int .i64 k)]) ⟨Nat.zero_le _, fun j x b h => by omega⟩ (fun k h => h.1) ⟨rfl, rfl, rfl, trivial⟩ ?_
 rintro k ⟨hk, hall⟩
 by_cases hlt : k < s.length
 ·obtain ⟨b, hb⟩ := getI s hlt
  obtain ⟨x, hx⟩ := getI c.lat.2.2 (show k < c.lat.2.2.length by omega)
  have hstep : (¬ (x.2.2 = 0 /\ b = true) /\ ¬ (x.2.2 = 1 /\ b = false)) -> ∀ (j : Nat) x b, j < k + 1 -> c.lat.2.2[j]? = some x -> s[j]? = some b -> ¬ (x.2.2 = 0 /\ b = true) /\ ¬ (x.2.2 = 1 /\ b = false) := by
   intro h j y d hj h1 h2
   by_cases hjk : j = k
   ·subst hjk; rw [hx] at h1; rw [hb] at h2; cases h1; cases h2; exact h
   ·exact hall j y d (by omega) h1 h2
  by_cases h0 : x.2.2 = 0
  ·cases b
   ·repeat' (first | (apply WL.nilc; (iterate 3 exact rfl)) | (apply WL.gT; exact rfl; exact rfl; (focus (exact dTt (by omega)))) | (apply WL.gF; exact rfl; exact rfl; exact dFf (by omega)) | (apply W.cKT; exact rfl; (focus (exact dTt (by omega)))) | (first | apply WL.nil | refine WL.au (k := ?_) | (apply WL.index tOk; (iterate 8 exact rfl); assumption; exact extA; exact rfl; omega; assumption; intro b off h; have hcc := h; first | (obtain ⟨h1, h2, h3, h4, h5, h6, _⟩ := h) | (obtain ⟨h1, h2, h3, _⟩ := h) | (obtain ⟨h1, h2, _⟩ := h) | (obtain ⟨h1, _⟩ := h)) | (apply WL.gdF; exact rfl; exact rfl)) | (first | apply Z.tn | apply Z.bkn) | (first | apply W.seq | apply W.region | apply W.block | apply W.skip | (apply W.condF; exact rfl)))
    exact Z.again1 ⟨by omega, hstep ⟨by simp, by omega⟩⟩ ⟨rfl, rfl, rfl, trivial⟩
   ·have e : dec (StartsP c.t s) = false := dFf fun h => (h.2 k x true hx hb).1 ⟨h0, rfl⟩
    repeat' (first | (apply WL.nilc; (iterate 3 exact rfl)) | (apply WL.gT; exact rfl; exact rfl; (focus (exact dTt (by omega)))) | (apply W.cKT; exact rfl; (focus (exact dTt (by omega)))) | (first | apply WL.nil | refine WL.au (k := ?_) | (apply WL.index tOk; (iterate 8 exact rfl); assumption; exact extA; exact rfl; omega; assumption; intro b off h; have hcc := h; first | (obtain ⟨h1, h2, h3, h4, h5, h6, _⟩ := h) | (obtain ⟨h1, h2, h3, _⟩ := h) | (obtain ⟨h1, h2, _⟩ := h) | (obtain ⟨h1, _⟩ := h)) | (apply WL.gdF; exact rfl; exact rfl)) | (first | apply Z.tn | apply Z.tnr | apply Z.bkr) | (first | apply W.seq | apply W.region | apply W.block | apply W.skip | apply W.ret | (apply W.condT; exact rfl)))
    exact Z.bd1 Try.results30 rfl fun m => ⟨by rw [e], m, rfl⟩
  ·by_cases h1 : x.2.2 = 1
   ·cases b
    ·have e : dec (StartsP c.t s) = false := dFf fun h => (h.2 k x false hx hb).2 ⟨h1, rfl⟩
     repeat' (first | (apply WL.nilc; (iterate 3 exact rfl)) | (apply WL.gT; exact rfl; exact rfl; (focus (exact dTt (by omega)))) | (apply WL.gF; exact rfl; exact rfl; exact dFf (by omega)) | (apply W.cKT; exact rfl; (focus (exact dTt (by omega)))) | (first | apply WL.nil | refine WL.au (k := ?_) | (apply WL.index tOk; (iterate 8 exact rfl); assumption; exact extA; exact rfl; omega; assumption; intro b off h; have hcc := h; first | (obtain ⟨h1, h2, h3, h4, h5, h6, _⟩ := h) | (obtain ⟨h1, h2, h3, _⟩ := h) | (obtain ⟨h1, h2, _⟩ := h) | (obtain ⟨h1, _⟩ := h)) | (apply WL.gdF; exact rfl; exact rfl)) | (first | apply Z.tn | apply Z.tnr | apply Z.bkr) | (first | apply W.seq | apply W.region | apply W.block | apply W.skip | apply W.ret | (apply W.condT; exact rfl)))
     exact Z.bd1 Try.results30 rfl fun m => ⟨by rw [e], m, rfl⟩
    ·repeat' (first | (apply WL.nilc; (iterate 3 exact rfl)) | (apply WL.gT; exact rfl; exact rfl; (focus (exact dTt (by omega)))) | (apply WL.gF; exact rfl; exact rfl; exact dFf (by omega)) | (apply W.cKT; exact rfl; (focus (exact dTt (by omega)))) | (first | apply WL.nil | refine WL.au (k := ?_) | (apply WL.index tOk; (iterate 8 exact rfl); assumption; exact extA; exact rfl; omega; assumption; intro b off h; have hcc := h; first | (obtain ⟨h1, h2, h3, h4, h5, h6, _⟩ := h) | (obtain ⟨h1, h2, h3, _⟩ := h) | (obtain ⟨h1, h2, _⟩ := h) | (obtain ⟨h1, _⟩ := h)) | (apply WL.gdF; exact rfl; exact rfl)) | (first | apply Z.tn | apply Z.bkn) | (first | apply W.seq | apply W.region | apply W.block | apply W.skip | (apply W.condF; exact rfl)))
     exact Z.again1 ⟨by omega, hstep ⟨by omega, by simp⟩⟩ ⟨rfl, rfl, rfl, trivial⟩
   ·repeat' (first | (apply WL.nilc; (iterate 3 exact rfl)) | (apply WL.gF; exact rfl; exact rfl; exact dFf (by omega)) | (apply W.cKT; exact rfl; (focus (exact dTt (by omega)))) | (first | apply WL.nil | refine WL.au (k := ?_) | (apply WL.index tOk; (iterate 8 exact rfl); assumption; exact extA; exact rfl; omega; assumption; intro b off h; have hcc := h; first | (obtain ⟨h1, h2, h3, h4, h5, h6, _⟩ := h) | (obtain ⟨h1, h2, h3, _⟩ := h) | (obtain ⟨h1, h2, _⟩ := h) | (obtain ⟨h1, _⟩ := h)) | (apply WL.gdF; exact rfl; exact rfl)) | (first | apply Z.tn | apply Z.bkn) | (first | apply W.seq | apply W.region | apply W.block | apply W.skip | (apply W.condF; exact rfl)))
    exact Z.again1 ⟨by omega, hstep ⟨by omega, by omega⟩⟩ ⟨rfl, rfl, rfl, trivial⟩
 ·obtain rfl : k = s.length := by omega
  have e : dec (StartsP c.t s) = true := dTt ⟨he, fun j x b h1 h2 => hall j x b (lGt h2) h1 h2⟩
  repeat' (first | (apply W.cKF; exact rfl; exact dFf (by omega)) | (first | apply WL.nil | refine WL.au (k := ?_)) | (first | apply Z.tn | apply Z.tnx | apply Z.bkx) | (first | apply W.seq | apply W.region | apply W.ret | apply W.exit))
  exact Z.bd1 Try.results30 rfl fun m => ⟨by rw [e], m, rfl⟩

theorem nextT_succ {c : CirT} {s i : List Bool} {k : Nat} {x : T3} (h : c.lat[k]? = some x) : (c.lat.take (k + 1)).map (fun x => litV c s i x.2.1) = (c.lat.take k).map (fun x => litV c s i x.2.1) ++ [litV c s i x.2.1] := by
 rw [tkS h, List.map_append]; rfl
theorem ref17_Next (gm : Nat) (c : Circ) (rn : RowV (Int × Int)) (ra : RowV Int) (a b : Option Addr) (ca cb : Nat) (s i : List Bool) (w : World) (hM : MAt w gm c rn ra) (Rs : Row 1 encB w a s) (Ri : Row 1 encB w b i) :
  Lt.Spec Try.prog 18 [.pointer (some ⟨gm, 0, none⟩), .slice a s.length ca, .slice b i.length cb] w (IsFresh 1 encB 4 w (nextV c.t s i)) := by
 have hM' := hM
 obtain ⟨hcells, hC, Rn, Ra, en, ea, hg, hz⟩ := hM
 have k2 : c.lat.2.2.length <= 100000 := hz.2.1
 have Rl := hC.lat.row
 refine Spec.of _ Try.func18 rfl Try.ntmps18 (by kernel_rfl) rfl ?_
 repeat' (first | (apply WL.lit (len := 0) tOk; (iterate 6 exact rfl); kernel_rfl; exact rfl; intro gb w' hb hge hc hx; have hO0 := Own.ofB0 (enc := encB) (s := 1) hb hge) | (first | apply WL.nil | refine WL.au (k := ?_)) | apply Z.tn | (first | apply W.seq | apply W.region | apply W.block))
 refine W.loopO c.lat.2.2.length (fun k d dp w' => k <= c.lat.2.2.length /\ Ext w w' /\ Own 1 encB 4 w.heap.size w' d dp ((c.t.lat.take k).map (fun x => litV c.t s i x.2.1)))
  (fun k d dp => [(0, .pointer (some ⟨gm, 0, none⟩)), (1, .slice a s.length ca), (2, .slice b i.length cb), (7, .slice d ((c.t.lat.take k).map (fun x => litV c.t s i x.2.1)).length dp), (8, .int .i64 k)]) (some ⟨gb, 0, none⟩) 0 ⟨Nat.zero_le _, hx, hO0⟩ (fun k d dp w' h => h.1) ⟨rfl, rfl, rfl, rfl, rfl, trivial⟩ ?_
 rintro k d dp w1 ⟨hk, hx1, hO'⟩
 have hl : ((c.t.lat.take k).map (fun x => litV c.t s i x.2.1)).length = k := by rw [List.length_map, List.length_take]; exact Nat.min_eq_left hk
 have hc1 := hcells.ext hx1
 obtain ⟨y0, y1, y2, _⟩ := hc1
 have Rl1 := Rl.ext hx1
 by_cases hlt : k < c.lat.2.2.length
 ·obtain ⟨x, hxx⟩ := getI c.lat.2.2 hlt
  have hu : x.2.1 ∈ c.t.used := used_next (List.mem_of_getElem? hxx)
  have e1 := nextT_succ (c := c.t) (s := s) (i := i) hxx
  repeat' (first | (apply WL.nilc; (iterate 3 exact rfl)) | (apply W.cKT; exact rfl; exact dTt (by omega)) | (apply WL.callP (f := 71); (iterate 4 exact rfl); exact ref17_Lit gm c rn ra _ _ _ _ s i x.2.1 _ (hM'.ext extA) (Rs.ext extA) (Ri.ext extA) hu; intro w' hx) | (apply WL.lit tOk; (iterate 6 exact rfl); kernel_rfl; exact rfl; intro gb w' hb hge hc hx) | (apply WL.ap1 (z := (litV c.t s i x.2.1)) tOk eBk; (iterate 10 exact rfl); assumption; exact extA; exact rfl; assumption; exact rfl; exact rfl; exact extA; omega; intro a' cap' w' hO hX' hU hF) | (first | apply WL.nil | refine WL.au (k := ?_) | (apply WL.index tOk; (iterate 8 exact rfl); assumption; exact extA; exact rfl; omega; assumption; intro b off h; have hcc := h; first | (obtain ⟨h1, h2, h3, h4, h5, h6, _⟩ := h) | (obtain ⟨h1, h2, h3, _⟩ := h) | (obtain ⟨h1, h2, _⟩ := h) | (obtain ⟨h1, _⟩ := h))) | (first | apply Z.tn | apply Z.bkn) | (first | apply W.seq | apply W.region | apply W.block | apply W.skip))
  exact Z.agO a' cap' ⟨by omega, hX', by rw [e1]; exact hO⟩ (by repeat' first | exact trivial | (refine And.intro ?_ ?_) | exact rfl | (rw [e1]; exact rfl))
 ·obtain rfl : k = c.lat.2.2.length := by omega
  have e9 : (c.t.lat.take c.lat.2.2.length).map (fun x => litV c.t s i x.2.1) = nextV c.t s i := by rw [List.take_of_length_le (Nat.le_refl _)]; rfl
  repeat' (first | (apply WL.nilc; (iterate 3 exact rfl)) | (apply W.cKF; exact rfl; exact dFf (by omega)) | (first | apply WL.nil | refine WL.au (k := ?_)) | (first | apply Z.tn | apply Z.tnx | apply Z.bkx) | (first | apply W.seq | apply W.region | apply W.ret | apply W.exit))
  rw [e9] at hO'
  exact Z.bd1 Try.results18 rfl fun m => ⟨hx1.at m, d, dp, by rw [e9], hO'⟩
end Go.Proofs.Yteidpnpbfagaeaa
namespace Go.Lt
open Go.RowKit

theorem OwnRR.nil {α : Type} {s : Nat} {enc : α -> List Value} {el elO B : Nat} {w : World} {a : Option Addr} {cap : Nat} (h : Own 1 encRow elO B w a cap ([] : List (RowV α))) : OwnRR s enc el elO B w a cap [] :=
 ⟨h, fun i r hr => by simp at hr, fun i r hr => by simp at hr, fun i j r q hr => by simp at hr⟩
structure RR1 {α : Type} (s : Nat) (enc : α -> List Value) (el elO B : Nat) (w : World) (a : Option Addr) (cap : Nat) (rs : List (RowV α)) (b : Option Addr) (dp : Nat) (S : List α) : Prop where
 rr : OwnRR s enc el elO B w a cap rs
 own : Own s enc el B w b dp S
 apartO : blk b = none ∨ blk b ≠ blk a
 apart : ∀ (i : Nat) (q : RowV α), rs[i]? = some q -> blk q.1 = none ∨ blk q.1 ≠ blk b
section
variable {α : Type} {s : Nat} {enc : α -> List Value} {el elO B : Nat} {w w1 w2 w3 : World} {a a' b : Option Addr} {cap cap' dp : Nat} {rs : List (RowV α)} {S : List α}
theorem RR1.ext (h : RR1 s enc el elO B w a cap rs b dp S) (hx : Ext w w1) : RR1 s enc el elO B w1 a cap rs b dp S := ⟨h.rr.ext hx, h.own.ext hx, h.apartO, h.apart⟩
theorem RR1.new (h : OwnRR s enc el elO B w1 a cap rs) (hx : Ext w1 w2) (hO : Own s enc el w1.heap.size w2 b dp S) (hB : B <= w1.heap.size) : RR1 s enc el elO B w2 a cap rs b dp S := by
 refine ⟨h.ext hx, hO.base hB, ?_, fun i q hq => ?_⟩
 ·cases hb : blk b with
  | none => exact .inl rfl
  | some k =>
   refine .inr fun he => ?_
   have h1 := (hO.blk_lt k hb).1
   have h2 := (h.outer.blk_lt k he.symm).2
   omega
 ·cases hb : blk q.1 with
  | none => exact .inl rfl
  | some k =>
   refine .inr fun he => ?_
   have h1 := ((h.inner i q hq).blk_lt k hb).2
   have h2 := (hO.blk_lt k he.symm).1
   omega
theorem RR1.first {g c0 : Nat} (hO : Own s enc el B w b dp S) (h : Own 1 encRow elO B w (some ⟨g, 0, none⟩) c0 ([] : List (RowV α))) (hg : ∀ k, blk b = some k -> k ≠ g) : RR1 s enc el elO B w (some ⟨g, 0, none⟩) c0 [] b dp S := by
 refine ⟨OwnRR.nil h, hO, ?_, fun i q hq => by simp at hq⟩
 cases hb : blk b with
 | none => exact .inl rfl
 | some k =>
  refine .inr fun he => hg k hb ?_
  simp only [blk, Option.map_some, Option.some.injEq] at he; exact he
theorem RR1.push (h : RR1 s enc el elO B w2 a cap rs b dp S) (hU : Upd B a w2 w3) (hO : Own 1 encRow elO B w3 a' cap' (rs ++ [(b, dp, S)])) (hF : blk a' = blk a ∨ ∃ k, blk a' = some k /\ w2.heap.size <= k) : OwnRR s enc el elO B w3 a' cap' (rs ++ [(b, dp, S)]) := by
 obtain ⟨hr, ho, hA, hI⟩ := h
 have get : ∀ (i : Nat) (q : RowV α), (rs ++ [(b, dp, S)])[i]? = some q -> (i < rs.length /\ rs[i]? = some q) ∨ (i = rs.length /\ q = (b, dp, S)) := fun i q hq => by
  by_cases hi : i < rs.length
  ·rw [List.getElem?_append_left hi] at hq; exact .inl ⟨hi, hq⟩
  ·rw [List.getElem?_append_right (by omega)] at hq
   have h0 := lGt hq
   simp at h0
   have h1 : i - rs.length = 0 := by omega
   rw [h1] at hq
   simp at hq
   exact .inr ⟨by omega, hq.symm⟩
 have lt2 : ∀ (i : Nat) (q : RowV α) (k : Nat), (rs ++ [(b, dp, S)])[i]? = some q -> blk q.1 = some k -> k < w2.heap.size := fun i q k hq hk => by
  rcases get i q hq with ⟨_, hq⟩ | ⟨_, rfl⟩
  ·exact ((hr.inner i q hq).blk_lt k hk).2
  ·exact (ho.blk_lt k hk).2
 have apA : ∀ (i : Nat) (q : RowV α), (rs ++ [(b, dp, S)])[i]? = some q -> blk q.1 = none ∨ blk q.1 ≠ blk a := fun i q hq => by
  rcases get i q hq with ⟨_, hq⟩ | ⟨_, rfl⟩
  ·exact hr.apartO i q hq
  ·exact hA
 refine ⟨hO, fun i q hq => ?_, fun i q hq => ?_, fun i j q p h1 h2 hne => ?_⟩
 ·rcases get i q hq with ⟨_, hq'⟩ | ⟨_, rfl⟩
  ·exact hU.own (hr.inner i q hq') (hr.apartO i q hq')
  ·exact hU.own ho hA
 ·rcases hF with hF | ⟨k, hk, hle⟩
  ·rw [hF]; exact apA i q hq
  ·cases hb : blk q.1 with
   | none => exact .inl rfl
   | some b =>
    refine .inr fun he => ?_
    have := lt2 i q b hq hb
    rw [hk] at he
    have := Option.some.inj he
    omega
 ·rcases get i q h1 with ⟨_, h1'⟩ | ⟨rfl, rfl⟩
  ·rcases get j p h2 with ⟨_, h2'⟩ | ⟨rfl, rfl⟩
   ·exact hr.apart i j q p h1' h2' hne
   ·exact hI i q h1'
  ·rcases get j p h2 with ⟨_, h2'⟩ | ⟨rfl, rfl⟩
   ·show blk b = none ∨ blk b ≠ blk p.1
    cases hb : blk b with
    | none => exact .inl rfl
    | some k =>
     refine .inr fun he => ?_
     rcases hI j p h2' with h3 | h3
     ·rw [h3] at he; cases he
     ·exact h3 (by rw [hb]; exact he.symm)
   ·exact absurd rfl hne
end
theorem OwnRR.base {α : Type} {s : Nat} {enc : α -> List Value} {el elO B C : Nat} {w : World} {a : Option Addr} {cap : Nat} {rs : List (RowV α)} (h : OwnRR s enc el elO C w a cap rs) (hB : B <= C) : OwnRR s enc el elO B w a cap rs := ⟨h.outer.base hB, fun i r hr => (h.inner i r hr).base hB, h.apartO, h.apart⟩
theorem OwnRR.row {α : Type} {s : Nat} {enc : α -> List Value} {el elO B : Nat} {w : World} {a : Option Addr} {cap : Nat} {rs : List (RowV α)} (h : OwnRR s enc el elO B w a cap rs) (hE : Enc s enc) {i : Nat} {r : RowV α} (hr : rs[i]? = some r) : Row s enc w r.1 r.2.2 := (h.inner i r hr).row hE
theorem OwnRR.at {α : Type} {s : Nat} {enc : α -> List Value} {el elO B : Nat} {w : World} {a : Option Addr} {cap : Nat} {rs : List (RowV α)} (h : OwnRR s enc el elO B w a cap rs) (m : Nat) : OwnRR s enc el elO B (at' w m) a cap rs := h.ext ((Ext.refl w).at m)
end Go.Lt
namespace Go.Proofs.Yteidpnpbfagaeaa
open Go Go.Lt Go.RowKit

theorem ref17_Bad (gm : Nat) (c : Circ) (rn : RowV (Int × Int)) (ra : RowV Int) (a b : Option Addr) (ca cb : Nat) (s i : List Bool) (p : Int) (w : World) (hM : MAt w gm c rn ra) (Rs : Row 1 encB w a s) (Ri : Row 1 encB w b i) :
  Pure Try.prog 19 [.pointer (some ⟨gm, 0, none⟩), .slice a s.length ca, .slice b i.length cb, .int .i64 p] w (.bool (dec (BadP c.t s i p))) := by
 have hM' := hM
 obtain ⟨hcells, hC, Rn, Ra, en, ea, hg, hz⟩ := hM
 obtain ⟨y0, y1, y2, y3, y4, _⟩ := hcells
 have Rb := hC.bads.row
 have hbl := Rb.len
 by_cases q1 : 0 <= p
 ·by_cases q2 : p < c.bads.2.2.length
  ·obtain ⟨l, hl⟩ := getI c.bads.2.2 (show p.toNat < c.bads.2.2.length by omega)
   have e : dec (BadP c.t s i p) = litV c.t s i l := by
    cases hv : litV c.t s i l
    ·refine dFf fun h => ?_
     obtain ⟨_, l', h1, h2⟩ := h
     have : c.bads.2.2[p.toNat]? = some l' := h1
     rw [hl] at this; cases this
     rw [hv] at h2; cases h2
    ·exact dTt ⟨q1, l, hl, hv⟩
   refine Spec.of _ Try.func19 rfl Try.ntmps19 (by kernel_rfl) rfl ?_
   repeat' (first | (apply WL.nilc; (iterate 3 exact rfl)) | (apply WL.gT; exact rfl; exact rfl; (focus (first | exact dTt q1 | exact dTt q2; done))) | (apply WL.callP (f := 71); (iterate 4 exact rfl); exact ref17_Lit gm c rn ra _ _ _ _ s i l _ (hM'.ext extA) (Rs.ext extA) (Ri.ext extA) (used_bad (List.mem_of_getElem? hl)); intro w' hx) | (first | apply WL.nil | refine WL.au (k := ?_) | (apply WL.index tOk; (iterate 8 exact rfl); assumption; exact extA; exact rfl; omega; assumption; intro b off h; have hcc := h; first | (obtain ⟨h1, h2, h3, h4, h5, h6, _⟩ := h) | (obtain ⟨h1, h2, h3, _⟩ := h) | (obtain ⟨h1, h2, _⟩ := h) | (obtain ⟨h1, _⟩ := h))) | apply Z.tn | (first | apply W.seq | apply W.region | apply W.ret))
   exact Z.bd1 Try.results19 rfl fun m => ⟨by rw [e], Ext.at extA m⟩
  ·have e : dec (BadP c.t s i p) = false := dFf fun h => by
    obtain ⟨_, l', h1, h2⟩ := h
    have := lGt h1
    have : p.toNat < c.bads.2.2.length := this
    omega
   refine Spec.of _ Try.func19 rfl Try.ntmps19 (by kernel_rfl) rfl ?_
   repeat' (first | (apply WL.nilc; (iterate 3 exact rfl)) | (apply WL.gT; exact rfl; exact rfl; (focus (exact dTt q1))) | (apply WL.gF; exact rfl; exact rfl; exact dFf q2) | (first | apply WL.nil | refine WL.au (k := ?_) | (apply WL.gdF; exact rfl; exact rfl)) | apply Z.tn | (first | apply W.seq | apply W.region | apply W.ret))
   exact Z.bd1 Try.results19 rfl fun m => ⟨by rw [e], Ext.at extA m⟩
 ·have e : dec (BadP c.t s i p) = false := dFf fun h => q1 h.1
  refine Spec.of _ Try.func19 rfl Try.ntmps19 (by kernel_rfl) rfl ?_
  repeat' (first | (apply WL.gF; exact rfl; exact rfl; exact dFf q1) | (first | apply WL.nil | refine WL.au (k := ?_) | (apply WL.gdF; exact rfl; exact rfl)) | apply Z.tn | (first | apply W.seq | apply W.region | apply W.ret))
  exact Z.bd1 Try.results19 rfl fun m => ⟨by rw [e], Ext.at extA m⟩

theorem ref17_Holds (gm : Nat) (c : Circ) (rn : RowV (Int × Int)) (ra : RowV Int) (a b : Option Addr) (ca cb : Nat) (s i : List Bool) (w : World) (hM : MAt w gm c rn ra) (Rs : Row 1 encB w a s) (Ri : Row 1 encB w b i) :
  Pure Try.prog 17 [.pointer (some ⟨gm, 0, none⟩), .slice a s.length ca, .slice b i.length cb] w (.bool (dec (HoldsP c.t s i))) := by
 have hM' := hM
 obtain ⟨hcells, hC, Rn, Ra, en, ea, hg, hz⟩ := hM
 have Rc := hC.cons.row
 have hbl := Rc.len
 refine Spec.of _ Try.func17 rfl Try.ntmps17 (by kernel_rfl) rfl ?_
 repeat' (first | (first | apply WL.nil | refine WL.au (k := ?_)) | apply Z.tn | (first | apply W.seq | apply W.region | apply W.block))
 refine W.loopW c.cons.2.2.length (fun k w' => k <= c.cons.2.2.length /\ Ext w w' /\ ∀ (j : Nat) l, j < k -> c.cons.2.2[j]? = some l -> litV c.t s i l = true) (fun k => [(0, .pointer (some ⟨gm, 0, none⟩)), (1, .slice a s.length ca), (2, .slice b i.length cb), (7, .int .i64 k)]) ⟨Nat.zero_le _, Ext.refl _, fun j l h => by omega⟩ (fun k w' h => h.1) ⟨rfl, rfl, rfl, rfl, trivial⟩ ?_
 rintro k w1 ⟨hk, hx1, hall⟩
 have hc1 := hcells.ext hx1
 obtain ⟨y0, y1, y2, y3, y4, y5, _⟩ := hc1
 have Rc1 := Rc.ext hx1
 by_cases hlt : k < c.cons.2.2.length
 ·obtain ⟨l, hl⟩ := getI c.cons.2.2 hlt
  have hu : l ∈ c.t.used := used_con (List.mem_of_getElem? hl)
  have hr := fun (w9 : World) (h9 : Ext w w9) => ref17_Lit gm c rn ra a b ca cb s i l w9 (hM'.ext h9) (Rs.ext h9) (Ri.ext h9) hu
  cases hv : litV c.t s i l <;> rw [hv] at hr
  ·have e : dec (HoldsP c.t s i) = false := dFf fun h => by have := h l (List.mem_of_getElem? hl); rw [hv] at this; cases this
   repeat' (first | (apply WL.nilc; (iterate 3 exact rfl)) | (apply W.cKT; exact rfl; exact dTt (by omega)) | (apply WL.callP (f := 71); (iterate 4 exact rfl); exact hr _ extA; intro w' hx) | (first | apply WL.nil | refine WL.au (k := ?_) | (apply WL.index tOk; (iterate 8 exact rfl); assumption; exact extA; exact rfl; omega; assumption; intro b off h; have hcc := h; first | (obtain ⟨h1, h2, h3, h4, h5, h6, _⟩ := h) | (obtain ⟨h1, h2, h3, _⟩ := h) | (obtain ⟨h1, h2, _⟩ := h) | (obtain ⟨h1, _⟩ := h))) | (first | apply Z.tn | apply Z.tnr | apply Z.bkr) | (first | apply W.seq | apply W.region | apply W.block | apply W.skip | apply W.ret | (apply W.condT; exact rfl)))
   exact Z.bd1 Try.results17 rfl fun m => ⟨by rw [e], Ext.at extA m⟩
  ·repeat' (first | (apply WL.nilc; (iterate 3 exact rfl)) | (apply W.cKT; exact rfl; exact dTt (by omega)) | (apply WL.callP (f := 71); (iterate 4 exact rfl); exact hr _ extA; intro w' hx) | (first | apply WL.nil | refine WL.au (k := ?_) | (apply WL.index tOk; (iterate 8 exact rfl); assumption; exact extA; exact rfl; omega; assumption; intro b off h; have hcc := h; first | (obtain ⟨h1, h2, h3, h4, h5, h6, _⟩ := h) | (obtain ⟨h1, h2, h3, _⟩ := h) | (obtain ⟨h1, h2, _⟩ := h) | (obtain ⟨h1, _⟩ := h))) | (first | apply Z.tn | apply Z.bkn) | (first | apply W.seq | apply W.region | apply W.block | apply W.skip | (apply W.condF; exact rfl)))
   refine Z.agW ⟨by omega, extA, fun j l' hj h1 => ?_⟩ ⟨rfl, rfl, rfl, rfl, trivial⟩
   by_cases hjk : j = k
   ·subst hjk; rw [hl] at h1; cases h1; exact hv
   ·exact hall j l' (by omega) h1
 ·obtain rfl : k = c.cons.2.2.length := by omega
  have e : dec (HoldsP c.t s i) = true := dTt fun l h => by
   obtain ⟨j, hj⟩ := List.mem_iff_getElem?.1 h
   exact hall j l (lGt hj) hj
  repeat' (first | (apply WL.nilc; (iterate 3 exact rfl)) | (apply W.cKF; exact rfl; exact dFf (by omega)) | (first | apply WL.nil | refine WL.au (k := ?_)) | (first | apply Z.tn | apply Z.tnx | apply Z.bkx) | (first | apply W.seq | apply W.region | apply W.ret | apply W.exit))
  exact Z.bd1 Try.results17 rfl fun m => ⟨by rw [e], Ext.at extA m⟩

theorem ref17_New (c : Circ) (w : World) (hC : CAt w c) (hg : GoodC' c.t) (hz : SzC c.t 100000) :
  Lt.Spec Try.prog 15 [c.val] w (fun v w' => Ext w w' /\ ∃ gm rn ra, v = .pointer (some ⟨gm, 0, none⟩) /\ MAt w' gm c rn ra /\ w.heap.size <= gm) := by
 refine Spec.of _ Try.func15 rfl Try.ntmps15 (by kernel_rfl) rfl ?_
 repeat' (first | (apply WL.box; (iterate 3 exact rfl); intro gb w' hb hge hc hx; have hcc := hc; obtain ⟨h1, h2, h3, _⟩ := hc; (first | (have h_0 := hcells; clear h_0) | (have hcells := hcc; obtain ⟨gc, rfl⟩ : ∃ x, x = gb := ⟨_, rfl⟩; obtain ⟨wc, rfl⟩ : ∃ x, x = w' := ⟨_, rfl⟩; obtain ⟨hxc, rfl⟩ : ∃ x, x = hx := ⟨_, rfl⟩))) | (apply WL.call (f := 63); (iterate 4 exact rfl); exact ref11_Net c _ (hC.ext extA) hg hz; rintro v' w7 ⟨hx7, am, cm, ab, cb, rfl, hOm, hOb⟩; have hcells7 := hcells.ext hx7; have Rm := hOm.row encN_ok; have Rb := hOb.row eIk) | (apply WL.build tOk; (iterate 7 exact rfl); kernel_rfl) | (first | apply WL.nil | refine WL.au (k := ?_)) | apply Z.tn | (first | apply W.seq | apply W.region | apply W.ret))
 have hcm : Cells w' gb 0 (c.vals ++ [.slice am (cNet c.t).1.length cm, .slice ab (cNet c.t).2.length cb]) := hcc
 exact Z.bd1 Try.results15 rfl fun m => ⟨Ext.at extA m, gb, (am, cm, (cNet c.t).1), (ab, cb, (cNet c.t).2), rfl, (MAt.mk hcm (hC.ext extA) (Rm.ext extA) (Rb.ext extA) rfl rfl hg hz : MAt w' gb c (am, cm, (cNet c.t).1) (ab, cb, (cNet c.t).2)).ext ((Ext.refl _).at m), Nat.le_trans (Below.size (show Ext w w7 from extA)) hge⟩

abbrev encRB : RowV Bool -> List Value := encRow
theorem encRB_ok : Enc 1 encRB := encRow_ok
structure RunV where
 st : RowV Bool
 ins : RowV (RowV Bool)
abbrev RunV.val (r : RunV) : Value := .agg #[rowVal r.st, rowVal r.ins]
abbrev RunV.s (r : RunV) : List Bool := r.st.2.2
abbrev RunV.i (r : RunV) : List (List Bool) := r.ins.2.2.map (·.2.2)
structure RAt (w : World) (r : RunV) : Prop where
 st : Row 1 encB w r.st.1 r.st.2.2
 ins : Row 1 encRB w r.ins.1 r.ins.2.2
 each : ∀ x ∈ r.ins.2.2, Row 1 encB w x.1 x.2.2
theorem RAt.ext {w w' : World} {r : RunV} (h : RAt w r) (hx : Ext w w') : RAt w' r := ⟨h.st.ext hx, h.ins.ext hx, fun x h1 => (h.each x h1).ext hx⟩

theorem Sep.oldU {B B' g : Nat} {w w' : World} {ps : List Piece} (hS : Lt.Sep B w ps) (hU : Upd B' (some ⟨g, 0, none⟩) w w') (hg : g < B) : Lt.Sep B w' ps :=
 ⟨fun i p h => ⟨p.keep (hS.holds i p h).1 (fun k hk => hU.grown.block k ((hS.holds i p h).2 k hk).2 (fun he => by
  have h1 := ((hS.holds i p h).2 k hk).1
  simp only [blk, Option.map_some, Option.some.injEq] at he
  omega)), fun k hk => ⟨((hS.holds i p h).2 k hk).1, Nat.lt_of_lt_of_le ((hS.holds i p h).2 k hk).2 hU.grown.size⟩⟩, hS.apart⟩

theorem runI_get {r : RunV} {k : Nat} {x : RowV Bool} (h : r.ins.2.2[k]? = some x) : r.i[k]? = some x.2.2 := by
 show (r.ins.2.2.map (·.2.2))[k]? = _
 rw [List.getElem?_map, h]; rfl
theorem runI_len (r : RunV) : r.i.length = r.ins.2.2.length := List.length_map _
theorem range_map_succ {α : Type} (f : Nat -> α) (k : Nat) : (List.range (k + 1)).map f = (List.range k).map f ++ [f k] := by rw [List.range_succ, List.map_append]; rfl
theorem ref17_States (gm : Nat) (c : Circ) (rn : RowV (Int × Int)) (ra : RowV Int) (r : RunV) (w : World) (hM : MAt w gm c rn ra) (hR : RAt w r) (hn : r.ins.2.2.length <= 1048576) :
  Lt.Spec Try.prog 31 [.pointer (some ⟨gm, 0, none⟩), r.val] w (IsFreshRR 1 encB 4 31 w (statesV c.t r.s r.i)) := by
 have hM' := hM
 obtain ⟨hcells, hC, Rn, Ra, en, ea, hg, hz⟩ := hM
 have k2 : c.lat.2.2.length <= 100000 := hz.2.1
 refine Spec.of _ Try.func31 rfl Try.ntmps31 (by kernel_rfl) rfl ?_
 repeat' (first | (apply WL.box; (iterate 3 exact rfl); intro gr wr hb hge hc hxr; have hcc := hc; obtain ⟨h1, h2, h3, _⟩ := hc) | (first | apply WL.nil | refine WL.au (k := ?_)) | apply Z.tn | (first | apply W.seq | apply W.region))
 have hcr := hcells.ext hxr
 obtain ⟨y0, y1, y2, _⟩ := hcr
 repeat' (first | (apply FL.nilc; (iterate 3 exact rfl)) | (show W _ _ (.region 1 _ _) _ _ _; apply W.regionGX (.fl true 1 (.fl true 3 (.fl true 4 (.fl true 5 (.fl true 6 (.fl false 2 (.fl false 7 (.fl true 8 (.br 0 (.br 9 (.fl true 10 (.fl true 11 .done)) .stop) (.br 9 (.br 0 (.fl true 10 (.fl true 11 .done)) .stop) .stop)))))))))) [0, 7, 8, 9, 10] tMix; kernel_rfl) | (apply WL.lit (len := 0) tOk; (iterate 6 exact rfl); kernel_rfl; exact rfl; intro g8 w' hb hge hc hx; have hO0 := Own.ofB0 (enc := encRB) (s := 1) hb hge) | (apply WL.call (f := 16); (iterate 4 exact rfl); exact ref17_Brought _ _ r.s c.lat.2.2.length _ (hR.st.ext extA) (by omega); rintro v' w' ⟨hx, a', cap', rfl, hO⟩) | (first | (apply SX.done; intro w' hx) | (apply SX.fl0; exact rfl) | (apply SX.fl1; exact rfl; exact extA) | (apply SX.br1; exact rfl; intro w' hx) | (apply SX.br; exact rfl; (intro w' hx))) | (first | apply FL.nilX | (apply FL.loadE tOk; (iterate 5 exact rfl); assumption)) | refine FL.au (k := ?_) | (apply Z.sxE; exact extA) | (first | apply WL.nil | refine WL.au (k := ?_)) | apply Z.tn | (first | apply W.seq | apply W.region | apply W.block))
 all_goals
  have hXr : Ext wr w' := extA
  have h0 : RR1 1 encB 4 31 wr.heap.size w' (some ⟨g8, 0, none⟩) 0 [] a' cap' (brV r.s c.lat.2.2.length) := by
   refine RR1.first (Own.base (Own.ext hO extA) (Below.size extA)) (Own.base (Own.ext hO0 extA) (Below.size extA)) fun k hk => ?_
   first
   | exact Nat.ne_of_gt (Nat.lt_of_lt_of_le (Nat.lt_of_lt_of_le (heap_lt hb) (Below.size extA)) (hO.blk_lt k hk).1)
   | exact Nat.ne_of_lt (Nat.lt_of_lt_of_le (Nat.lt_of_lt_of_le (hO.blk_lt k hk).2 (Below.size extA)) hge)
  have hXw : Ext w w' := hxr.trans hXr
  obtain ⟨b0, rfl⟩ : ∃ x, x = a' := ⟨_, rfl⟩; obtain ⟨d0, rfl⟩ : ∃ x, x = cap' := ⟨_, rfl⟩; obtain ⟨w1, rfl⟩ : ∃ x, x = w' := ⟨_, rfl⟩
  clear hO hO0
  refine W.loopO2 r.ins.2.2.length (fun k a cp b dp w' => k <= r.ins.2.2.length /\ Ext wr w' /\ ∃ rs : List (RowV Bool), rs.length = k /\ rs.map (fun q => q.2.2) = (List.range k).map (stateV c.t r.s r.i) /\ RR1 1 encB 4 31 wr.heap.size w' a cp rs b dp (stateV c.t r.s r.i k))
   (fun k a cp b dp => [(0, .pointer (some ⟨gm, 0, none⟩)), (3, .pointer (some ⟨gr, 0, none⟩)), (5, .slice a k cp), (6, .slice b (stateV c.t r.s r.i k).length dp), (7, .int .i64 k)]) (some ⟨g8, 0, none⟩) 0 b0 d0 ⟨Nat.zero_le _, hXr, [], rfl, rfl, h0⟩ (fun k a cp b dp w' h => h.1) ⟨rfl, rfl, rfl, rfl, rfl, trivial⟩ ?_
  clear h0
  rintro k a cp b dp w2 ⟨hk, hX2, rs, hl, he, hR1⟩
  have hsl := stateV_len c.t r.s r.i k
  have hsl' : (stateV c.t r.s r.i k).length = c.lat.2.2.length := hsl
  have hcc2 := hcc.ext hX2
  obtain ⟨k1, k3, _⟩ := hcc2
  have hRi := hR.ins
  have hXw2 : Ext w w2 := hxr.trans hX2
  by_cases hlt : k < r.ins.2.2.length
  ·obtain ⟨x, hx⟩ := getI r.ins.2.2 hlt
   have hxi := runI_get hx
   have hxr2 := hR.each x (List.mem_of_getElem? hx)
   have e1 : stateV c.t r.s r.i (k + 1) = nextV c.t (stateV c.t r.s r.i k) x.2.2 := by
    show nextV c.t _ (r.i.getD k []) = _; rw [gDo hxi]
   have hOo : Own 1 encRB 31 wr.heap.size w2 a cp rs := hR1.rr.outer
   have RSt := hR1.own.row eBk
   repeat' (first | (apply W.cKT; exact rfl; exact dTt (by omega)) | (apply WL.lit tOk; (iterate 6 exact rfl); kernel_rfl; exact rfl; intro gb w' hb hge hc hx) | (apply WL.ap1 (z := (((b, dp, stateV c.t r.s r.i k) : RowV Bool))) tOk encRB_ok; (iterate 10 exact rfl); assumption; exact extA; ((focus (simp [*]; done))); assumption; exact rfl; exact rfl; exact extA; omega; intro a' cap' w' hO hX' hU hF) | (first | apply WL.nil | refine WL.au (k := ?_)) | apply Z.tn | (first | apply W.seq | apply W.region | apply W.block | apply W.skip))
   have hXn : Ext wr w' := hX'
   have hR2 := (hR1.ext hx).push hU hO hF
   have hl2 : (rs ++ [((b, dp, stateV c.t r.s r.i k) : RowV Bool)]).length = k + 1 := by rw [List.length_append, hl]; rfl
   have he2 : (rs ++ [((b, dp, stateV c.t r.s r.i k) : RowV Bool)]).map (fun q => q.2.2) = (List.range (k + 1)).map (stateV c.t r.s r.i) := by rw [List.map_append, he, range_map_succ]; rfl
   have hget : (rs ++ [((b, dp, stateV c.t r.s r.i k) : RowV Bool)])[k]? = some (b, dp, stateV c.t r.s r.i k) := by rw [List.getElem?_append_right (by omega), hl]; simp
   have RSt2 : Row 1 encB w' b (stateV c.t r.s r.i k) := hR2.row eBk hget
   obtain ⟨k4, k5, _⟩ := hcc.ext hXn
   clear hOo RSt hO hU hF
   obtain ⟨w3, rfl⟩ : ∃ x, x = w' := ⟨_, rfl⟩; obtain ⟨a3, rfl⟩ : ∃ x, x = a' := ⟨_, rfl⟩; obtain ⟨c3, rfl⟩ : ∃ x, x = cap' := ⟨_, rfl⟩
   have hM3 := hM'.ext (hxr.trans hXn)
   have hRi3 := hRi.ext (hxr.trans hXn)
   have hxr3 := hxr2.ext (hxr.trans hXn)
   repeat' (first | (apply WL.call (f := 18); (iterate 4 exact rfl); exact ref17_Next gm c rn ra _ _ _ _ (stateV c.t r.s r.i k) x.2.2 _ (hM3.ext extA) (RSt2.ext extA) (hxr3.ext extA); rintro v' w' ⟨hx, a', cap', rfl, hO⟩) | (first | apply WL.nil | refine WL.au (k := ?_) | (apply WL.index tOk; (iterate 8 exact rfl); assumption; exact extA; exact rfl; omega; assumption; intro b off h; have hcc := h; first | (obtain ⟨h1, h2, h3, h4, h5, h6, _⟩ := h) | (obtain ⟨h1, h2, h3, _⟩ := h) | (obtain ⟨h1, h2, _⟩ := h) | (obtain ⟨h1, _⟩ := h))) | (first | apply Z.tn | apply Z.bkn) | apply W.region)
   rw [<- e1] at hO ⊢
   exact Z.againO2 a3 c3 a' cap' ⟨by omega, hXn.trans extA, _, hl2, he2, RR1.new hR2 extA hO (Below.size hXn)⟩ ⟨rfl, rfl, congrArg (fun z => some (Value.slice a3 z c3)) hl2, rfl, rfl, trivial⟩
  ·obtain rfl : k = r.ins.2.2.length := by omega
   repeat' (first | (apply W.cKF; exact rfl; exact dFf (by omega)) | (first | apply WL.nil | refine WL.au (k := ?_)) | (first | apply Z.tn | apply Z.tnx | apply Z.bkx) | (first | apply W.seq | apply W.region | apply W.ret | apply W.exit))
   have he' : rs.map (fun q => q.2.2) = statesV c.t r.s r.i := by rw [he]; unfold statesV; rw [runI_len]
   refine Z.bd1 Try.results31 rfl fun m => ⟨hXw2.at m, a, cp, rs, by rw [hl], (hR1.rr.base (Below.size hxr)).at m, he'⟩

theorem statesV_i (c : CirT) (r : RunV) {k : Nat} {rs : List (RowV Bool)} (h : rs.map (fun q => q.2.2) = statesV c r.s r.i) (hk : k < r.ins.2.2.length) : ∃ q, rs[k]? = some q /\ q.2.2 = stateV c r.s r.i k := by
 have h1 : (rs.map (fun q => q.2.2))[k]? = some (stateV c r.s r.i k) := by rw [h]; exact statesV_get c r.s r.i (by rw [runI_len]; exact hk)
 rw [List.getElem?_map] at h1
 obtain ⟨q, hq, he⟩ := Option.map_eq_some_iff.1 h1
 exact ⟨q, hq, he⟩

theorem Cells.keepB {w w' : World} {b : Nat} (e : w'.heap[b]? = w.heap[b]?) : ∀ {L : List Value} {o : Nat}, Cells w b o L -> Cells w' b o L
 | [], _, _ => trivial
 | u :: r, o, hc => ⟨by have h3 := hc.1; simp only [World.cell?] at h3 ⊢; rw [e]; exact h3, Cells.keepB e hc.2⟩
theorem MAt.keepU {w w1 w2 : World} {gm g B : Nat} {c : Circ} {rn : RowV (Int × Int)} {ra : RowV Int} (h : MAt w1 gm c rn ra) (hC : CAt w c) (hx : Ext w w2) (hU : Upd B (some ⟨g, 0, none⟩) w1 w2) (hm : gm < w1.heap.size /\ gm ≠ g) (hn : ∀ k, blk rn.1 = some k -> k < w1.heap.size /\ k ≠ g) (ha : ∀ k, blk ra.1 = some k -> k < w1.heap.size /\ k ≠ g) : MAt w2 gm c rn ra := by
 have key : ∀ k, k < w1.heap.size /\ k ≠ g -> w2.heap[k]? = w1.heap[k]? := fun k hk => hU.grown.block k hk.1 fun he => by
  simp only [blk, Option.map_some, Option.some.injEq] at he; exact hk.2 he
 exact ⟨Cells.keepB (key gm hm) h.cells, hC.ext hx, h.net.keep fun k hk => key k (hn k hk), h.at_.keep fun k hk => key k (ha k hk), h.en, h.ea, h.good, h.size⟩
theorem Row.keepU {α : Type} {s : Nat} {enc : α -> List Value} {w1 w2 : World} {g B : Nat} {a : Option Addr} {l : List α} (h : Row s enc w1 a l) (hU : Upd B (some ⟨g, 0, none⟩) w1 w2) (ha : ∀ k, blk a = some k -> k < w1.heap.size /\ k ≠ g) : Row s enc w2 a l :=
 h.keep fun k hk => hU.grown.block k (ha k hk).1 fun he => by
  simp only [blk, Option.map_some, Option.some.injEq] at he; exact (ha k hk).2 he
end Go.Proofs.Yteidpnpbfagaeaa
