/- LiftLifts: what lifting a state is, and that it holds. No conditions. -/
import Derived.Test.YtlcenenkloicjaaRows
import Derived.Lib.SmallJoins
import Derived.KernelRfl
import Derived.WalkKit
import Derived.ProofKit
import Derived.Deep.Quiet
import Derived.Deep.LoopGhost
import Derived.StillTail
import Derived.Test.YtlcenenkloicjaaProg
import Derived.OpenShut
import Derived.ShutString
import Derived.ChangeOld
import Derived.Deep.Slices
import Derived.SizedLaws
import Derived.Laws.StructEq
import Derived.Test.YtlcenenkloicjaaLiftLiftsP4
namespace Go.Proofs.Ytlcenenkloicjaa
open Go Go.Lt Go.RowKit
set_option linter.unusedVariables false
set_option linter.unusedSimpArgs false
set_option maxRecDepth 20000

/-- Up to a place all is -1, behind the first. -/
structure AtK (m k : Nat) (A : List Int) : Prop where
  len : A.length = m + 1
  zero : A[0]? = some 0
  neg : ∀ u : Nat, 1 ≤ u → u < k → A[u]? = some (-1)
theorem AtK.all {m : Nat} {A : List Int} (h : AtK m (m + 1) A) : A = cAt0 (m : Int) := by
  apply List.ext_getElem?
  intro u
  have hr := PutOk.start m
  by_cases hu : u < m + 1
  · cases u with
    | zero => rw [h.zero]; exact hr.zero.symm
    | succ u => rw [h.neg (u + 1) (by omega) hu]; exact (hr.not (u + 1) (by omega) (by omega) (fun l hl => by cases hl)).symm
  · rw [List.getElem?_eq_none (by have := h.len; omega)]
    have h2 : (cAt0 (m : Int)).length = m + 1 := hr.len2
    exact (List.getElem?_eq_none (by omega)).symm
theorem Sep.perm4 {B : Nat} {w : World} {p q r s : Piece} (hS : Lt.Sep B w [p, q, r, s]) : Lt.Sep B w [r, p, s, q] := by
  refine hS.pick (fun i => match i with | 0 => 2 | 1 => 0 | 2 => 3 | _ => 1) (fun i x h => ?_) (fun i j hi hj hne => ?_)
  · match i, h with
    | 0, h => exact h
    | 1, h => exact h
    | 2, h => exact h
    | 3, h => exact h
  · have hi' : i < 4 := hi
    have hj' : j < 4 := hj
    match i, j, hi', hj', hne with
    | 0, 1, _, _, _ => decide
    | 0, 2, _, _, _ => decide
    | 0, 3, _, _, _ => decide
    | 1, 0, _, _, _ => decide
    | 1, 2, _, _, _ => decide
    | 1, 3, _, _, _ => decide
    | 2, 0, _, _, _ => decide
    | 2, 1, _, _, _ => decide
    | 2, 3, _, _, _ => decide
    | 3, 0, _, _, _ => decide
    | 3, 1, _, _, _ => decide
    | 3, 2, _, _, _ => decide
    | 0, 0, _, _, h => exact absurd rfl h
    | 1, 1, _, _, h => exact absurd rfl h
    | 2, 2, _, _, h => exact absurd rfl h
    | 3, 3, _, _, h => exact absurd rfl h
set_option maxHeartbeats 32000000 in
theorem circ_Net (c : Circ) (w : World) (hC : CAt w c) (hg : GoodC' c.t) (hz : SzC c.t 100000) :
    Lt.Spec Try.prog 56 [c.val] w (IsFresh2 2 encN 70 1 encI 3 w (cNet c.t).1 (cNet c.t).2) := by
  have z1 : c.ins.2.2.length ≤ 100000 := hz.1
  have z2 : c.lat.2.2.length ≤ 100000 := hz.2.1
  have z6 : c.gates.2.2.length ≤ 100000 := hz.2.2.2.2.2
  have hm : 0 ≤ c.max ∧ c.max ≤ 16777216 := hg.max
  have hcm : c.t.max = c.max := rfl
  obtain ⟨m, hmm⟩ : ∃ m : Nat, c.max = (m : Int) := ⟨c.max.toNat, by omega⟩
  have hmt : c.max.toNat = m := by omega
  have hown : ∀ x ∈ c.t.own, 2 ≤ x ∧ x % 2 = 0 ∧ x ≤ 2 * c.max := hg.own
  have hused : ∀ x ∈ c.t.used, 0 ≤ x ∧ x ≤ 2 * c.max + 1 := hg.used
  refine Spec.of _ Try.func56 rfl Try.ntmps56 (by kernel_rfl) rfl ?_
  repeat' (first
    | (apply WL.box; exact rfl; exact rfl; exact rfl; intro gb w' hb hge hc hx; have hcc := hc; (first | (obtain ⟨h1, h2, h3, _⟩ := hc) | (obtain ⟨h1, h2, _⟩ := hc)); (have hcells := hcc; obtain ⟨y0, y1, y2, y3, y4, y5, y6, _⟩ := hcc; obtain ⟨gc, rfl⟩ : ∃ x, x = gb := ⟨_, rfl⟩; obtain ⟨wc, rfl⟩ : ∃ x, x = w' := ⟨_, rfl⟩; obtain ⟨hxc, rfl⟩ : ∃ x, x = hx := ⟨_, rfl⟩; have hS : Lt.Sep wc.heap.size wc [prow 2 encN 70 wc.heap.size none 0 []] := Sep.newRow Sep.none' (Ext.refl _) Own.nil (fun k hk => by cases hk) (Nat.le_refl _)))
    | (apply WL.alloc tOk; exact rfl; exact rfl; exact rfl; intro gb w' hb hge hx; replace hS := Sep.newCell (Sep.ext hS (by (exact extA))) hx hb hge (by (first | exact Nat.le_refl _ | exact Below.size (by (exact extA)))); (try simp only [List.set_cons_zero, List.set_cons_succ] at hS); (try have hR0 := hS.row (i := 0) rfl); (try have hR1 := hS.row (i := 1) rfl); (try have hR2 := hS.row (i := 2) rfl); (try have hR3 := hS.row (i := 3) rfl); (try have hR4 := hS.row (i := 4) rfl); (try have hC0 := hS.cell (i := 0) rfl); (try have hD0 := (cells_heap hC0).1); (try have hE0 := (cells_heap hC0).2.1); (try have hF0 := (cells_heap hC0).2.2.1); (try have hG0 := (cells_heap hC0).2.2.2.1); (try have hC1 := hS.cell (i := 1) rfl); (try have hD1 := (cells_heap hC1).1); (try have hE1 := (cells_heap hC1).2.1); (try have hF1 := (cells_heap hC1).2.2.1); (try have hG1 := (cells_heap hC1).2.2.2.1); (try have hC2 := hS.cell (i := 2) rfl); (try have hD2 := (cells_heap hC2).1); (try have hE2 := (cells_heap hC2).2.1); (try have hF2 := (cells_heap hC2).2.2.1); (try have hG2 := (cells_heap hC2).2.2.2.1); (try have hC3 := hS.cell (i := 3) rfl); (try have hD3 := (cells_heap hC3).1); (try have hE3 := (cells_heap hC3).2.1); (try have hF3 := (cells_heap hC3).2.2.1); (try have hG3 := (cells_heap hC3).2.2.2.1); (try have hC4 := hS.cell (i := 4) rfl); (try have hD4 := (cells_heap hC4).1); (try have hE4 := (cells_heap hC4).2.1); (try have hF4 := (cells_heap hC4).2.2.1); (try have hG4 := (cells_heap hC4).2.2.2.1); (try have hM0 := hS.map (i := 0) rfl); (try have hM1 := hS.map (i := 1) rfl); (try have hM2 := hS.map (i := 2) rfl); (try have hM3 := hS.map (i := 3) rfl); (try have hM4 := hS.map (i := 4) rfl); (first | (have h_0 := g4; clear h_0) | (obtain ⟨g4, rfl⟩ : ∃ x, x = gb := ⟨_, rfl⟩)))
    | (apply WL.make (w0 := wc) (z := (0:Int)) tOk; exact rfl; exact rfl; exact rfl; exact rfl; exact rfl; exact rfl; exact rfl; exact rfl; exact rfl; exact encI_ok; exact rfl; exact rfl; (exact extA); (first | omega | (simp; omega) | (simp at *; omega)); intro gb w' hO hge hx; replace hS := Sep.newRow (Sep.ext hS (by (exact extA))) hx hO (fun k hk => by cases hk; exact hge) (by (first | exact Nat.le_refl _ | exact Below.size (by (exact extA)))); (try simp only [List.set_cons_zero, List.set_cons_succ] at hS); (try have hR0 := hS.row (i := 0) rfl); (try have hR1 := hS.row (i := 1) rfl); (try have hR2 := hS.row (i := 2) rfl); (try have hR3 := hS.row (i := 3) rfl); (try have hR4 := hS.row (i := 4) rfl); (try have hC0 := hS.cell (i := 0) rfl); (try have hD0 := (cells_heap hC0).1); (try have hE0 := (cells_heap hC0).2.1); (try have hF0 := (cells_heap hC0).2.2.1); (try have hG0 := (cells_heap hC0).2.2.2.1); (try have hC1 := hS.cell (i := 1) rfl); (try have hD1 := (cells_heap hC1).1); (try have hE1 := (cells_heap hC1).2.1); (try have hF1 := (cells_heap hC1).2.2.1); (try have hG1 := (cells_heap hC1).2.2.2.1); (try have hC2 := hS.cell (i := 2) rfl); (try have hD2 := (cells_heap hC2).1); (try have hE2 := (cells_heap hC2).2.1); (try have hF2 := (cells_heap hC2).2.2.1); (try have hG2 := (cells_heap hC2).2.2.2.1); (try have hC3 := hS.cell (i := 3) rfl); (try have hD3 := (cells_heap hC3).1); (try have hE3 := (cells_heap hC3).2.1); (try have hF3 := (cells_heap hC3).2.2.1); (try have hG3 := (cells_heap hC3).2.2.2.1); (try have hC4 := hS.cell (i := 4) rfl); (try have hD4 := (cells_heap hC4).1); (try have hE4 := (cells_heap hC4).2.1); (try have hF4 := (cells_heap hC4).2.2.1); (try have hG4 := (cells_heap hC4).2.2.2.1); (try have hM0 := hS.map (i := 0) rfl); (try have hM1 := hS.map (i := 1) rfl); (try have hM2 := hS.map (i := 2) rfl); (try have hM3 := hS.map (i := 3) rfl); (try have hM4 := hS.map (i := 4) rfl); (obtain ⟨ga, rfl⟩ : ∃ x, x = gb := ⟨_, rfl⟩))
    | (apply WL.storeB (w0 := wc) tOk; exact rfl; exact rfl; exact rfl; exact rfl; assumption; (exact extA); exact rfl; exact rfl; exact rfl; (exact extA); (first | assumption | omega | (focus (apply Nat.le_trans; rotate_left; assumption; exact Below.size (by (exact extA)); done))); intro w' hb hc hX' hU; have hcc := hc; obtain ⟨h1, h2, _⟩ := hc; (first | replace hS := Sep.updCell (i := 0) rfl hU hb hS (by (exact extA)) (by (first | exact Nat.le_refl _ | exact Below.size (by (exact extA)))) | replace hS := Sep.updCell (i := 1) rfl hU hb hS (by (exact extA)) (by (first | exact Nat.le_refl _ | exact Below.size (by (exact extA)))) | replace hS := Sep.updCell (i := 2) rfl hU hb hS (by (exact extA)) (by (first | exact Nat.le_refl _ | exact Below.size (by (exact extA)))) | replace hS := Sep.updCell (i := 3) rfl hU hb hS (by (exact extA)) (by (first | exact Nat.le_refl _ | exact Below.size (by (exact extA))))); (try simp only [List.set_cons_zero, List.set_cons_succ] at hS); (try have hR0 := hS.row (i := 0) rfl); (try have hR1 := hS.row (i := 1) rfl); (try have hR2 := hS.row (i := 2) rfl); (try have hR3 := hS.row (i := 3) rfl); (try have hR4 := hS.row (i := 4) rfl); (try have hC0 := hS.cell (i := 0) rfl); (try have hD0 := (cells_heap hC0).1); (try have hE0 := (cells_heap hC0).2.1); (try have hF0 := (cells_heap hC0).2.2.1); (try have hG0 := (cells_heap hC0).2.2.2.1); (try have hC1 := hS.cell (i := 1) rfl); (try have hD1 := (cells_heap hC1).1); (try have hE1 := (cells_heap hC1).2.1); (try have hF1 := (cells_heap hC1).2.2.1); (try have hG1 := (cells_heap hC1).2.2.2.1); (try have hC2 := hS.cell (i := 2) rfl); (try have hD2 := (cells_heap hC2).1); (try have hE2 := (cells_heap hC2).2.1); (try have hF2 := (cells_heap hC2).2.2.1); (try have hG2 := (cells_heap hC2).2.2.2.1); (try have hC3 := hS.cell (i := 3) rfl); (try have hD3 := (cells_heap hC3).1); (try have hE3 := (cells_heap hC3).2.1); (try have hF3 := (cells_heap hC3).2.2.1); (try have hG3 := (cells_heap hC3).2.2.2.1); (try have hC4 := hS.cell (i := 4) rfl); (try have hD4 := (cells_heap hC4).1); (try have hE4 := (cells_heap hC4).2.1); (try have hF4 := (cells_heap hC4).2.2.1); (try have hG4 := (cells_heap hC4).2.2.2.1); (try have hM0 := hS.map (i := 0) rfl); (try have hM1 := hS.map (i := 1) rfl); (try have hM2 := hS.map (i := 2) rfl); (try have hM3 := hS.map (i := 3) rfl); (try have hM4 := hS.map (i := 4) rfl))
    | (show WL _ _ _ _ _ _ _; first | apply WL.nil | (refine WL.au (k := ?_)))
    | (show Z _ _ _ _ _; apply Z.then_normal)
    | (show W _ _ _ _ _ _; first | apply W.seq | apply W.region | apply W.block)
    | fail)
  obtain ⟨g5, rfl⟩ : ∃ x, x = gb := ⟨_, rfl⟩
  have e1 : (c.max + 1).toNat = m + 1 := by omega
  rw [e1, List.length_replicate] at hS
  have hS2 : Lt.Sep wc.heap.size w' (netP wc.heap.size g4 g5 none 0 (some ⟨ga, 0, none⟩) (m + 1) ([], List.replicate (m + 1) 0)) := by
    have := Sep.perm4 hS
    unfold netP
    rw [List.length_replicate]
    exact this
  have hA0 : AtK m 1 (List.replicate (m + 1) 0) := ⟨by simp, rfl, fun u h1 h2 => by omega⟩
  have hX1 : Ext wc w' := (by (exact extA))
  refine W.loopW (m + 1) (fun k w' => k ≤ m ∧ Ext wc w' ∧ ∃ A, AtK m (k + 1) A ∧ Lt.Sep wc.heap.size w' (netP wc.heap.size g4 g5 none 0 (some ⟨ga, 0, none⟩) (m + 1) ([], A))) (fun k => [(1, .pointer (some ⟨gc, 0, none⟩)), (4, .pointer (some ⟨g4, 0, none⟩)), (5, .pointer (some ⟨g5, 0, none⟩)), (6, .int .i64 ((k : Int) + 1))]) ⟨Nat.zero_le _, hX1, _, hA0, hS2⟩ (fun k w' h => by have := h.1; omega) ⟨rfl, rfl, rfl, rfl, trivial⟩ ?_
  clear hS hS2 hA0 hX1
  rintro k w3 ⟨hk, hX3, A, hA, hS⟩
  have hlA := hA.len
  have hlA2 : (([], A) : NA).2.length = m + 1 := hA.len
  have k1 := (cells_heap (hS.cell (i := 1) rfl)).1
  have hAo := hS.row (i := 3) rfl
  by_cases hlt : k < m
  · obtain ⟨yv, hyv⟩ := getI A (show ((k : Int) + 1).toNat < A.length by omega)
    repeat' (first
      | (show WL _ _ _ _ _ _ _; first | apply WL.nil | (refine WL.au (k := ?_)))
      | (show Z _ _ _ _ _; apply Z.then_normal)
      | (show W _ _ _ _ _ _; first | apply W.seq | apply W.region)
      | fail)
    refine W.condKT rfl (dec_true (by omega)) ?_
    repeat' (first
      | (apply WL.indexO tOk; exact rfl; exact rfl; exact rfl; exact rfl; exact rfl; exact rfl; exact rfl; exact rfl; assumption; (exact extA); exact encI_ok; (first | exact rfl | (focus (simp only [List.length_set]; done)) | (focus (simp; done)) | (focus (simp [*]; done)) | omega | (focus (simp only [List.length_set]; omega))); omega; assumption; intro gb ha hc; cases ha; have hcc := hc; first | (obtain ⟨h1, h2, h3, _⟩ := hc) | (obtain ⟨h1, h2, _⟩ := hc) | (obtain ⟨h1, _⟩ := hc))
      | (apply WL.storeO (z' := ((-1 : Int))) tOk; exact rfl; exact rfl; exact rfl; exact rfl; assumption; (exact extA); exact rfl; exact rfl; exact rfl; exact encI_ok; assumption; exact rfl; (exact extA); intro w' hO hX' hU)
      | (show WL _ _ _ _ _ _ _; first | apply WL.nil | (refine WL.au (k := ?_)))
      | (show Z _ _ _ _ _; first | apply Z.then_normal | apply Z.block_normal)
      | (show W _ _ _ _ _ _; first | apply W.seq | apply W.region | apply W.block | apply W.skip)
      | fail)
    have hS3 := Sep.updRow (i := 3) rfl hU hO (.inl rfl) hS (Ext.refl _) (Below.size hX3)
    refine Z.againW ⟨by omega, (by (exact extA)), A.set ((k : Int) + 1).toNat (-1), ⟨by simp [hlA], ?_, fun u h1 h2 => ?_⟩, ?_⟩ ⟨rfl, rfl, rfl, rfl, trivial⟩
    · rw [List.getElem?_set_ne (by omega)]; exact hA.zero
    · by_cases hu : u = k + 1
      · subst hu; rw [show ((k : Int) + 1).toNat = k + 1 by omega, List.getElem?_set_self (by omega)]
      · rw [List.getElem?_set_ne (by omega)]; exact hA.neg u h1 (by omega)
    · unfold netP
      rw [List.length_set]
      exact hS3
  obtain rfl : k = m := by omega
  obtain rfl := hA.all
  repeat' (first
    | (show WL _ _ _ _ _ _ _; first | apply WL.nil | (refine WL.au (k := ?_)))
    | (show Z _ _ _ _ _; apply Z.then_normal)
    | (show W _ _ _ _ _ _; first | apply W.seq | apply W.region)
    | fail)
  refine W.condKF rfl (dec_false (by omega)) ?_
  repeat' (first
    | (show WL _ _ _ _ _ _ _; first | apply WL.nil | (refine WL.au (k := ?_)))
    | (show Z _ _ _ _ _; first | apply Z.then_normal | apply Z.then_exit | apply Z.block_exit)
    | (show W _ _ _ _ _ _; first | apply W.seq | apply W.region | apply W.block | apply W.exit)
    | fail)
  have Ri := hC.ins.row.ext hxc
  have Rl := hC.lat.row.ext hxc
  have Rg := hC.gates.row.ext hxc
  have hown1 : ∀ x ∈ c.ins.2.2, 2 ≤ x ∧ x % 2 = 0 ∧ x ≤ 2 * c.max := fun x hx => hown x (List.mem_append_left _ (List.mem_append_left _ hx))
  have hown2 : ∀ x ∈ c.lat.2.2, 2 ≤ x.1 ∧ x.1 % 2 = 0 ∧ x.1 ≤ 2 * c.max := fun x hx => hown x.1 (List.mem_append_left _ (List.mem_append_right _ (List.mem_map.2 ⟨x, hx, rfl⟩)))
  have e10 : cS1 c.t 0 = ([], cAt0 (k : Int)) := by rw [cS1_0, hcm, hmm]
  refine W.loopW c.ins.2.2.length (fun j w' => j ≤ c.ins.2.2.length ∧ Ext wc w' ∧ ∃ an cn, Lt.Sep wc.heap.size w' (netP wc.heap.size g4 g5 an cn (some ⟨ga, 0, none⟩) (k + 1) (cS1 c.t j) ++ [])) (fun j => [(1, .pointer (some ⟨gc, 0, none⟩)), (4, .pointer (some ⟨g4, 0, none⟩)), (5, .pointer (some ⟨g5, 0, none⟩)), (7, .func (.func 85) #[] #[.pointer (some ⟨g4, 0, none⟩), .pointer (some ⟨g5, 0, none⟩)]), (31, rowVal c.ins), (32, .int .i64 (c.ins.2.2.length : Nat)), (33, .int .i64 j)]) ⟨Nat.zero_le _, hX3, none, 0, by rw [e10]; exact hS⟩ (fun k w' h => h.1) ⟨rfl, rfl, rfl, rfl, rfl, rfl, rfl, trivial⟩ ?_
  clear hS hAo k1 hX3 hlA hlA2 hA
  rintro j w4 ⟨hj, hX4, an, cn, hS⟩
  have hl1 : (cS1 c.t j).1.length = j ∧ (cS1 c.t j).2.length = c.max.toNat + 1 := cS1_len c.t hj
  by_cases hlt : j < c.ins.2.2.length
  · obtain ⟨x, hgx⟩ := getI c.ins.2.2 hlt
    have hxo := hown1 x (List.mem_of_getElem? hgx)
    have e1 := cS1_s (c := c.t) hgx
    have hcall := circ_Net1 wc w4 g4 g5 an cn (some ⟨ga, 0, none⟩) (k + 1) (cS1 c.t j) [] x (-1, 0) hX4 hS (by omega) (by omega) (by omega)
    repeat' (first
      | (show WL _ _ _ _ _ _ _; first | apply WL.nil | (refine WL.au (k := ?_)))
      | (show Z _ _ _ _ _; apply Z.then_normal)
      | (show W _ _ _ _ _ _; first | apply W.seq | apply W.region)
      | fail)
    refine W.condKT rfl (dec_true (by omega)) ?_
    repeat' (first
      | (apply WL.build tOk; exact rfl; exact rfl; exact rfl; exact rfl; exact rfl; exact rfl; exact rfl; kernel_rfl)
      | ((show WL _ _ _ (⟨_, .call ⟨.value (.tmp _), _, _⟩, _, _, _, _⟩ :: _) _ _ _; apply WL.call; exact rfl; exact rfl; exact rfl; exact rfl; exact hcall; rintro v' w5 ⟨rfl, hX5, an2, cn2, hS5⟩))
      | (show WL _ _ _ _ _ _ _; first | apply WL.nil | (refine WL.au (k := ?_)) | (apply WL.index tOk; exact rfl; exact rfl; exact rfl; exact rfl; exact rfl; exact rfl; exact rfl; exact rfl; assumption; (exact extA); exact rfl; omega; assumption; intro b off h; have hcc := h; first | (obtain ⟨h1, h2, h3, h4, h5, h6, _⟩ := h) | (obtain ⟨h1, h2, h3, _⟩ := h) | (obtain ⟨h1, h2, _⟩ := h) | (obtain ⟨h1, _⟩ := h)))
      | (show Z _ _ _ _ _; first | apply Z.then_normal | apply Z.block_normal)
      | (show W _ _ _ _ _ _; first | apply W.seq | apply W.region | apply W.block | apply W.skip)
      | fail)
    exact Z.againW ⟨by omega, hX5, an2, cn2, by rw [e1]; exact hS5⟩ ⟨rfl, rfl, rfl, rfl, rfl, rfl, rfl, trivial⟩
  obtain rfl : j = c.ins.2.2.length := by omega
  repeat' (first
    | (show WL _ _ _ _ _ _ _; first | apply WL.nil | (refine WL.au (k := ?_)))
    | (show Z _ _ _ _ _; apply Z.then_normal)
    | (show W _ _ _ _ _ _; first | apply W.seq | apply W.region)
    | fail)
  refine W.condKF rfl (dec_false (by omega)) ?_
  repeat' (first
    | (show WL _ _ _ _ _ _ _; first | apply WL.nil | (refine WL.au (k := ?_)))
    | (show Z _ _ _ _ _; first | apply Z.then_normal | apply Z.then_exit | apply Z.block_exit)
    | (show W _ _ _ _ _ _; first | apply W.seq | apply W.region | apply W.block | apply W.exit)
    | fail)
  have e20 : cS2 c.t 0 = cS1 c.t c.ins.2.2.length := cS2_0 c.t
  refine W.loopW c.lat.2.2.length (fun j w' => j ≤ c.lat.2.2.length ∧ Ext wc w' ∧ ∃ an cn, Lt.Sep wc.heap.size w' (netP wc.heap.size g4 g5 an cn (some ⟨ga, 0, none⟩) (k + 1) (cS2 c.t j) ++ [])) (fun j => [(1, .pointer (some ⟨gc, 0, none⟩)), (4, .pointer (some ⟨g4, 0, none⟩)), (5, .pointer (some ⟨g5, 0, none⟩)), (7, .func (.func 85) #[] #[.pointer (some ⟨g4, 0, none⟩), .pointer (some ⟨g5, 0, none⟩)]), (43, rowVal c.lat), (44, .int .i64 (c.lat.2.2.length : Nat)), (45, .int .i64 j)]) ⟨Nat.zero_le _, hX4, an, cn, by rw [e20]; exact hS⟩ (fun k w' h => h.1) ⟨rfl, rfl, rfl, rfl, rfl, rfl, rfl, trivial⟩ ?_
  clear hS hX4 hl1 hj hlt
  rintro j w4 ⟨hj, hX4, an, cn, hS⟩
  have hl1 : (cS2 c.t j).1.length = c.ins.2.2.length + j ∧ (cS2 c.t j).2.length = c.max.toNat + 1 := cS2_len c.t hj
  by_cases hlt : j < c.lat.2.2.length
  · obtain ⟨x, hgx⟩ := getI c.lat.2.2 hlt
    have hxo := hown2 x (List.mem_of_getElem? hgx)
    have e1 := cS2_s (c := c.t) hgx
    have hcall := fun (w9 : World) (h9 : Ext w4 w9) => circ_Net1 wc w9 g4 g5 an cn (some ⟨ga, 0, none⟩) (k + 1) (cS2 c.t j) [] x.1 (-1, 0) (hX4.trans h9) (hS.ext h9) (by omega) (by omega) (by omega)
    repeat' (first
      | (show WL _ _ _ _ _ _ _; first | apply WL.nil | (refine WL.au (k := ?_)))
      | (show Z _ _ _ _ _; apply Z.then_normal)
      | (show W _ _ _ _ _ _; first | apply W.seq | apply W.region)
      | fail)
    refine W.condKT rfl (dec_true (by omega)) ?_
    repeat' (first
      | (apply WL.alloc tOk; exact rfl; exact rfl; exact rfl; intro gb w' hb hge hx)
      | (apply WL.storeB (w0 := w4) tOk; exact rfl; exact rfl; exact rfl; exact rfl; assumption; (exact extA); exact rfl; exact rfl; exact rfl; (exact extA); (first | assumption | omega | (focus (apply Nat.le_trans; rotate_left; assumption; exact Below.size (by (exact extA)); done))); intro w' hb hc hX' hU; have hcc := hc; obtain ⟨h1, h2, _⟩ := hc; (have hC8 := cells_heap hb; obtain ⟨i0, i1, i2, _⟩ := hC8))
      | (apply WL.build tOk; exact rfl; exact rfl; exact rfl; exact rfl; exact rfl; exact rfl; exact rfl; kernel_rfl)
      | ((show WL _ _ _ (⟨_, .call ⟨.value (.tmp _), _, _⟩, _, _, _, _⟩ :: _) _ _ _; apply WL.call; exact rfl; exact rfl; exact rfl; exact rfl; exact hcall _ (by (exact extA)); rintro v' w5 ⟨rfl, hX5, an2, cn2, hS5⟩))
      | (show WL _ _ _ _ _ _ _; first | apply WL.nil | (refine WL.au (k := ?_)) | (apply WL.index tOk; exact rfl; exact rfl; exact rfl; exact rfl; exact rfl; exact rfl; exact rfl; exact rfl; assumption; (exact extA); exact rfl; omega; assumption; intro b off h; have hcc := h; first | (obtain ⟨h1, h2, h3, h4, h5, h6, _⟩ := h) | (obtain ⟨h1, h2, h3, _⟩ := h) | (obtain ⟨h1, h2, _⟩ := h) | (obtain ⟨h1, _⟩ := h)))
      | (show Z _ _ _ _ _; first | apply Z.then_normal | apply Z.block_normal)
      | (show W _ _ _ _ _ _; first | apply W.seq | apply W.region | apply W.block | apply W.skip)
      | fail)
    exact Z.againW ⟨by omega, hX5, an2, cn2, by rw [e1]; exact hS5⟩ ⟨rfl, rfl, rfl, rfl, rfl, rfl, rfl, trivial⟩
  obtain rfl : j = c.lat.2.2.length := by omega
  repeat' (first
    | (show WL _ _ _ _ _ _ _; first | apply WL.nil | (refine WL.au (k := ?_)))
    | (show Z _ _ _ _ _; apply Z.then_normal)
    | (show W _ _ _ _ _ _; first | apply W.seq | apply W.region)
    | fail)
  refine W.condKF rfl (dec_false (by omega)) ?_
  have hgm : ∀ g ∈ c.gates.2.2, g.1 ∈ c.t.own ∧ g.2.1 ∈ c.t.used ∧ g.2.2 ∈ c.t.used := fun g hg =>
    ⟨List.mem_append.2 (.inr (List.mem_map.2 ⟨g, hg, rfl⟩)), List.mem_append.2 (.inr (List.mem_flatMap.2 ⟨g, hg, by simp⟩)), List.mem_append.2 (.inr (List.mem_flatMap.2 ⟨g, hg, by simp⟩))⟩
  have hok : gsOk c.gates.2.2 := fun g hg => by
    obtain ⟨r1, r2, r3⟩ := hgm g hg
    have := hown _ r1
    have := hused _ r2
    have := hused _ r3
    omega
  have h7 : ¬ Twice c.t := fun ⟨i, x, a1, a2⟩ => by
    have h3 := List.pairwise_iff_getElem.1 (List.nodup_iff_pairwise_ne.1 hg.once)
    obtain ⟨j, hj, he⟩ := List.mem_take_iff_getElem.1 a2
    obtain ⟨hi, he2⟩ := List.getElem?_eq_some_iff.1 a1
    exact h3 j i (by omega) hi (by omega) (by rw [he, he2])
  have honce : Once c.gates.2.2 := once_of (c := c.t) h7 fun x hx => (hown x hx).2.1
  have hcells4 := hcells.ext hX4
  have x0 : Cells w4 gc 0 c.vals := hcells4
  repeat' (first
    | ((show WL _ _ _ (⟨_, .call ⟨.value (.func 87), _, _⟩, _, _, _, _⟩ :: _) _ _ _); apply WL.call; exact rfl; exact rfl; exact rfl; exact rfl; exact circ_Order c _ (Rg.ext (by (exact extA))) hok (by omega) honce; rintro v' w' ⟨hx, a', cap', rfl, hO⟩; (obtain ⟨hOd, rfl⟩ : ∃ x, x = hO := ⟨_, rfl⟩; obtain ⟨hxd, rfl⟩ : ∃ x, x = hx := ⟨_, rfl⟩; obtain ⟨wd, rfl⟩ : ∃ x, x = w' := ⟨_, rfl⟩; obtain ⟨ad, rfl⟩ : ∃ x, x = a' := ⟨_, rfl⟩; obtain ⟨cd, rfl⟩ : ∃ x, x = cap' := ⟨_, rfl⟩))
    | (show WL _ _ _ _ _ _ _; first | apply WL.nil | (refine WL.au (k := ?_)))
    | (show Z _ _ _ _ _; first | apply Z.then_normal | apply Z.then_exit | apply Z.block_exit)
    | (show W _ _ _ _ _ _; first | apply W.seq | apply W.region | apply W.block | apply W.exit)
    | fail)
  have hS0 : Lt.Sep wc.heap.size wd (netP wc.heap.size g4 g5 an cn (some ⟨ga, 0, none⟩) (k + 1) (cS2 c.t c.lat.2.2.length) ++ [prow 1 encI 3 wc.heap.size ad cd (natI (ordL c.gates.2.2))]) := by
    have h1 := hS.newRow' hxd hOd (Below.size hX4)
    rw [List.append_nil] at h1
    exact Sep.comm (ps := [prow 1 encI 3 wc.heap.size ad cd (natI (ordL c.gates.2.2))]) h1
  have hXd : Ext wc wd := (by (exact extA))
  have e30 : cS3 c.t 0 = cS2 c.t c.lat.2.2.length := cS3_0 c.t
  have hnl : (natI (ordL c.gates.2.2)).length = (ordL c.gates.2.2).length := by simp [natI]
  have hol : (ordL c.gates.2.2).length ≤ c.gates.2.2.length := (ordL_is c.gates.2.2).1.le
  refine W.loopW (ordL c.gates.2.2).length (fun j w' => j ≤ (ordL c.gates.2.2).length ∧ Ext wc w' ∧ ∃ an cn, Lt.Sep wc.heap.size w' (netP wc.heap.size g4 g5 an cn (some ⟨ga, 0, none⟩) (k + 1) (cS3 c.t j) ++ [prow 1 encI 3 wc.heap.size ad cd (natI (ordL c.gates.2.2))])) (fun j => [(1, .pointer (some ⟨gc, 0, none⟩)), (4, .pointer (some ⟨g4, 0, none⟩)), (5, .pointer (some ⟨g5, 0, none⟩)), (7, .func (.func 85) #[] #[.pointer (some ⟨g4, 0, none⟩), .pointer (some ⟨g5, 0, none⟩)]), (12, .func (.func 86) #[] #[.pointer (some ⟨g5, 0, none⟩)]), (57, .slice ad (natI (ordL c.gates.2.2)).length cd), (58, .int .i64 (natI (ordL c.gates.2.2)).length), (59, .int .i64 j)]) ⟨Nat.zero_le _, hXd, an, cn, by rw [e30]; exact hS0⟩ (fun k w' h => h.1) ⟨rfl, rfl, rfl, rfl, rfl, rfl, rfl, rfl, trivial⟩ ?_
  clear hS hS0 hX4 hl1 hj hlt hcells4 x0 hXd
  rintro j w4 ⟨hj, hX4, an, cn, hS⟩
  have hl1 : (cS3 c.t j).1.length = c.ins.2.2.length + c.lat.2.2.length + j ∧ (cS3 c.t j).2.length = c.max.toNat + 1 := cS3_len c.t hj
  by_cases hlt : j < (ordL c.gates.2.2).length
  · obtain ⟨i, hi⟩ := getI (ordL c.gates.2.2) hlt
    obtain ⟨g, za, zb, hgg, hza, hzb, ka, kb⟩ := cS3_get hg (c := c.t) hi
    have hgg : c.gates.2.2[i]? = some g := hgg
    have hgi : c.gates.2.2[((i : Nat) : Int).toNat]? = some g := by rw [Int.toNat_natCast]; exact hgg
    have hgo := hok g (List.mem_of_getElem? hgg)
    have hgw := hown g.1 (hgm g (List.mem_of_getElem? hgg)).1
    have hgl := lt_of_get hgg
    have hni : (natI (ordL c.gates.2.2))[((j : Nat) : Int).toNat]? = some (i : Int) := by rw [Int.toNat_natCast, natI, List.getElem?_map, hi]; rfl
    have e1 : cS3 c.t (j + 1) = cput (cS3 c.t j) g.1 (litI (cS3 c.t j).2 g.2.1, litI (cS3 c.t j).2 g.2.2) := by rw [cS3_s (c := c.t) hi]; unfold cGate; rw [gAt_of hgg]
    have k1 := (cells_heap (hS.cell (i := 1) rfl)).1
    have RA := (hS.row (i := 3) rfl).row encI_ok
    have RO := (hS.row (i := 4) rfl).row encI_ok
    have hcall := fun (w9 : World) (h9 : Ext w4 w9) => circ_Net1 wc w9 g4 g5 an cn (some ⟨ga, 0, none⟩) (k + 1) (cS3 c.t j) [prow 1 encI 3 wc.heap.size ad cd (natI (ordL c.gates.2.2))] g.1 (litI (cS3 c.t j).2 g.2.1, litI (cS3 c.t j).2 g.2.2) (hX4.trans h9) (hS.ext h9) (by omega) (by omega) (by omega)
    repeat' (first
      | (show WL _ _ _ _ _ _ _; first | apply WL.nil | (refine WL.au (k := ?_)))
      | (show Z _ _ _ _ _; apply Z.then_normal)
      | (show W _ _ _ _ _ _; first | apply W.seq | apply W.region)
      | fail)
    refine W.condKT rfl (dec_true (by omega)) ?_
    repeat' (first
      | (apply WL.alloc tOk; exact rfl; exact rfl; exact rfl; intro gb w' hb hge hx)
      | (apply WL.storeB (w0 := w4) tOk; exact rfl; exact rfl; exact rfl; exact rfl; assumption; (exact extA); exact rfl; exact rfl; exact rfl; (exact extA); (first | assumption | omega | (focus (apply Nat.le_trans; rotate_left; assumption; exact Below.size (by (exact extA)); done))); intro w' hb hc hX' hU; have hcc := hc; obtain ⟨h1, h2, _⟩ := hc; (obtain ⟨w6, rfl⟩ : ∃ x, x = w' := ⟨_, rfl⟩; obtain ⟨hX6, rfl⟩ : ∃ x, x = hX' := ⟨_, rfl⟩; have hC8 := cells_heap hb; obtain ⟨i0, i1, i2, _⟩ := hC8))
      | (show WL _ _ _ _ _ _ _; first | apply WL.nil | (refine WL.au (k := ?_)) | (apply WL.index tOk; exact rfl; exact rfl; exact rfl; exact rfl; exact rfl; exact rfl; exact rfl; exact rfl; assumption; (exact extA); exact rfl; omega; assumption; intro b off h; have hcc := h; first | (obtain ⟨h1, h2, h3, h4, h5, h6, _⟩ := h) | (obtain ⟨h1, h2, h3, _⟩ := h) | (obtain ⟨h1, h2, _⟩ := h) | (obtain ⟨h1, _⟩ := h)))
      | (show Z _ _ _ _ _; apply Z.then_normal)
      | (show W _ _ _ _ _ _; first | apply W.seq | apply W.region | apply W.block | apply W.skip)
      | fail)
    have k1' := hX6.cell k1
    have RA' := RA.ext hX6
    repeat' (first
      | (apply W.regionQS 12 tMix; kernel_rfl; exact rfl; kernel_rfl; kernel_rfl)
      | (apply QL.build tOk; exact rfl; exact rfl; exact rfl; exact rfl; exact rfl; exact rfl; exact rfl; kernel_rfl)
      | ((show QL _ _ _ _ (⟨_, .call ⟨.value (.tmp _), _, _⟩, _, _, _, _⟩ :: _) _ _); apply QL.callS; exact rfl; exact rfl; exact rfl; exact rfl; exact circ_Net2 _ g5 _ _ (cS3 c.t j).2 g.2.1 za k1' RA' (by omega) (by omega) hza (by omega))
      | ((show QL _ _ _ _ (⟨_, .call ⟨.value (.tmp _), _, _⟩, _, _, _, _⟩ :: _) _ _); apply QL.callS; exact rfl; exact rfl; exact rfl; exact rfl; exact circ_Net2 _ g5 _ _ (cS3 c.t j).2 g.2.2 zb k1' RA' (by omega) (by omega) hzb (by omega))
      | ((show WL _ _ _ (⟨_, .call ⟨.value (.tmp _), _, _⟩, _, _, _, _⟩ :: _) _ _ _; apply WL.call; exact rfl; exact rfl; exact rfl; exact rfl; exact hcall _ (by (exact extA)); rintro v' w5 ⟨rfl, hX5, an2, cn2, hS5⟩))
      | (show WL _ _ _ _ _ _ _; first | apply WL.nil | (refine WL.au (k := ?_)))
      | (show QL _ _ _ _ _ _ _; first | apply QL.nil | (refine QL.au (k := ?_)))
      | (show Z _ _ _ _ _; first | apply Z.tail | apply Z.then_normal | apply Z.block_normal)
      | (show W _ _ _ _ _ _; apply W.region)
      | fail)
    exact Z.againW ⟨by omega, hX5, an2, cn2, by rw [e1]; exact hS5⟩ ⟨rfl, rfl, rfl, rfl, rfl, rfl, rfl, rfl, trivial⟩
  obtain rfl : j = (ordL c.gates.2.2).length := by omega
  repeat' (first
    | (show WL _ _ _ _ _ _ _; first | apply WL.nil | (refine WL.au (k := ?_)))
    | (show Z _ _ _ _ _; apply Z.then_normal)
    | (show W _ _ _ _ _ _; first | apply W.seq | apply W.region)
    | fail)
  refine W.condKF rfl (dec_false (by omega)) ?_
  have e39 : cS3 c.t (ordL c.gates.2.2).length = cNet c.t := cS3_all c.t
  rw [e39] at hS
  have k0 := (cells_heap (hS.cell (i := 0) rfl)).1
  have k1 := (cells_heap (hS.cell (i := 1) rfl)).1
  have hwc := Below.size hxc
  repeat' (first
    | (show QL _ _ _ _ _ _ _; first | apply QL.nil | (refine QL.au (k := ?_)))
    | (show Z _ _ _ _ _; first | apply Z.then_normal | apply Z.then_exit | apply Z.block_exit)
    | (show W _ _ _ _ _ _; first | apply W.seq | apply W.ret | apply W.exit | (apply W.regionD tMix; kernel_rfl))
    | fail)
  exact Z.body2 Try.results56 rfl rfl fun q => ⟨Ext.at (by (exact extA)) q, an, cn, some ⟨ga, 0, none⟩, k + 1, rfl, ((hS.row (i := 2) rfl).base hwc).ext ((Ext.refl _).at q), ((hS.row (i := 3) rfl).base hwc).ext ((Ext.refl _).at q)⟩
end Go.Proofs.Ytlcenenkloicjaa
namespace Go.Proofs.Ytlcenenkloicjaa
open Go Go.Lt Go.RowKit
set_option linter.unusedVariables false
set_option linter.unusedSimpArgs false
set_option maxRecDepth 20000

def Of1 (c : CirT) (k : List Int) : Prop := OfK c k ∧ (k.length : Int) ≤ 20
def OfCs (c : CirT) (ks : List (RowV Int)) : Prop := (∀ r ∈ ks, Of1 c r.2.2) ∧ (ks.length : Int) ≤ 20
set_option maxHeartbeats 2000000 in
theorem law34_Of (c : Circ) (a : Option Addr) (cap : Nat) (ks : List (RowV Int)) (w : World) (hC : CAt w c) (R : Row 1 encRow w a ks) (hrw : ∀ r ∈ ks, Row 1 encI w r.1 r.2.2) (hmx : ∀ r ∈ ks, ∀ x ∈ r.2.2, x ≤ 9223372036854775807) :
    Pure Try.prog 21 [c.val, .slice a ks.length cap] w (.bool (dec (OfCs c.t ks))) := by
  have hl := R.len
  have hll := hC.lat.row.len
  refine Spec.of _ Try.func21 rfl Try.ntmps21 (by kernel_rfl) rfl ?_
  repeat' (first
    | (apply WL.box; exact rfl; exact rfl; exact rfl; intro gb w' hb hge hc hx; have hcc := hc; (first | (obtain ⟨h1, h2, h3, _⟩ := hc) | (obtain ⟨h1, h2, _⟩ := hc)); (obtain ⟨gc, rfl⟩ : ∃ x, x = gb := ⟨_, rfl⟩; obtain ⟨wc, rfl⟩ : ∃ x, x = w' := ⟨_, rfl⟩; obtain ⟨hxc, rfl⟩ : ∃ x, x = hx := ⟨_, rfl⟩; have hcells : Cells wc gc 0 c.vals := hcc))
    | (show WL _ _ _ _ _ _ _; first | apply WL.nil | (refine WL.au (k := ?_)))
    | (show Z _ _ _ _ _; apply Z.then_normal)
    | (show W _ _ _ _ _ _; first | apply W.seq | apply W.region | apply W.block)
    | fail)
  have R1 := R.ext hxc
  refine W.loop1 ks.length (fun j => j ≤ ks.length ∧ ∀ r ∈ ks.take j, Of1 c.t r.2.2) (fun j => [(1, .slice a ks.length cap), (2, .pointer (some ⟨gc, 0, none⟩)), (5, .int .i64 j)]) ⟨Nat.zero_le _, fun x hx => by cases hx⟩ (fun k h => h.1) (by repeat' first | exact trivial | (refine And.intro ?_ ?_) | exact rfl) ?_
  rintro j ⟨hj, hall⟩
  by_cases hlt : j < ks.length
  · obtain ⟨r, hr⟩ := getI ks hlt
    have hrm := List.mem_of_getElem? hr
    have RI := (hrw r hrm).ext hxc
    have hrl := RI.len
    have no : ∀ (h : ¬ Of1 c.t r.2.2), dec (OfCs c.t ks) = false := fun h => dec_false fun hh => h (hh.1 r hrm)
    obtain ⟨y0, y1, y2, _⟩ := hcells
    repeat' (first
      | (apply W.condKT; exact rfl; (focus (exact dec_true (by omega); done)))
      | (show WL _ _ _ _ _ _ _; first | apply WL.nil | (refine WL.au (k := ?_)))
      | (show Z _ _ _ _ _; apply Z.then_normal)
      | (show W _ _ _ _ _ _; first | apply W.seq | apply W.region | apply W.block | apply W.skip)
      | fail)
    refine W.loop1 r.2.2.length (fun q => q ≤ r.2.2.length ∧ OfK c.t (r.2.2.take q)) (fun q => [(1, .slice a ks.length cap), (2, .pointer (some ⟨gc, 0, none⟩)), (5, .int .i64 j), (6, .int .i64 q)]) ⟨Nat.zero_le _, fun x hx => by cases hx⟩ (fun k h => h.1) (by repeat' first | exact trivial | (refine And.intro ?_ ?_) | exact rfl) ?_
    rintro q ⟨hq, hok⟩
    by_cases hlq : q < r.2.2.length
    · obtain ⟨x, hx⟩ := getI r.2.2 hlq
      have hxm := List.mem_of_getElem? hx
      have hx9 := hmx r hrm x hxm
      by_cases q1 : x < 0
      · repeat' (first
          | (apply QL.gT; exact rfl; exact rfl; (focus (first | exact dec_true (by omega); done)))
          | (apply W.condKT; exact rfl; (focus (first | exact dec_true (by omega); done)))
          | (show WL _ _ _ _ _ _ _; first | apply WL.nil | (refine WL.au (k := ?_)) | (apply WL.index tOk; exact rfl; exact rfl; exact rfl; exact rfl; exact rfl; exact rfl; exact rfl; exact rfl; assumption; (exact extA); exact rfl; omega; assumption; intro b off h; have hcc := h; first | (obtain ⟨h1, h2, h3, h4, h5, h6, _⟩ := h) | (obtain ⟨h1, h2, h3, _⟩ := h) | (obtain ⟨h1, h2, _⟩ := h) | (obtain ⟨h1, _⟩ := h)))
          | (show QL _ _ _ _ _ _ _; first | apply QL.nil | (refine QL.au (k := ?_)) | (apply QL.index tOk; exact rfl; exact rfl; exact rfl; exact rfl; exact rfl; exact rfl; exact rfl; exact rfl; assumption; (exact extA); exact rfl; omega; assumption; intro b off h; have hcc := h; first | (obtain ⟨h1, h2, h3, h4, h5, h6, _⟩ := h) | (obtain ⟨h1, h2, h3, _⟩ := h) | (obtain ⟨h1, h2, _⟩ := h) | (obtain ⟨h1, _⟩ := h)) | (apply QL.guardF; exact rfl; exact rfl))
          | (show Z _ _ _ _ _; first | apply Z.then_normal | apply Z.then_ret | apply Z.block_ret)
          | (show W _ _ _ _ _ _; first | apply W.seq | apply W.region | apply W.block | apply W.skip | apply W.ret | (apply W.condT; exact rfl) | (apply W.regionD tMix; kernel_rfl))
          | fail)
        exact Z.body1 Try.results21 rfl fun m => ⟨by rw [no (fun h => by have := (h.1 x hxm).1; omega)], Ext.at hxc m⟩
      by_cases q2 : (x / 2).toNat < c.lat.2.2.length
      · repeat' (first
          | (apply QL.gF; exact rfl; exact rfl; (focus (first | exact dec_true (by omega) | exact dec_false (by omega); done)))
          | (apply W.condKT; exact rfl; (focus (first | exact dec_true (by omega) | exact dec_false (by omega); done)))
          | (apply W.condKF; exact rfl; (focus (first | exact dec_true (by omega) | exact dec_false (by omega); done)))
          | (show WL _ _ _ _ _ _ _; first | apply WL.nil | (refine WL.au (k := ?_)) | (apply WL.index tOk; exact rfl; exact rfl; exact rfl; exact rfl; exact rfl; exact rfl; exact rfl; exact rfl; assumption; (exact extA); exact rfl; omega; assumption; intro b off h; have hcc := h; first | (obtain ⟨h1, h2, h3, h4, h5, h6, _⟩ := h) | (obtain ⟨h1, h2, h3, _⟩ := h) | (obtain ⟨h1, h2, _⟩ := h) | (obtain ⟨h1, _⟩ := h)))
          | (show QL _ _ _ _ _ _ _; first | apply QL.nil | (refine QL.au (k := ?_)) | (apply QL.index tOk; exact rfl; exact rfl; exact rfl; exact rfl; exact rfl; exact rfl; exact rfl; exact rfl; assumption; (exact extA); exact rfl; omega; assumption; intro b off h; have hcc := h; first | (obtain ⟨h1, h2, h3, h4, h5, h6, _⟩ := h) | (obtain ⟨h1, h2, h3, _⟩ := h) | (obtain ⟨h1, h2, _⟩ := h) | (obtain ⟨h1, _⟩ := h)))
          | (show Z _ _ _ _ _; first | apply Z.then_normal | apply Z.block_normal)
          | (show W _ _ _ _ _ _; first | apply W.seq | apply W.region | apply W.block | apply W.skip | (apply W.regionD tMix; kernel_rfl))
          | fail)
        exact Z.again1 ⟨by omega, take_all hx hok ⟨by omega, hx9, q2⟩⟩ (by repeat' first | exact trivial | (refine And.intro ?_ ?_) | exact rfl)
      · repeat' (first
          | (apply QL.gF; exact rfl; exact rfl; (focus (first | exact dec_true (by omega) | exact dec_false (by omega); done)))
          | (apply W.condKT; exact rfl; (focus (first | exact dec_true (by omega) | exact dec_false (by omega); done)))
          | (show WL _ _ _ _ _ _ _; first | apply WL.nil | (refine WL.au (k := ?_)) | (apply WL.index tOk; exact rfl; exact rfl; exact rfl; exact rfl; exact rfl; exact rfl; exact rfl; exact rfl; assumption; (exact extA); exact rfl; omega; assumption; intro b off h; have hcc := h; first | (obtain ⟨h1, h2, h3, h4, h5, h6, _⟩ := h) | (obtain ⟨h1, h2, h3, _⟩ := h) | (obtain ⟨h1, h2, _⟩ := h) | (obtain ⟨h1, _⟩ := h)))
          | (show QL _ _ _ _ _ _ _; first | apply QL.nil | (refine QL.au (k := ?_)) | (apply QL.index tOk; exact rfl; exact rfl; exact rfl; exact rfl; exact rfl; exact rfl; exact rfl; exact rfl; assumption; (exact extA); exact rfl; omega; assumption; intro b off h; have hcc := h; first | (obtain ⟨h1, h2, h3, h4, h5, h6, _⟩ := h) | (obtain ⟨h1, h2, h3, _⟩ := h) | (obtain ⟨h1, h2, _⟩ := h) | (obtain ⟨h1, _⟩ := h)))
          | (show Z _ _ _ _ _; first | apply Z.then_normal | apply Z.then_ret | apply Z.block_ret)
          | (show W _ _ _ _ _ _; first | apply W.seq | apply W.region | apply W.block | apply W.skip | apply W.ret | (apply W.regionD tMix; kernel_rfl))
          | fail)
        exact Z.body1 Try.results21 rfl fun m => ⟨by rw [no (fun h => q2 (h.1 x hxm).2.2)], Ext.at hxc m⟩
    obtain rfl : q = r.2.2.length := by omega
    rw [List.take_length] at hok
    by_cases h20 : (r.2.2.length : Int) ≤ 20
    · repeat' (first
        | (apply W.condKF; exact rfl; (focus (exact dec_false (by omega); done)))
        | (show WL _ _ _ _ _ _ _; first | apply WL.nil | (refine WL.au (k := ?_)) | (apply WL.index tOk; exact rfl; exact rfl; exact rfl; exact rfl; exact rfl; exact rfl; exact rfl; exact rfl; assumption; (exact extA); exact rfl; omega; assumption; intro b off h; have hcc := h; first | (obtain ⟨h1, h2, h3, h4, h5, h6, _⟩ := h) | (obtain ⟨h1, h2, h3, _⟩ := h) | (obtain ⟨h1, h2, _⟩ := h) | (obtain ⟨h1, _⟩ := h)))
        | (show Z _ _ _ _ _; first | apply Z.then_normal | apply Z.block_normal | apply Z.then_exit | apply Z.block_exit)
        | (show W _ _ _ _ _ _; first | apply W.seq | apply W.region | apply W.skip | apply W.exit)
        | fail)
      exact Z.again1 ⟨by omega, take_all (P := fun r : RowV Int => Of1 c.t r.2.2) hr hall ⟨hok, h20⟩⟩ (by repeat' first | exact trivial | (refine And.intro ?_ ?_) | exact rfl)
    · repeat' (first
        | (apply W.condKT; exact rfl; (focus (first | exact dec_false (by omega) | exact dec_true (by omega); done)))
        | (apply W.condKF; exact rfl; (focus (first | exact dec_false (by omega) | exact dec_true (by omega); done)))
        | (show WL _ _ _ _ _ _ _; first | apply WL.nil | (refine WL.au (k := ?_)) | (apply WL.index tOk; exact rfl; exact rfl; exact rfl; exact rfl; exact rfl; exact rfl; exact rfl; exact rfl; assumption; (exact extA); exact rfl; omega; assumption; intro b off h; have hcc := h; first | (obtain ⟨h1, h2, h3, h4, h5, h6, _⟩ := h) | (obtain ⟨h1, h2, h3, _⟩ := h) | (obtain ⟨h1, h2, _⟩ := h) | (obtain ⟨h1, _⟩ := h)))
        | (show Z _ _ _ _ _; first | apply Z.then_normal | apply Z.then_exit | apply Z.block_exit | apply Z.then_ret | apply Z.block_ret)
        | (show W _ _ _ _ _ _; first | apply W.seq | apply W.region | apply W.ret | apply W.exit)
        | fail)
      exact Z.body1 Try.results21 rfl fun m => ⟨by rw [no (fun h => h20 h.2)], Ext.at hxc m⟩
  · obtain rfl : j = ks.length := by omega
    rw [List.take_length] at hall
    repeat' (first
      | (apply W.condKF; exact rfl; (focus (exact dec_false (by omega); done)))
      | (show WL _ _ _ _ _ _ _; first | apply WL.nil | (refine WL.au (k := ?_)))
      | (show Z _ _ _ _ _; first | apply Z.then_normal | apply Z.then_exit | apply Z.block_exit)
      | (show W _ _ _ _ _ _; first | apply W.seq | apply W.region | apply W.ret | apply W.exit)
      | fail)
    exact Z.body1 Try.results21 rfl fun m => ⟨congrArg Value.bool (dec_congr ⟨fun h => ⟨hall, h⟩, fun h => h.2⟩), Ext.at hxc m⟩
open Classical in
noncomputable def lifR (c : CirT) (s i : List Bool) (want : List Int) : List Int := if LifP c s i want then lifC c s i want else []
theorem fillK_set {m k : Nat} (h : k < m) : (tab m (fun u => decide (u < k))).set k true = tab m (fun u => decide (u < k + 1)) := by
  refine tab_set fun u hu => ?_
  by_cases e : u = k
  · rw [if_pos e]; simp [e]
  · rw [if_neg e]
    by_cases h1 : u < k
    · simp [h1]; omega
    · simp [h1]; omega
theorem fillK_all (c : CirT) : tab c.ins.length (fun u => decide (u < c.ins.length)) = lifK c := by
  unfold lifK; rw [tab_rep]; exact tab_congr fun u hu => by simp [hu]
theorem fillK_start (m : Nat) : List.replicate m false = tab m (fun u => decide (u < 0)) := by rw [tab_rep]; exact tab_congr fun u hu => by simp
def IsLift (w : World) (c : CirT) (s i : List Bool) (want : List Int) (v : Value) (w' : World) : Prop :=
  Ext w w' ∧ ∃ a cp, v = .tuple #[.slice a (lifR c s i want).length cp, .bool (dec (LifP c s i want))] ∧ Row 1 encI w' a (lifR c s i want)
set_option maxHeartbeats 8000000 in
theorem lift_Lift (c : Circ) (ra rb rw' : Option Addr) (ca cb cw : Nat) (s i : List Bool) (want : List Int) (w : World) (hC : CAt w c) (hg : GoodC' c.t) (hz : SzC c.t 100000) (Rs : Row 1 encB w ra s) (Ri : Row 1 encB w rb i) (Rw : Row 1 encI w rw' want) (hw : ∀ x ∈ want, KnL c.t x) (hwl : want.length ≤ 1048576) :
    Lt.Spec Try.prog 26 [c.val, .slice ra s.length ca, .slice rb i.length cb, .slice rw' want.length cw] w (IsLift w c.t s i want) := by
  have z1 : c.ins.2.2.length ≤ 100000 := hz.1
  have z2 : c.lat.2.2.length ≤ 100000 := hz.2.1
  have hnl := net_len hg hz
  have hng := (cNet_ok hg).2
  have hcm := hg.max
  refine Spec.of _ Try.func26 rfl Try.ntmps26 (by kernel_rfl) rfl ?_
  repeat' (first
    | (apply WL.box; exact rfl; exact rfl; exact rfl; intro gb w' hb hge hc hx; have hcc := hc; (first | (obtain ⟨h1, h2, h3, _⟩ := hc) | (obtain ⟨h1, h2, _⟩ := hc)); (obtain ⟨gc, rfl⟩ : ∃ x, x = gb := ⟨_, rfl⟩; obtain ⟨wc, rfl⟩ : ∃ x, x = w' := ⟨_, rfl⟩; obtain ⟨hxc, rfl⟩ : ∃ x, x = hx := ⟨_, rfl⟩; have hcells : Cells wc gc 0 c.vals := hcc))
    | (((show WL _ _ _ (⟨_, .call ⟨.value (.func 56), _, _⟩, _, _, _, _⟩ :: _) _ _ _); apply WL.call; exact rfl; exact rfl; exact rfl; exact rfl; exact circ_Net c _ (hC.ext (by (exact extA))) hg hz; rintro v' w2 ⟨hx2, aN, cN, aA, cA, rfl, hON, hOA⟩))
    | (show WL _ _ _ _ _ _ _; first | apply WL.nil | (refine WL.au (k := ?_)))
    | (show Z _ _ _ _ _; apply Z.then_normal)
    | (show W _ _ _ _ _ _; first | apply W.seq | apply W.region)
    | fail)
  have hX2 : Ext w w2 := hxc.trans hx2
  have RN := hON.row encN_ok
  have RA := hOA.row encI_ok
  have hc2 := hcells.ext hx2
  obtain ⟨y0, y1, y2, _⟩ := hc2
  repeat' (first
    | (show W _ _ (.region 2 _ _) _ _ _; apply W.regionGX (.fl true 0 (.fl true 1 (.fl true 5 (.fl true 6 (.fl false 2 (.fl true 3 (.fl false 7 (.fl true 8 (.br 4 (.br 9 (.br 10 (.fl true 11 .done) .stop) .stop) .stop))))))))) [4, 7, 8, 9, 10] tMix; kernel_rfl)
    | ((show WL _ _ _ (⟨_, .call ⟨.value (.func 57), _, _⟩, _, _, _, _⟩ :: _) _ _ _); apply WL.call; exact rfl; exact rfl; exact rfl; exact rfl; exact lift_values _ _ i c.ins.2.2.length _ (Ri.ext (hX2.trans (by (exact extA)))) (by omega); rintro v' w' ⟨hx, a', cap', rfl, hO⟩; (obtain ⟨a1, rfl⟩ : ∃ x, x = a' := ⟨_, rfl⟩; obtain ⟨c1, rfl⟩ : ∃ x, x = cap' := ⟨_, rfl⟩; obtain ⟨hO1, rfl⟩ : ∃ x, x = hO := ⟨_, rfl⟩; obtain ⟨hxv1, rfl⟩ : ∃ x, x = hx := ⟨_, rfl⟩))
    | ((show WL _ _ _ (⟨_, .call ⟨.value (.func 57), _, _⟩, _, _, _, _⟩ :: _) _ _ _); apply WL.call; exact rfl; exact rfl; exact rfl; exact rfl; exact lift_values _ _ s c.lat.2.2.length _ (Rs.ext (hX2.trans (by (exact extA)))) (by omega); rintro v' w' ⟨hx, a', cap', rfl, hO⟩; (obtain ⟨a2, rfl⟩ : ∃ x, x = a' := ⟨_, rfl⟩; obtain ⟨c2, rfl⟩ : ∃ x, x = cap' := ⟨_, rfl⟩; obtain ⟨hO2, rfl⟩ : ∃ x, x = hO := ⟨_, rfl⟩; obtain ⟨hxv2, rfl⟩ : ∃ x, x = hx := ⟨_, rfl⟩; have R2v := hO2.row encI_ok))
    | ((apply WL.appendS tOk encI_ok; exact rfl; exact rfl; exact rfl; exact rfl; exact rfl; exact rfl; exact rfl; exact rfl; exact rfl; exact rfl; exact hO1; exact (by (exact extA)); exact rfl; exact R2v; exact (by (exact extA)); exact rfl; exact Own.noneCap hO2; exact rfl; exact (by (exact extA)); (rw [v3_len, v3_len, brV_len, brV_len]; omega); intro aI cI wI hOI hXI hUI hFI))
    | (apply WL.make (w0 := w2) tOk; exact rfl; exact rfl; exact rfl; exact rfl; exact rfl; exact rfl; exact rfl; exact rfl; exact rfl; exact encB_ok; exact rfl; exact rfl; (exact extA); (first | omega | (simp; omega) | (simp at *; omega)); intro gb w' hO hge hx)
    | (show SX _ _ _ _ _ _ _ _ _; first | (apply SX.done; intro w' hx) | (apply SX.fl0; exact rfl) | (apply SX.fl1; exact rfl; (exact extA)) | (apply SX.br1; exact rfl; intro w' hx))
    | (show FL _ _ _ _ _ _ _ _; first | apply FL.nilX | (apply FL.loadE tOk; exact rfl; exact rfl; exact rfl; exact rfl; exact rfl; (first | assumption | (focus (apply Ext.cell; rotate_left; assumption; exact extA; done)))))
    | (show FL _ _ _ _ _ _ _ _; (refine FL.au (k := ?_)))
    | (show Z _ _ _ _ _; (apply Z.sxE; (exact extA)))
    | (show WL _ _ _ _ _ _ _; first | apply WL.nil | (refine WL.au (k := ?_)))
    | (show Z _ _ _ _ _; apply Z.then_normal)
    | (show W _ _ _ _ _ _; first | apply W.seq | apply W.region | apply W.block)
    | fail)
  have hXI2 : Ext w2 w' := (by (exact extA))
  have hneI : blk aI ≠ some gb := fun he => by
    have h1 := (hOI.blk_lt gb he).2
    have h2 : wI.heap.size ≤ gb := Nat.le_trans (Below.size (by (exact extA))) hge
    omega
  have OI : Own 1 encI 3 w2.heap.size w' aI cI (lifI c.t s i) := (Own.base hOI (Below.size (by (exact extA)))).ext (by (exact extA))
  have hcI := OI.capLe
  have eil : (v3 (brV i c.ins.2.2.length) ++ v3 (brV s c.lat.2.2.length)) = lifI c.t s i := rfl
  rw [eil]
  have em : ((c.ins.2.2.length : Nat) : Int).toNat = c.ins.2.2.length := Int.toNat_natCast _
  rw [em] at hO ⊢
  rw [fillK_start] at hO
  have erl : (List.replicate c.ins.2.2.length false).length = c.ins.2.2.length := List.length_replicate
  obtain ⟨gK, rfl⟩ : ∃ x, x = gb := ⟨_, rfl⟩; obtain ⟨w3, rfl⟩ : ∃ x, x = w' := ⟨_, rfl⟩
  clear hO1 hO2 hOI R2v
  refine W.loopW c.ins.2.2.length (fun k w' => k ≤ c.ins.2.2.length ∧ Ext w2 w' ∧ Own 1 encI 3 w2.heap.size w' aI cI (lifI c.t s i) ∧ Own 1 encB 4 w2.heap.size w' (some ⟨gK, 0, none⟩) c.ins.2.2.length (tab c.ins.2.2.length (fun u => decide (u < k))))
    (fun k => [(3, .slice rw' want.length cw), (4, .pointer (some ⟨gc, 0, none⟩)), (10, .slice aN (cNet c.t).1.length cN), (11, .slice aA (cNet c.t).2.length cA), (12, .slice aI (lifI c.t s i).length cI), (13, .slice (some ⟨gK, 0, none⟩) c.ins.2.2.length c.ins.2.2.length), (42, .int .i64 (c.ins.2.2.length : Nat)), (43, .int .i64 k)]) ⟨Nat.zero_le _, hXI2, OI, hO⟩ (fun k w' h => h.1) (by repeat' first | exact trivial | (refine And.intro ?_ ?_) | exact rfl | (rw [erl]; exact rfl)) ?_
  clear hO OI
  rintro k w4 ⟨hk, hX4, OI, hOK⟩
  have htl : (tab c.ins.2.2.length (fun u => decide (u < k))).length = c.ins.2.2.length := tab_len _ _
  by_cases hlt : k < c.ins.2.2.length
  · have hz4 : (tab c.ins.2.2.length (fun u => decide (u < k)))[k]? = some false := by rw [tab_get _ hlt]; simp
    repeat' (first
      | (apply W.condKT; exact rfl; (focus (exact dec_true (by omega); done)))
      | (apply WL.indexO tOk; exact rfl; exact rfl; exact rfl; exact rfl; exact rfl; exact rfl; exact rfl; exact rfl; assumption; (exact extA); exact encB_ok; (first | exact rfl | (focus (simp only [List.length_set]; done)) | (focus (simp; done)) | (focus (simp [*]; done)) | omega | (focus (simp only [List.length_set]; omega))); omega; assumption; intro gb ha hc; cases ha; have hcc := hc; first | (obtain ⟨h1, h2, h3, _⟩ := hc) | (obtain ⟨h1, h2, _⟩ := hc) | (obtain ⟨h1, _⟩ := hc))
      | (apply WL.storeO tOk; exact rfl; exact rfl; exact rfl; exact rfl; assumption; (exact extA); exact rfl; exact rfl; exact rfl; exact encB_ok; assumption; exact rfl; (exact extA); intro w' hO hX' hU)
      | (show WL _ _ _ _ _ _ _; first | apply WL.nil | (refine WL.au (k := ?_)))
      | (show Z _ _ _ _ _; first | apply Z.then_normal | apply Z.block_normal)
      | (show W _ _ _ _ _ _; first | apply W.seq | apply W.region | apply W.block | apply W.skip)
      | fail)
    rw [Int.toNat_natCast, fillK_set hlt] at hO
    exact Z.againW ⟨by omega, hX', hU.own OI (.inr hneI), hO⟩ (by repeat' first | exact trivial | (refine And.intro ?_ ?_) | exact rfl)
  obtain rfl : k = c.ins.2.2.length := by omega
  rw [show tab c.ins.2.2.length (fun u => decide (u < c.ins.2.2.length)) = lifK c.t from fillK_all c.t] at hOK
  have hkl : (lifK c.t).length = c.ins.2.2.length := List.length_replicate
  repeat' (first
    | (apply W.condKF; exact rfl; (focus (exact dec_false (by omega); done)))
    | (show WL _ _ _ _ _ _ _; first | apply WL.nil | (refine WL.au (k := ?_)))
    | (show Z _ _ _ _ _; first | apply Z.then_normal | apply Z.then_exit | apply Z.block_exit)
    | (show W _ _ _ _ _ _; first | apply W.seq | apply W.region | apply W.block | apply W.exit)
    | fail)
  refine W.loopO want.length (fun j b cp w' => j ≤ want.length ∧ Ext w4 w' ∧ Own 1 encI 3 w4.heap.size w' b cp (lifW c.t (want.take j)))
    (fun j b cp => [(4, .pointer (some ⟨gc, 0, none⟩)), (10, .slice aN (cNet c.t).1.length cN), (11, .slice aA (cNet c.t).2.length cA), (12, .slice aI (lifI c.t s i).length cI), (13, .slice (some ⟨gK, 0, none⟩) c.ins.2.2.length c.ins.2.2.length), (15, .slice b (lifW c.t (want.take j)).length cp), (50, .slice rw' want.length cw), (51, .int .i64 (want.length : Nat)), (52, .int .i64 j)]) none 0 ⟨Nat.zero_le _, Ext.refl _, Own.nil⟩ (fun k a cp w' h => h.1) (by repeat' first | exact trivial | (refine And.intro ?_ ?_) | exact rfl) ?_
  rintro j bb cp w5 ⟨hj, hX5, hOb⟩
  have hwtl : (lifW c.t (want.take j)).length = min j want.length := by unfold lifW; rw [List.length_map, List.length_take]
  have hX25 : Ext w2 w5 := hX4.trans hX5
  by_cases hlj : j < want.length
  · obtain ⟨x, hx⟩ := getI want hlj
    have hxk := hw x (List.mem_of_getElem? hx)
    obtain ⟨z, hz1, hz2, hz3, hz4⟩ := knL_lit hg hxk
    have hx0 := hxk.1
    have hxm := knL_max hg hxk
    have hcm' : c.t.max ≤ 16777216 := hcm.2
    have Rw5 := Rw.ext (hX2.trans hX25)
    have RA5 := RA.ext hX25
    have e1 : lifW c.t (want.take (j + 1)) = lifW c.t (want.take j) ++ [xorI z (x % 2)] := by unfold lifW; rw [take_succ' hx, List.map_append, List.map_singleton, litI_some hz1]
    repeat' (first
      | (apply W.condKT; exact rfl; (focus (exact dec_true (by omega); done)))
      | (apply WL.andA; exact rfl; exact rfl; exact rfl; exact rfl)
      | (apply WL.xorI; exact rfl; exact rfl; exact rfl; exact rfl; omega; omega)
      | (apply WL.lit tOk; exact rfl; exact rfl; exact rfl; exact rfl; exact rfl; exact rfl; (first | exact rfl | kernel_rfl | (simp [Instr.fill, catCells]; done)); exact rfl; intro gb w' hb hge hc hx)
      | (apply WL.append1 tOk encI_ok; exact rfl; exact rfl; exact rfl; exact rfl; exact rfl; exact rfl; exact rfl; exact rfl; exact rfl; exact rfl; assumption; (exact extA); (first | exact rfl | (focus (simp only [List.length_set]; done)) | (focus (simp; done)) | (focus (simp [*]; done)) | omega | (focus (simp only [List.length_set]; omega))); assumption; (first | exact rfl | exact (rfl : encI (_, _) = _)); exact rfl; (exact extA); (first | omega | (simp; omega) | (simp at *; omega)); intro a' cap' w' hO hX' hU hF)
      | (show WL _ _ _ _ _ _ _; first | apply WL.nil | (refine WL.au (k := ?_)) | (apply WL.index tOk; exact rfl; exact rfl; exact rfl; exact rfl; exact rfl; exact rfl; exact rfl; exact rfl; assumption; (exact extA); exact rfl; omega; assumption; intro b off h; have hcc := h; first | (obtain ⟨h1, h2, h3, h4, h5, h6, _⟩ := h) | (obtain ⟨h1, h2, h3, _⟩ := h) | (obtain ⟨h1, h2, _⟩ := h) | (obtain ⟨h1, _⟩ := h)))
      | (show Z _ _ _ _ _; first | apply Z.then_normal | apply Z.block_normal)
      | (show W _ _ _ _ _ _; first | apply W.seq | apply W.region | apply W.block | apply W.skip)
      | fail)
    exact Z.againO a' cap' ⟨by omega, hX', by rw [e1]; exact hO⟩ (by repeat' first | exact trivial | (refine And.intro ?_ ?_) | exact rfl | (rw [e1]; exact rfl))
  obtain rfl : j = want.length := by omega
  rw [List.take_length] at hOb
  rw [List.take_length]
  have RB := hOb.row encI_ok
  have RN5 := RN.ext hX25
  have RI5 := (OI.row encI_ok).ext hX5
  have hcI5 := OI.capLe
  have hsr : Pure Try.prog 58 [.slice aN (cNet c.t).1.length cN, .slice aI (lifI c.t s i).length cI, .slice bb (lifW c.t want).length cp] w5 (.bool (dec (LifP c.t s i want))) := tern_Sure _ _ _ _ _ _ _ _ _ _ RN5 RI5 RB hcI5 hng (by omega)
  by_cases hP : LifP c.t s i want
  rotate_left
  · have eR : lifR c.t s i want = [] := by unfold lifR; rw [if_neg hP]
    repeat' (first
      | (apply W.condKT; exact rfl; (focus (first | exact dec_false (by omega) | (rw [dec_false hP]; rfl); done)))
      | (apply W.condKF; exact rfl; (focus (first | exact dec_false (by omega) | (rw [dec_false hP]; rfl); done)))
      | (apply WL.callP; exact rfl; exact rfl; exact rfl; exact rfl; exact hsr; intro w' hx)
      | (show WL _ _ _ _ _ _ _; first | apply WL.nil | (refine WL.au (k := ?_)))
      | (show Z _ _ _ _ _; first | apply Z.then_normal | apply Z.then_exit | apply Z.block_exit | apply Z.then_ret)
      | (show W _ _ _ _ _ _; first | apply W.seq | apply W.region | apply W.ret | apply W.exit)
      | fail)
    exact Z.body2 Try.results26 rfl rfl fun m => ⟨Ext.at (hX2.trans (hX25.trans hx)) m, none, 0, by rw [eR, dec_false hP]; rfl, by rw [eR]; exact Row.nil _ _ _ _⟩
  have eR : lifR c.t s i want = lifC c.t s i want := by unfold lifR; rw [if_pos hP]
  have hdl : (lifD c.t s i want).length = c.ins.2.2.length + c.lat.2.2.length := lifD_len hg (by omega) hP
  have hDr : ∀ w9, Ext w5 w9 → Lt.Spec Try.prog 59 [.slice aN (cNet c.t).1.length cN, .slice aI (lifI c.t s i).length cI, .slice bb (lifW c.t want).length cp, .slice (some ⟨gK, 0, none⟩) c.ins.2.2.length c.ins.2.2.length] w9 (IsFresh 1 encI 3 w9 (lifD c.t s i want)) := fun w9 h9 => by
    have h := tern_Drop aN aI bb (some ⟨gK, 0, none⟩) cN cI cp c.ins.2.2.length (cNet c.t).1 (lifI c.t s i) (lifW c.t want) (lifK c.t) w9 (RN5.ext h9) (RI5.ext h9) (RB.ext h9) (((hOK.row encB_ok).ext hX5).ext h9) hng (by omega)
    rw [hkl] at h; exact h
  have hc5 := (hcells.ext hx2).ext hX25
  obtain ⟨y0, y1, y2, _⟩ := hc5
  repeat' (first
    | (apply W.condKF; exact rfl; (focus (first | exact dec_false (by omega) | (rw [dec_true hP]; rfl); done)))
    | (apply WL.callP; exact rfl; exact rfl; exact rfl; exact rfl; exact hsr; intro w' hx; (obtain ⟨w6, rfl⟩ : ∃ x, x = w' := ⟨_, rfl⟩; obtain ⟨hx6, rfl⟩ : ∃ x, x = hx := ⟨_, rfl⟩))
    | (show W _ _ (.region 18 _ _) _ _ _; apply W.regionGX (.fl true 0 (.fl true 1 (.fl true 2 (.fl true 3 (.fl true 5 (.fl true 10 (.fl false 6 (.fl true 7 (.br 4 (.fl true 8 (.fl true 9 .done)) .stop))))))))) [4, 8, 9] tMix; kernel_rfl)
    | (apply FL.sliceL0 tOk; exact rfl; exact rfl; exact rfl; exact rfl; exact rfl; exact rfl; exact rfl; exact rfl; omega)
    | (apply WL.call; exact rfl; exact rfl; exact rfl; exact rfl; exact hDr _ (by (exact extA)); rintro v' w' ⟨hx, a', cap', rfl, hO⟩; (obtain ⟨aD, rfl⟩ : ∃ x, x = a' := ⟨_, rfl⟩; obtain ⟨cD, rfl⟩ : ∃ x, x = cap' := ⟨_, rfl⟩; obtain ⟨hOD, rfl⟩ : ∃ x, x = hO := ⟨_, rfl⟩; obtain ⟨hxD, rfl⟩ : ∃ x, x = hx := ⟨_, rfl⟩))
    | (show SX _ _ _ _ _ _ _ _ _; first | (apply SX.done; intro w' hx) | (apply SX.fl0; exact rfl) | (apply SX.fl1; exact rfl; (exact extA)) | (apply SX.br1; exact rfl; intro w' hx))
    | (show FL _ _ _ _ _ _ _ _; first | apply FL.nilX | (apply FL.loadE tOk; exact rfl; exact rfl; exact rfl; exact rfl; exact rfl; (first | assumption | (focus (apply Ext.cell; rotate_left; assumption; exact extA; done)))))
    | (show FL _ _ _ _ _ _ _ _; (refine FL.au (k := ?_)))
    | (show Z _ _ _ _ _; (apply Z.sxE; (exact extA)))
    | (show WL _ _ _ _ _ _ _; first | apply WL.nil | (refine WL.au (k := ?_)))
    | (show Z _ _ _ _ _; first | apply Z.then_normal | apply Z.then_exit | apply Z.block_exit)
    | (show W _ _ _ _ _ _; first | apply W.seq | apply W.region | apply W.block | apply W.skip | apply W.exit)
    | fail)
  have hX56 : Ext w5 w' := (by (exact extA))
  have RD : Row 1 encI w' aD (lifD c.t s i want) := (hOD.row encI_ok).ext (by (exact extA))
  have hcD := hOD.capLe
  obtain ⟨ni, hni⟩ : ∃ ni, ni = c.ins.2.2.length := ⟨_, rfl⟩
  obtain ⟨nl, hnl2⟩ : ∃ nl, nl = c.lat.2.2.length := ⟨_, rfl⟩
  have RDn : Row 1 encI w' (subA aD cD ((c.ins.2.2.length : Nat) : Int).toNat 1) ((lifD c.t s i want).drop ((c.ins.2.2.length : Nat) : Int).toNat) := RD.dropAt _ _ hcD
  have hdn : ((lifD c.t s i want).drop ((c.ins.2.2.length : Nat) : Int).toNat).length = (lifD c.t s i want).length - ((c.ins.2.2.length : Nat) : Int).toNat := List.length_drop ..
  have hdn2 : (lifD c.t s i want).length - ((c.ins.2.2.length : Nat) : Int).toNat = c.lat.2.2.length := by rw [hdl]; omega
  rw [← hdn]
  have hdnl := hdn.trans hdn2
  obtain ⟨w7, rfl⟩ : ∃ x, x = w' := ⟨_, rfl⟩
  refine W.loopO c.lat.2.2.length (fun q b cp w' => q ≤ c.lat.2.2.length ∧ Ext w7 w' ∧ Own 1 encI 3 w7.heap.size w' b cp (cubV (lifD c.t s i want) c.ins.2.2.length q))
    (fun q b cp => [(18, .slice b (cubV (lifD c.t s i want) c.ins.2.2.length q).length cp), (81, .slice (subA aD cD ((c.ins.2.2.length : Nat) : Int).toNat 1) ((lifD c.t s i want).drop ((c.ins.2.2.length : Nat) : Int).toNat).length (cD - ((c.ins.2.2.length : Nat) : Int).toNat)), (82, .int .i64 (((lifD c.t s i want).drop ((c.ins.2.2.length : Nat) : Int).toNat).length : Nat)), (83, .int .i64 q)]) none 0 ⟨Nat.zero_le _, Ext.refl _, Own.nil⟩ (fun k a cp w' h => h.1) (by repeat' first | exact trivial | (refine And.intro ?_ ?_) | exact rfl) ?_
  rintro q be ce w8 ⟨hq, hX8, hOe⟩
  have hcl := cubV_len (lifD c.t s i want) c.ins.2.2.length q
  by_cases hlq : q < c.lat.2.2.length
  · have hv : (lifD c.t s i want)[c.ins.2.2.length + q]? = some ((lifD c.t s i want).getD (c.ins.2.2.length + q) 2) := by
      obtain ⟨y, hy⟩ := getI (lifD c.t s i want) (show c.ins.2.2.length + q < _ by omega)
      rw [hy, getD_of hy]
    have hvd := lifD_lat hg (by omega) hP (show q < c.t.lat.length from hlq)
    obtain ⟨v, hve⟩ : ∃ v, v = (lifD c.t s i want).getD (c.ins.2.2.length + q) 2 := ⟨_, rfl⟩
    have hvd2 : v = 2 ∨ v = 0 ∨ v = 1 := by
      rcases hvd with h | h
      · exact .inl (hve.trans h)
      · have h2 : v = b3 (s.getD q false) := hve.trans h
        rw [h2]; unfold b3; split <;> simp
    rw [← hve] at hv
    have hz8 : ((lifD c.t s i want).drop ((c.ins.2.2.length : Nat) : Int).toNat)[q]? = some v := by rw [List.getElem?_drop, Int.toNat_natCast]; exact hv
    have RD8 := RDn.ext hX8
    by_cases h2 : v = 2
    · have e1 : cubV (lifD c.t s i want) c.ins.2.2.length (q + 1) = cubV (lifD c.t s i want) c.ins.2.2.length q := by
        show cubV _ _ q ++ _ = _
        rw [← hve, if_pos h2, List.append_nil]
      repeat' (first
        | (apply W.condKT; exact rfl; (focus (first | exact dec_true (by omega) | exact dec_false (fun h => h h2); done)))
        | (apply W.condKF; exact rfl; (focus (first | exact dec_true (by omega) | exact dec_false (fun h => h h2); done)))
        | (show WL _ _ _ _ _ _ _; first | apply WL.nil | (refine WL.au (k := ?_)) | (apply WL.index tOk; exact rfl; exact rfl; exact rfl; exact rfl; exact rfl; exact rfl; exact rfl; exact rfl; assumption; (exact extA); exact rfl; omega; assumption; intro b off h; have hcc := h; first | (obtain ⟨h1, h2, h3, h4, h5, h6, _⟩ := h) | (obtain ⟨h1, h2, h3, _⟩ := h) | (obtain ⟨h1, h2, _⟩ := h) | (obtain ⟨h1, _⟩ := h)))
        | (show Z _ _ _ _ _; first | apply Z.then_normal | apply Z.block_normal)
        | (show W _ _ _ _ _ _; first | apply W.seq | apply W.region | apply W.block | apply W.skip)
        | fail)
      exact Z.againO be ce ⟨by omega, hX8, by rw [e1]; exact hOe⟩ (by repeat' first | exact trivial | (refine And.intro ?_ ?_) | exact rfl | (rw [e1]; exact rfl))
    · have e1 : cubV (lifD c.t s i want) c.ins.2.2.length (q + 1) = cubV (lifD c.t s i want) c.ins.2.2.length q ++ [2 * (q : Int) + 1 - v] := by
        show cubV _ _ q ++ _ = _
        rw [← hve, if_neg h2]
      repeat' (first
        | (apply W.condKT; exact rfl; (focus (first | exact dec_true (by omega) | exact dec_true h2; done)))
        | (apply WL.lit tOk; exact rfl; exact rfl; exact rfl; exact rfl; exact rfl; exact rfl; (first | exact rfl | kernel_rfl | (simp [Instr.fill, catCells]; done)); exact rfl; intro gb w' hb hge hc hx)
        | (apply WL.append1 tOk encI_ok; exact rfl; exact rfl; exact rfl; exact rfl; exact rfl; exact rfl; exact rfl; exact rfl; exact rfl; exact rfl; assumption; (exact extA); (first | exact rfl | (focus (simp only [List.length_set]; done)) | (focus (simp; done)) | (focus (simp [*]; done)) | omega | (focus (simp only [List.length_set]; omega))); assumption; (first | exact rfl | exact (rfl : encI (_, _) = _)); exact rfl; (exact extA); (first | omega | (simp; omega) | (simp at *; omega)); intro a' cap' w' hO hX' hU hF)
        | (show WL _ _ _ _ _ _ _; first | apply WL.nil | (refine WL.au (k := ?_)) | (apply WL.index tOk; exact rfl; exact rfl; exact rfl; exact rfl; exact rfl; exact rfl; exact rfl; exact rfl; assumption; (exact extA); exact rfl; omega; assumption; intro b off h; have hcc := h; first | (obtain ⟨h1, h2, h3, h4, h5, h6, _⟩ := h) | (obtain ⟨h1, h2, h3, _⟩ := h) | (obtain ⟨h1, h2, _⟩ := h) | (obtain ⟨h1, _⟩ := h)))
        | (show Z _ _ _ _ _; first | apply Z.then_normal | apply Z.block_normal)
        | (show W _ _ _ _ _ _; first | apply W.seq | apply W.region | apply W.block | apply W.skip)
        | fail)
      exact Z.againO a' cap' ⟨by omega, hX', by rw [e1]; exact hO⟩ (by repeat' first | exact trivial | (refine And.intro ?_ ?_) | exact rfl | (rw [e1]; exact rfl))
  · obtain rfl : q = c.lat.2.2.length := by omega
    repeat' (first
      | (apply W.condKF; exact rfl; (focus (exact dec_false (by omega); done)))
      | (show WL _ _ _ _ _ _ _; first | apply WL.nil | (refine WL.au (k := ?_)))
      | (show Z _ _ _ _ _; first | apply Z.then_normal | apply Z.then_exit | apply Z.block_exit)
      | (show W _ _ _ _ _ _; first | apply W.seq | apply W.region | apply W.ret | apply W.exit)
      | fail)
    exact Z.body2 Try.results26 rfl rfl fun m => ⟨Ext.at (hX2.trans (hX25.trans (hX56.trans hX8))) m, be, ce, by rw [eR, dec_true hP]; rfl, by rw [eR]; exact (hOe.row encI_ok).ext ((Ext.refl _).at m)⟩
end Go.Proofs.Ytlcenenkloicjaa
namespace Go.Proofs.Ytlcenenkloicjaa
open Go Go.Lt Go.RowKit
set_option linter.unusedVariables false
set_option linter.unusedSimpArgs false
set_option maxRecDepth 20000

theorem v3_app (a b : List Bool) : v3 (a ++ b) = v3 a ++ v3 b := by unfold v3; rw [List.map_append]
set_option maxHeartbeats 8000000 in
theorem ref34_Lift (c : Circ) (ra rb rw' : Option Addr) (ca cb cw : Nat) (s i : List Bool) (want : List Int) (w : World) (hC : CAt w c) (hg : GoodC' c.t) (hz : SzC c.t 100000) (Rs : Row 1 encB w ra s) (Ri : Row 1 encB w rb i) (Rw : Row 1 encI w rw' want) (hw : ∀ x ∈ want, KnL c.t x) (hwl : want.length ≤ 1048576) :
    Lt.Spec Try.prog 27 [c.val, .slice ra s.length ca, .slice rb i.length cb, .slice rw' want.length cw] w (IsLift w c.t s i want) := by
  have z1 : c.ins.2.2.length ≤ 100000 := hz.1
  have z2 : c.lat.2.2.length ≤ 100000 := hz.2.1
  have hnl := net_len hg hz
  have hng := (cNet_ok hg).2
  have hcm := hg.max
  refine Spec.of _ Try.func27 rfl Try.ntmps27 (by kernel_rfl) rfl ?_
  repeat' (first
    | (apply WL.box; exact rfl; exact rfl; exact rfl; intro gb w' hb hge hc hx; have hcc := hc; (first | (obtain ⟨h1, h2, h3, _⟩ := hc) | (obtain ⟨h1, h2, _⟩ := hc)); (obtain ⟨gc, rfl⟩ : ∃ x, x = gb := ⟨_, rfl⟩; obtain ⟨wc, rfl⟩ : ∃ x, x = w' := ⟨_, rfl⟩; obtain ⟨hxc, rfl⟩ : ∃ x, x = hx := ⟨_, rfl⟩; have hcells : Cells wc gc 0 c.vals := hcc))
    | (((show WL _ _ _ (⟨_, .call ⟨.value (.func 60), _, _⟩, _, _, _, _⟩ :: _) _ _ _); apply WL.call; exact rfl; exact rfl; exact rfl; exact rfl; exact ref11_Net c _ (hC.ext (by (exact extA))) hg hz; rintro v' w2 ⟨hx2, aN, cN, aA, cA, rfl, hON, hOA⟩; have hc2 := hcells.ext hx2))
    | (show WL _ _ _ _ _ _ _; first | apply WL.nil | (refine WL.au (k := ?_)))
    | (show Z _ _ _ _ _; apply Z.then_normal)
    | (show W _ _ _ _ _ _; first | apply W.seq | apply W.region)
    | fail)
  have hX2 : Ext w w2 := hxc.trans hx2
  have RN := hON.row encN_ok
  have RA := hOA.row encI_ok
  obtain ⟨y0, y1, y2, _⟩ := hc2
  repeat' (first
    | ((show WL _ _ _ (⟨_, .call ⟨.value (.func 35), _, _⟩, _, _, _, _⟩ :: _) _ _ _); apply WL.call; exact rfl; exact rfl; exact rfl; exact rfl; exact ref17_Brought _ _ i c.ins.2.2.length _ (Ri.ext (hX2.trans (by (exact extA)))) (by omega); rintro v' w' ⟨hx, a', cap', rfl, hO⟩; (obtain ⟨a1, rfl⟩ : ∃ x, x = a' := ⟨_, rfl⟩; obtain ⟨c1, rfl⟩ : ∃ x, x = cap' := ⟨_, rfl⟩; obtain ⟨wa, rfl⟩ : ∃ x, x = w' := ⟨_, rfl⟩; obtain ⟨hO1, rfl⟩ : ∃ x, x = hO := ⟨_, rfl⟩; obtain ⟨hxv1, rfl⟩ : ∃ x, x = hx := ⟨_, rfl⟩; have hc3 := (hcells.ext hx2).ext hxv1; obtain ⟨y0, y1, y2, _⟩ := hc3))
    | ((show WL _ _ _ (⟨_, .call ⟨.value (.func 35), _, _⟩, _, _, _, _⟩ :: _) _ _ _); apply WL.call; exact rfl; exact rfl; exact rfl; exact rfl; exact ref17_Brought _ _ s c.lat.2.2.length _ (Rs.ext (hX2.trans (by (exact extA)))) (by omega); rintro v' w' ⟨hx, a', cap', rfl, hO⟩; (obtain ⟨a2, rfl⟩ : ∃ x, x = a' := ⟨_, rfl⟩; obtain ⟨c2, rfl⟩ : ∃ x, x = cap' := ⟨_, rfl⟩; obtain ⟨wb, rfl⟩ : ∃ x, x = w' := ⟨_, rfl⟩; obtain ⟨hO2, rfl⟩ : ∃ x, x = hO := ⟨_, rfl⟩; obtain ⟨hxv2, rfl⟩ : ∃ x, x = hx := ⟨_, rfl⟩; have R2v := hO2.row encB_ok))
    | ((apply WL.appendS tOk encB_ok; exact rfl; exact rfl; exact rfl; exact rfl; exact rfl; exact rfl; exact rfl; exact rfl; exact rfl; exact rfl; exact hO1; exact (by (exact extA)); exact rfl; exact R2v; exact (by (exact extA)); exact rfl; exact Own.noneCap hO2; exact rfl; exact (by (exact extA)); (rw [brV_len, brV_len]; omega); intro aI cI wI hOI hXI hUI hFI))
    | (show WL _ _ _ _ _ _ _; first | apply WL.nil | (refine WL.au (k := ?_)))
    | (show Z _ _ _ _ _; apply Z.then_normal)
    | (show W _ _ _ _ _ _; first | apply W.seq | apply W.region)
    | fail)
  have hil : (brV i c.ins.2.2.length ++ brV s c.lat.2.2.length).length ≤ 1048576 := by rw [List.length_append, brV_len, brV_len]; omega
  have hv : ∀ w9, Ext wI w9 → Lt.Spec Try.prog 61 [.slice aI (brV i c.ins.2.2.length ++ brV s c.lat.2.2.length).length cI] w9 (IsFresh 1 encI 3 w9 (lifI c.t s i)) := fun w9 h9 => by
    have h := ref34_values aI cI (brV i c.ins.2.2.length ++ brV s c.lat.2.2.length) w9 ((hOI.row encB_ok).ext h9) hil
    rw [v3_app] at h; exact h
  repeat' (first
    | (apply WL.call; exact rfl; exact rfl; exact rfl; exact rfl; exact hv _ (by (exact extA)); rintro v' w' ⟨hx, a', cap', rfl, hO⟩; (obtain ⟨aV, rfl⟩ : ∃ x, x = a' := ⟨_, rfl⟩; obtain ⟨cV, rfl⟩ : ∃ x, x = cap' := ⟨_, rfl⟩; obtain ⟨w3, rfl⟩ : ∃ x, x = w' := ⟨_, rfl⟩; obtain ⟨hOV, rfl⟩ : ∃ x, x = hO := ⟨_, rfl⟩; obtain ⟨hxV, rfl⟩ : ∃ x, x = hx := ⟨_, rfl⟩))
    | (apply WL.lit (len := 0) tOk; exact rfl; exact rfl; exact rfl; exact rfl; exact rfl; exact rfl; (first | exact rfl | kernel_rfl | (simp [Instr.fill, catCells]; done)); exact rfl; intro gb w' hb hge hc hx; have hO0 := Own.of_block0 (enc := encB) (s := 1) hb hge; (obtain ⟨gK, rfl⟩ : ∃ x, x = gb := ⟨_, rfl⟩; obtain ⟨w4, rfl⟩ : ∃ x, x = w' := ⟨_, rfl⟩; obtain ⟨hx4, rfl⟩ : ∃ x, x = hx := ⟨_, rfl⟩; obtain ⟨hOK, rfl⟩ : ∃ x, x = hO0 := ⟨_, rfl⟩; obtain ⟨hgK, rfl⟩ : ∃ x, x = hge := ⟨_, rfl⟩; have hS1 := Sep.newRow' (B := w3.heap.size) Sep.none' hx4 hOK (Nat.le_refl _)))
    | (apply WL.lit (len := 0) tOk; exact rfl; exact rfl; exact rfl; exact rfl; exact rfl; exact rfl; (first | exact rfl | kernel_rfl | (simp [Instr.fill, catCells]; done)); exact rfl; intro gb w' hb hge hc hx; have hO0 := Own.of_block0 (enc := encI) (s := 1) hb hge; (obtain ⟨gL, rfl⟩ : ∃ x, x = gb := ⟨_, rfl⟩; obtain ⟨w5, rfl⟩ : ∃ x, x = w' := ⟨_, rfl⟩; obtain ⟨hx5, rfl⟩ : ∃ x, x = hx := ⟨_, rfl⟩; obtain ⟨hOL, rfl⟩ : ∃ x, x = hO0 := ⟨_, rfl⟩; obtain ⟨hgL, rfl⟩ : ∃ x, x = hge := ⟨_, rfl⟩))
    | (show WL _ _ _ _ _ _ _; first | apply WL.nil | (refine WL.au (k := ?_)))
    | (show Z _ _ _ _ _; apply Z.then_normal)
    | (show W _ _ _ _ _ _; first | apply W.seq | apply W.region | apply W.block)
    | fail)
  have hS0 : Lt.Sep w3.heap.size w5 [prow 1 encI 3 w3.heap.size (some ⟨gL, 0, none⟩) 0 [], prow 1 encB 4 w3.heap.size (some ⟨gK, 0, none⟩) 0 []] := Sep.newRow' hS1 hx5 hOL (Below.size (by (exact extA)))
  have RI := hOV.row encI_ok
  have hcV := hOV.capLe
  have hX23 : Ext w2 w3 := (by (exact extA))
  have hX35 : Ext w3 w5 := (by (exact extA))
  have hc3 := (hcells.ext hx2).ext hX23
  clear hOL hS1 hOK hO1 hO2 hOI R2v y0 y1 y2
  refine W.loopO c.ins.2.2.length (fun k b cp w' => k ≤ c.ins.2.2.length ∧ Ext w3 w' ∧ Lt.Sep w3.heap.size w' [prow 1 encI 3 w3.heap.size (some ⟨gL, 0, none⟩) 0 [], prow 1 encB 4 w3.heap.size b cp (List.replicate k true)])
    (fun k b cp => [(3, .slice rw' want.length cw), (4, .pointer (some ⟨gc, 0, none⟩)), (10, .slice aN (cNet c.t).1.length cN), (11, .slice aA (cNet c.t).2.length cA), (13, .slice aV (lifI c.t s i).length cV), (14, .slice b (List.replicate k true).length cp), (15, .slice (some ⟨gL, 0, none⟩) 0 0), (16, .int .i64 k)]) (some ⟨gK, 0, none⟩) 0 ⟨Nat.zero_le _, hX35, hS0⟩ (fun k a cp w' h => h.1) (by repeat' first | exact trivial | (refine And.intro ?_ ?_) | exact rfl) ?_
  clear hS0
  rintro k bK cK w6 ⟨hk, hX6, hS6⟩
  have hrk : (List.replicate k true).length = k := List.length_replicate
  have hc6 := hc3.ext hX6
  obtain ⟨y0, y1, y2, _⟩ := hc6
  have hOK6 : Own 1 encB 4 w3.heap.size w6 bK cK (List.replicate k true) := Sep.row (i := 1) hS6 rfl
  by_cases hlt : k < c.ins.2.2.length
  · have e1 : List.replicate (k + 1) true = List.replicate k true ++ [true] := List.replicate_succ'
    repeat' (first
      | (apply W.condKT; exact rfl; (focus (exact dec_true (by omega); done)))
      | (apply WL.lit tOk; exact rfl; exact rfl; exact rfl; exact rfl; exact rfl; exact rfl; (first | exact rfl | kernel_rfl | (simp [Instr.fill, catCells]; done)); exact rfl; intro gb w' hb hge hc hx; (obtain ⟨wL, rfl⟩ : ∃ x, x = w' := ⟨_, rfl⟩; obtain ⟨hxL, rfl⟩ : ∃ x, x = hx := ⟨_, rfl⟩))
      | (apply WL.append1 tOk encB_ok; exact rfl; exact rfl; exact rfl; exact rfl; exact rfl; exact rfl; exact rfl; exact rfl; exact rfl; exact rfl; assumption; (exact extA); (first | exact rfl | (focus (simp only [List.length_set]; done)) | (focus (simp; done)) | (focus (simp [*]; done)) | omega | (focus (simp only [List.length_set]; omega))); assumption; (first | exact rfl | exact (rfl : encB (_, _) = _)); exact rfl; (exact extA); (first | omega | (simp; omega) | (simp at *; omega)); intro a' cap' w' hO hX' hU hF)
      | (show WL _ _ _ _ _ _ _; first | apply WL.nil | (refine WL.au (k := ?_)))
      | (show Z _ _ _ _ _; first | apply Z.then_normal | apply Z.block_normal)
      | (show W _ _ _ _ _ _; first | apply W.seq | apply W.region | apply W.block | apply W.skip)
      | fail)
    exact Z.againO a' cap' ⟨by omega, hX', by rw [e1]; exact Sep.updRow (i := 1) rfl hU hO hF hS6 hxL (Below.size (hX6.trans hxL))⟩ (by repeat' first | exact trivial | (refine And.intro ?_ ?_) | exact rfl | (rw [e1]; exact rfl))
  obtain rfl : k = c.ins.2.2.length := by omega
  rw [show List.replicate c.ins.2.2.length true = lifK c.t from rfl] at hS6 hOK6 hrk ⊢
  repeat' (first
    | (apply W.condKF; exact rfl; (focus (exact dec_false (by omega); done)))
    | (show WL _ _ _ _ _ _ _; first | apply WL.nil | (refine WL.au (k := ?_)))
    | (show Z _ _ _ _ _; first | apply Z.then_normal | apply Z.then_exit | apply Z.block_exit)
    | (show W _ _ _ _ _ _; first | apply W.seq | apply W.region | apply W.block | apply W.exit)
    | fail)
  refine W.loopO want.length (fun j b cp w' => j ≤ want.length ∧ Ext w3 w' ∧ Lt.Sep w3.heap.size w' [prow 1 encI 3 w3.heap.size b cp (lifW c.t (want.take j)), prow 1 encB 4 w3.heap.size bK cK (lifK c.t)])
    (fun j b cp => [(3, .slice rw' want.length cw), (4, .pointer (some ⟨gc, 0, none⟩)), (10, .slice aN (cNet c.t).1.length cN), (11, .slice aA (cNet c.t).2.length cA), (13, .slice aV (lifI c.t s i).length cV), (14, .slice bK (lifK c.t).length cK), (15, .slice b (lifW c.t (want.take j)).length cp), (17, .int .i64 j)]) (some ⟨gL, 0, none⟩) 0 ⟨Nat.zero_le _, hX6, hS6⟩ (fun k a cp w' h => h.1) (by repeat' first | exact trivial | (refine And.intro ?_ ?_) | exact rfl) ?_
  clear hS6 hOK6 y0 y1 y2
  rintro j bb cp w7 ⟨hj, hX7, hS7⟩
  have hwtl : (lifW c.t (want.take j)).length = min j want.length := by unfold lifW; rw [List.length_map, List.length_take]
  have hX27 : Ext w2 w7 := hX23.trans hX7
  have hOb : Own 1 encI 3 w3.heap.size w7 bb cp (lifW c.t (want.take j)) := Sep.row (i := 0) hS7 rfl
  by_cases hlj : j < want.length
  · obtain ⟨x, hx⟩ := getI want hlj
    have hxk := hw x (List.mem_of_getElem? hx)
    obtain ⟨z, hz1, hz2, hz3, hz4⟩ := knL_lit hg hxk
    have hx0 := hxk.1
    have hxm := knL_max hg hxk
    have hcm' : c.t.max ≤ 16777216 := hcm.2
    have hBC : ∀ q, blk bb = some q → w3.heap.size ≤ q := fun q hq => (hOb.blk_lt q hq).1
    have Rw3 := Rw.ext (hX2.trans hX23)
    have RA3 := RA.ext hX23
    have hr : 0 ≤ z ∧ z ≤ 9223372036854775806 := by omega
    have e1 : lifW c.t (want.take (j + 1)) = lifW c.t (want.take j) ++ [xorI z (x % 2)] := by unfold lifW; rw [take_succ' hx, List.map_append, List.map_singleton, litI_some hz1]
    repeat' (first
      | (apply W.condKT; exact rfl; (focus (exact dec_true (by omega); done)))
      | (show W _ _ (.region 11 _ _) _ _ _; apply W.regionGB (.fl true 0 (.fl true 1 (.fl true 2 (.fl true 3 (.fl true 4 (.fl true 9 (.fl true 10 (.fl true 11 (.fl false 5 (.fl true 6 (.fl true 7 (.fl false 8 (.fl false 12 (.fl true 13 (.fl true 14 (.fl false 15 (.br 16 (.br 17 (.fl true 18 .done) .stop) .stop))))))))))))))))) [7, 8, 12, 13, 14, 15, 16, 17] (blk bb) tMix; kernel_rfl)
      | (apply SG.flS; exact rfl; (focus ((intro m; first | assumption | (apply Ext.at; (exact extA)) | apply But.of_at; first | exact But.upd (by assumption) | exact But.ext (by (exact extA)) | (refine But.trans ?_ (But.upd (by assumption)); exact But.ext (by (exact extA))) | exact But.at _ _ _); done)); exact rfl; exact rfl; exact rfl; exact rfl; (focus (intro w9 hw9; exact ref34_turnedX z x _ hr)))
      | (apply WL.lit tOk; exact rfl; exact rfl; exact rfl; exact rfl; exact rfl; exact rfl; (first | exact rfl | kernel_rfl | (simp [Instr.fill, catCells]; done)); exact rfl; intro gb w' hb hge hc hx; (obtain ⟨wL, rfl⟩ : ∃ x, x = w' := ⟨_, rfl⟩; obtain ⟨hxL, rfl⟩ : ∃ x, x = hx := ⟨_, rfl⟩))
      | (apply WL.append1 tOk encI_ok; exact rfl; exact rfl; exact rfl; exact rfl; exact rfl; exact rfl; exact rfl; exact rfl; exact rfl; exact rfl; assumption; (exact extA); (first | exact rfl | (focus (simp only [List.length_set]; done)) | (focus (simp; done)) | (focus (simp [*]; done)) | omega | (focus (simp only [List.length_set]; omega))); assumption; (first | exact rfl | exact (rfl : encI (_, _) = _)); exact rfl; (exact extA); (first | omega | (simp; omega) | (simp at *; omega)); intro a' cap' w' hO hX' hU hF)
      | (show WL _ _ _ _ _ _ _; first | apply WL.nil | (refine WL.au (k := ?_)))
      | (show SG _ _ _ _ _ _ _ _ _; first | apply SG.done | (apply SG.fl0; exact rfl) | (apply SG.fl1; exact rfl; (focus ((intro m; first | assumption | (apply Ext.at; (exact extA)) | apply But.of_at; first | exact But.upd (by assumption) | exact But.ext (by (exact extA)) | (refine But.trans ?_ (But.upd (by assumption)); exact But.ext (by (exact extA))) | exact But.at _ _ _); done))) | (apply SG.br1; exact rfl))
      | (show FL _ _ _ _ _ _ _ _; first | apply FL.nilS | (refine FL.au (k := ?_)) | (apply FL.loadG tOk; exact rfl; exact rfl; exact rfl; exact rfl; exact rfl; (first | assumption | (focus (apply Ext.cell; rotate_left; assumption; (exact extA); done))); (first | (focus (intro h; cases h; done)) | (focus (intro h; have h9 := hBC _ h; (try simp only at h9); omega)) | assumption | (focus (intro h; simp only [blk, Option.map_some, Option.some.injEq] at h; omega)))) | (apply FL.index tOk; exact rfl; exact rfl; exact rfl; exact rfl; exact rfl; exact rfl; exact rfl; exact rfl; assumption; (exact extA); exact rfl; omega; assumption; exact List.cons_ne_nil _ _; intro b off h hbl; have hcc := h; first | (obtain ⟨h1, h2, h3, h4, h5, h6, _⟩ := h) | (obtain ⟨h1, h2, h3, _⟩ := h) | (obtain ⟨h1, h2, _⟩ := h) | (obtain ⟨h1, _⟩ := h)))
      | (show Z _ _ _ _ _; (apply Z.sgE; (focus ((intro m; first | assumption | (apply Ext.at; (exact extA)) | apply But.of_at; first | exact But.upd (by assumption) | exact But.ext (by (exact extA)) | (refine But.trans ?_ (But.upd (by assumption)); exact But.ext (by (exact extA))) | exact But.at _ _ _); done))))
      | (show Z _ _ _ _ _; first | apply Z.then_normal | apply Z.block_normal)
      | (show W _ _ _ _ _ _; first | apply W.seq | apply W.region | apply W.block | apply W.skip)
      | fail)
    exact Z.againO a' cap' ⟨by omega, hX', by rw [e1]; exact Sep.updRow (i := 0) rfl hU hO hF hS7 hxL (Below.size (hX7.trans hxL))⟩ (by repeat' first | exact trivial | (refine And.intro ?_ ?_) | exact rfl | (rw [e1]; exact rfl))
  obtain rfl : j = want.length := by omega
  rw [List.take_length] at hS7 hOb
  rw [List.take_length]
  have RB := hOb.row encI_ok
  have RN7 := RN.ext hX27
  have RI7 := RI.ext hX7
  have RK7 : Row 1 encB w7 bK (lifK c.t) := Own.row encB_ok (Sep.row (i := 1) hS7 rfl)
  have hsr : Pure Try.prog 62 [.slice aN (cNet c.t).1.length cN, .slice aV (lifI c.t s i).length cV, .slice bb (lifW c.t want).length cp] w7 (.bool (dec (LifP c.t s i want))) := ref10_Sure _ _ _ _ _ _ _ _ _ _ RN7 RI7 RB hng (by omega)
  have hc7 := hc3.ext hX7
  by_cases hP : LifP c.t s i want
  rotate_left
  · have eR : lifR c.t s i want = [] := by unfold lifR; rw [if_neg hP]
    repeat' (first
      | (apply W.condKT; exact rfl; (focus (first | exact dec_false (by omega) | (rw [dec_false hP]; rfl); done)))
      | (apply W.condKF; exact rfl; (focus (first | exact dec_false (by omega) | (rw [dec_false hP]; rfl); done)))
      | (apply WL.callP; exact rfl; exact rfl; exact rfl; exact rfl; exact hsr; intro w' hx)
      | (show WL _ _ _ _ _ _ _; first | apply WL.nil | (refine WL.au (k := ?_)))
      | (show Z _ _ _ _ _; first | apply Z.then_normal | apply Z.then_exit | apply Z.block_exit | apply Z.then_ret)
      | (show W _ _ _ _ _ _; first | apply W.seq | apply W.region | apply W.ret | apply W.exit)
      | fail)
    exact Z.body2 Try.results27 rfl rfl fun m => ⟨Ext.at (hX2.trans (hX27.trans hx)) m, none, 0, by rw [eR, dec_false hP]; rfl, by rw [eR]; exact Row.nil _ _ _ _⟩
  have eR : lifR c.t s i want = lifC c.t s i want := by unfold lifR; rw [if_pos hP]
  have hdl : (lifD c.t s i want).length = c.ins.2.2.length + c.lat.2.2.length := lifD_len hg (by omega) hP
  have hDr : ∀ w9, Ext w7 w9 → Lt.Spec Try.prog 63 [.slice aN (cNet c.t).1.length cN, .slice aV (lifI c.t s i).length cV, .slice bb (lifW c.t want).length cp, .slice bK (lifK c.t).length cK] w9 (IsFresh 1 encI 3 w9 (lifD c.t s i want)) := fun w9 h9 =>
    ref10_Drop aN aV bb bK cN cV cp cK (cNet c.t).1 (lifI c.t s i) (lifW c.t want) (lifK c.t) w9 (RN7.ext h9) (RI7.ext h9) (RB.ext h9) (RK7.ext h9) hng (by omega)
  obtain ⟨y0, y1, y2, _⟩ := hc7
  repeat' (first
    | (apply W.condKF; exact rfl; (focus (first | exact dec_false (by omega) | (rw [dec_true hP]; rfl); done)))
    | (apply WL.callP; exact rfl; exact rfl; exact rfl; exact rfl; exact hsr; intro w' hx; (obtain ⟨w8, rfl⟩ : ∃ x, x = w' := ⟨_, rfl⟩; obtain ⟨hx8, rfl⟩ : ∃ x, x = hx := ⟨_, rfl⟩))
    | (apply WL.call; exact rfl; exact rfl; exact rfl; exact rfl; exact hDr _ (by (exact extA)); rintro v' w' ⟨hx, a', cap', rfl, hO⟩; (obtain ⟨aD, rfl⟩ : ∃ x, x = a' := ⟨_, rfl⟩; obtain ⟨cD, rfl⟩ : ∃ x, x = cap' := ⟨_, rfl⟩; obtain ⟨w9, rfl⟩ : ∃ x, x = w' := ⟨_, rfl⟩; obtain ⟨hOD, rfl⟩ : ∃ x, x = hO := ⟨_, rfl⟩; obtain ⟨hxD, rfl⟩ : ∃ x, x = hx := ⟨_, rfl⟩))
    | (apply WL.lit (len := 0) tOk; exact rfl; exact rfl; exact rfl; exact rfl; exact rfl; exact rfl; (first | exact rfl | kernel_rfl | (simp [Instr.fill, catCells]; done)); exact rfl; intro gb w' hb hge hc hx; have hO0 := Own.of_block0 (enc := encI) (s := 1) hb hge; (obtain ⟨gE, rfl⟩ : ∃ x, x = gb := ⟨_, rfl⟩; obtain ⟨w10, rfl⟩ : ∃ x, x = w' := ⟨_, rfl⟩; obtain ⟨hxE, rfl⟩ : ∃ x, x = hx := ⟨_, rfl⟩; obtain ⟨hOE, rfl⟩ : ∃ x, x = hO0 := ⟨_, rfl⟩))
    | (show WL _ _ _ _ _ _ _; first | apply WL.nil | (refine WL.au (k := ?_)))
    | (show Z _ _ _ _ _; first | apply Z.then_normal | apply Z.then_exit | apply Z.block_exit)
    | (show W _ _ _ _ _ _; first | apply W.seq | apply W.region | apply W.block | apply W.skip | apply W.exit)
    | fail)
  have RD : Row 1 encI w9 aD (lifD c.t s i want) := hOD.row encI_ok
  have hX79 : Ext w7 w9 := (by (exact extA))
  have hX9 : Ext w2 w9 := hX27.trans hX79
  have hcd := (hc3.ext hX7).ext hX79
  have OE : Own 1 encI 3 w9.heap.size w10 (some ⟨gE, 0, none⟩) 0 [] := hOE
  clear hOE y0 y1 y2 hOD hOb
  refine W.loopO c.lat.2.2.length (fun q b cp w' => q ≤ c.lat.2.2.length ∧ Ext w9 w' ∧ Own 1 encI 3 w9.heap.size w' b cp (cubV (lifD c.t s i want) c.ins.2.2.length q))
    (fun q b cp => [(4, .pointer (some ⟨gc, 0, none⟩)), (18, .slice aD (lifD c.t s i want).length cD), (19, .slice b (cubV (lifD c.t s i want) c.ins.2.2.length q).length cp), (20, .int .i64 q)]) (some ⟨gE, 0, none⟩) 0 ⟨Nat.zero_le _, hxE, OE⟩ (fun k a cp w' h => h.1) (by repeat' first | exact trivial | (refine And.intro ?_ ?_) | exact rfl) ?_
  clear OE
  rintro q be ce w11 ⟨hq, hX11, hOe⟩
  have hcl := cubV_len (lifD c.t s i want) c.ins.2.2.length q
  have hc11 := hcd.ext hX11
  obtain ⟨y0, y1, y2, _⟩ := hc11
  by_cases hlq : q < c.lat.2.2.length
  · have hv : (lifD c.t s i want)[c.ins.2.2.length + q]? = some ((lifD c.t s i want).getD (c.ins.2.2.length + q) 2) := by
      obtain ⟨y, hy⟩ := getI (lifD c.t s i want) (show c.ins.2.2.length + q < _ by omega)
      rw [hy, getD_of hy]
    have hvd := lifD_lat hg (by omega) hP (show q < c.t.lat.length from hlq)
    obtain ⟨v, hve⟩ : ∃ v, v = (lifD c.t s i want).getD (c.ins.2.2.length + q) 2 := ⟨_, rfl⟩
    have hvd2 : v = 2 ∨ v = 0 ∨ v = 1 := by
      rcases hvd with h | h
      · exact .inl (hve.trans h)
      · have h2 : v = b3 (s.getD q false) := hve.trans h
        rw [h2]; unfold b3; split <;> simp
    rw [← hve] at hv
    have hv9 : (lifD c.t s i want)[(((c.ins.2.2.length : Nat) : Int) + (q : Int)).toNat]? = some v := by
      rw [show (((c.ins.2.2.length : Nat) : Int) + (q : Int)).toNat = c.ins.2.2.length + q by omega]; exact hv
    have e0 : cubV (lifD c.t s i want) c.ins.2.2.length (q + 1) = cubV (lifD c.t s i want) c.ins.2.2.length q ++ (if v = 2 then [] else [2 * (q : Int) + 1 - v]) := by
      show cubV _ _ q ++ _ = _
      rw [← hve]
    have RD11 := RD.ext hX11
    rcases hvd2 with h2 | h2 | h2
    · subst h2
      have e1 : cubV (lifD c.t s i want) c.ins.2.2.length (q + 1) = cubV (lifD c.t s i want) c.ins.2.2.length q := by rw [e0, if_pos rfl, List.append_nil]
      repeat' (first
        | (apply W.condKT; exact rfl; (focus (first | exact dec_true (by omega) | exact dec_false (by omega); done)))
        | (apply W.condKF; exact rfl; (focus (first | exact dec_true (by omega) | exact dec_false (by omega); done)))
        | (show WL _ _ _ _ _ _ _; first | apply WL.nil | (refine WL.au (k := ?_)) | (apply WL.index tOk; exact rfl; exact rfl; exact rfl; exact rfl; exact rfl; exact rfl; exact rfl; exact rfl; assumption; (exact extA); exact rfl; omega; assumption; intro b off h; have hcc := h; first | (obtain ⟨h1, h2, h3, h4, h5, h6, _⟩ := h) | (obtain ⟨h1, h2, h3, _⟩ := h) | (obtain ⟨h1, h2, _⟩ := h) | (obtain ⟨h1, _⟩ := h)))
        | (show Z _ _ _ _ _; first | apply Z.then_normal | apply Z.block_normal)
        | (show W _ _ _ _ _ _; first | apply W.seq | apply W.region | apply W.block | apply W.skip)
        | fail)
      exact Z.againO be ce ⟨by omega, hX11, by rw [e1]; exact hOe⟩ (by repeat' first | exact trivial | (refine And.intro ?_ ?_) | exact rfl | (rw [e1]; exact rfl))
    · subst h2
      have e1 : cubV (lifD c.t s i want) c.ins.2.2.length (q + 1) = cubV (lifD c.t s i want) c.ins.2.2.length q ++ [2 * (q : Int) + 1] := by rw [e0, if_neg (by omega), Int.sub_zero]
      repeat' (first
        | (apply W.condKT; exact rfl; (focus (first | exact dec_true (by omega) | exact dec_false (by omega); done)))
        | (apply W.condKF; exact rfl; (focus (first | exact dec_true (by omega) | exact dec_false (by omega); done)))
        | (apply WL.lit tOk; exact rfl; exact rfl; exact rfl; exact rfl; exact rfl; exact rfl; (first | exact rfl | kernel_rfl | (simp [Instr.fill, catCells]; done)); exact rfl; intro gb w' hb hge hc hx)
        | (apply WL.append1 tOk encI_ok; exact rfl; exact rfl; exact rfl; exact rfl; exact rfl; exact rfl; exact rfl; exact rfl; exact rfl; exact rfl; assumption; (exact extA); (first | exact rfl | (focus (simp only [List.length_set]; done)) | (focus (simp; done)) | (focus (simp [*]; done)) | omega | (focus (simp only [List.length_set]; omega))); assumption; (first | exact rfl | exact (rfl : encI (_, _) = _)); exact rfl; (exact extA); (first | omega | (simp; omega) | (simp at *; omega)); intro a' cap' w' hO hX' hU hF)
        | (show WL _ _ _ _ _ _ _; first | apply WL.nil | (refine WL.au (k := ?_)) | (apply WL.index tOk; exact rfl; exact rfl; exact rfl; exact rfl; exact rfl; exact rfl; exact rfl; exact rfl; assumption; (exact extA); exact rfl; omega; assumption; intro b off h; have hcc := h; first | (obtain ⟨h1, h2, h3, h4, h5, h6, _⟩ := h) | (obtain ⟨h1, h2, h3, _⟩ := h) | (obtain ⟨h1, h2, _⟩ := h) | (obtain ⟨h1, _⟩ := h)))
        | (show Z _ _ _ _ _; first | apply Z.then_normal | apply Z.block_normal)
        | (show W _ _ _ _ _ _; first | apply W.seq | apply W.region | apply W.block | apply W.skip)
        | fail)
      exact Z.againO a' cap' ⟨by omega, hX', by rw [e1]; exact hO⟩ (by repeat' first | exact trivial | (refine And.intro ?_ ?_) | exact rfl | (rw [e1]; exact rfl))
    · subst h2
      have e1 : cubV (lifD c.t s i want) c.ins.2.2.length (q + 1) = cubV (lifD c.t s i want) c.ins.2.2.length q ++ [2 * (q : Int)] := by rw [e0, if_neg (by omega), Int.add_sub_cancel]
      repeat' (first
        | (apply W.condKT; exact rfl; (focus (first | exact dec_true (by omega) | exact dec_false (by omega); done)))
        | (apply W.condKF; exact rfl; (focus (first | exact dec_true (by omega) | exact dec_false (by omega); done)))
        | (apply WL.lit tOk; exact rfl; exact rfl; exact rfl; exact rfl; exact rfl; exact rfl; (first | exact rfl | kernel_rfl | (simp [Instr.fill, catCells]; done)); exact rfl; intro gb w' hb hge hc hx)
        | (apply WL.append1 tOk encI_ok; exact rfl; exact rfl; exact rfl; exact rfl; exact rfl; exact rfl; exact rfl; exact rfl; exact rfl; exact rfl; assumption; (exact extA); (first | exact rfl | (focus (simp only [List.length_set]; done)) | (focus (simp; done)) | (focus (simp [*]; done)) | omega | (focus (simp only [List.length_set]; omega))); assumption; (first | exact rfl | exact (rfl : encI (_, _) = _)); exact rfl; (exact extA); (first | omega | (simp; omega) | (simp at *; omega)); intro a' cap' w' hO hX' hU hF)
        | (show WL _ _ _ _ _ _ _; first | apply WL.nil | (refine WL.au (k := ?_)) | (apply WL.index tOk; exact rfl; exact rfl; exact rfl; exact rfl; exact rfl; exact rfl; exact rfl; exact rfl; assumption; (exact extA); exact rfl; omega; assumption; intro b off h; have hcc := h; first | (obtain ⟨h1, h2, h3, h4, h5, h6, _⟩ := h) | (obtain ⟨h1, h2, h3, _⟩ := h) | (obtain ⟨h1, h2, _⟩ := h) | (obtain ⟨h1, _⟩ := h)))
        | (show Z _ _ _ _ _; first | apply Z.then_normal | apply Z.block_normal)
        | (show W _ _ _ _ _ _; first | apply W.seq | apply W.region | apply W.block | apply W.skip)
        | fail)
      exact Z.againO a' cap' ⟨by omega, hX', by rw [e1]; exact hO⟩ (by repeat' first | exact trivial | (refine And.intro ?_ ?_) | exact rfl | (rw [e1]; exact rfl))
  · obtain rfl : q = c.lat.2.2.length := by omega
    repeat' (first
      | (apply W.condKF; exact rfl; (focus (exact dec_false (by omega); done)))
      | (show WL _ _ _ _ _ _ _; first | apply WL.nil | (refine WL.au (k := ?_)))
      | (show Z _ _ _ _ _; first | apply Z.then_normal | apply Z.then_exit | apply Z.block_exit)
      | (show W _ _ _ _ _ _; first | apply W.seq | apply W.region | apply W.ret | apply W.exit)
      | fail)
    exact Z.body2 Try.results27 rfl rfl fun m => ⟨Ext.at (hX2.trans (hX9.trans hX11)) m, be, ce, by rw [eR, dec_true hP]; rfl, by rw [eR]; exact (hOe.row encI_ok).ext ((Ext.refl _).at m)⟩
end Go.Proofs.Ytlcenenkloicjaa
namespace Go.Proofs.Ytlcenenkloicjaa
open Go Go.Lt Go.RowKit
set_option linter.unusedVariables false
set_option linter.unusedSimpArgs false
set_option maxRecDepth 20000

abbrev exL : CirT := ⟨3, [2], [(4, 6, 0)], [], [], [], [(6, 2, 4)], [], ⟨#[]⟩⟩
abbrev exLn : List (Int × Int) := [(-1, 0), (-1, 0), (2, 4)]
theorem exL_ord : ordL [((6, 2, 4) : G3)] = [0] := by
  refine (IsOrd.ord (gs := [(6, 2, 4)]) (L := [0]) ⟨fun k i h => ?_, fun i ⟨g, hg, hn, _⟩ => ?_⟩).symm
  · have hk : k = 0 := by have := lt_of_get h; simp at this; omega
    subst hk
    simp at h
    subst h
    refine ⟨⟨(6, 2, 4), rfl, by simp, fun j x hj he => ?_⟩, fun j hj => Nat.zero_le _⟩
    have : j = 0 := by have := lt_of_get hj; simp at this; omega
    subst this
    simp at hj
    subst hj
    decide
  · have : i = 0 := by have := lt_of_get hg; simp at this; omega
    subst this
    exact hn (by simp)
theorem exL_good : GoodC' exL := by
  refine ⟨by decide, fun x hx => ?_, fun x hx => ?_, fun x hx => ?_, ?_, fun x hx h => ?_, ?_⟩
  · have : x = 2 ∨ x = 4 ∨ x = 6 := by simpa using hx
    rcases this with rfl | rfl | rfl <;> decide
  · have : x = 6 ∨ x = 2 ∨ x = 4 := by simpa using hx
    rcases this with rfl | rfl | rfl <;> decide
  · have : x = (4, 6, 0) := by simpa using hx
    subst this; exact .inl rfl
  · simp
  · have : x = 6 ∨ x = 2 ∨ x = 4 := by simpa using hx
    rcases this with rfl | rfl | rfl <;> simp
  · show (ordL [((6, 2, 4) : G3)]).length = 1
    rw [exL_ord]; rfl
theorem exL_net : cNet exL = (exLn, [0, 2, 4, 6]) := by
  unfold cNet
  rw [show exL.gates = [(6, 2, 4)] from rfl, exL_ord]
  rfl
theorem exL_gn : GoodNet exLn := by have := (cNet_ok exL_good).2; rw [exL_net] at this; exact this
theorem exL_next : nextL exL [0] = [6] := rfl
theorem exL_I : lifI exL [true] [true] = [1, 1] := rfl
theorem exL_W6 : lifW exL [6] = [6] := by unfold lifW; rw [exL_net]; rfl
theorem exL_W2 : lifW exL [2] = [2] := by unfold lifW; rw [exL_net]; rfl
theorem exL_l6 : ∀ x ∈ [(6 : Int)], 0 ≤ x ∧ (x / 2).toNat ≤ exLn.length := fun x hx => by simp at hx; subst hx; decide
theorem exL_l2 : ∀ x ∈ [(2 : Int)], 0 ≤ x ∧ (x / 2).toNat ≤ exLn.length := fun x hx => by simp at hx; subst hx; decide
theorem exL_P6 : LifP exL [true] [true] [6] := by
  unfold LifP; rw [exL_I, exL_W6, exL_net]
  exact (sure_calc exL_gn (by decide) _ exL_l6).2 (by decide)
theorem exL_P2 : LifP exL [true] [true] [2] := by
  unfold LifP; rw [exL_I, exL_W2, exL_net]
  exact (sure_calc exL_gn (by decide) _ exL_l2).2 (by decide)
theorem exL_tab : tab (cnt exLn exLn.length) (tin [1, 1]) = [1, 1] := by decide
theorem exL_d6 : dropL exLn [1, 1] [6] [true] = [1, 1] := by
  have s0 : SureP exLn [1, 1] [6] := (sure_calc exL_gn (by decide) _ exL_l6).2 (by decide)
  have s2 : ¬ SureP exLn [1, 2] [6] := fun h => absurd ((sure_calc exL_gn (by decide) _ exL_l6).1 h) (by decide)
  rw [dropL, exL_tab, if_pos s0, show cnt exLn exLn.length = 2 from rfl, dropTo, dropTo, dropTo, exL_tab]
  have d0 : dstep exLn [6] [true] [1, 1] 0 = [1, 1] := by rw [dstep]; exact if_pos (by decide)
  rw [d0, dstep, if_neg (by decide)]
  exact if_neg s2
theorem exL_d2 : dropL exLn [1, 1] [2] [true] = [1, 2] := by
  have s0 : SureP exLn [1, 1] [2] := (sure_calc exL_gn (by decide) _ exL_l2).2 (by decide)
  have s2 : SureP exLn [1, 2] [2] := (sure_calc exL_gn (by decide) _ exL_l2).2 (by decide)
  rw [dropL, exL_tab, if_pos s0, show cnt exLn exLn.length = 2 from rfl, dropTo, dropTo, dropTo, exL_tab]
  have d0 : dstep exLn [2] [true] [1, 1] 0 = [1, 1] := by rw [dstep]; exact if_pos (by decide)
  rw [d0, dstep, if_neg (by decide)]
  exact if_pos s2
theorem exL_C6 : lifC exL [true] [true] [6] = [0] := by
  unfold lifC lifD
  rw [exL_I, exL_W6, exL_net, show lifK exL = [true] from rfl, exL_d6]
  rfl
theorem exL_C2 : lifC exL [true] [true] [2] = [] := by
  unfold lifC lifD
  rw [exL_I, exL_W2, exL_net, show lifK exL = [true] from rfl, exL_d2]
  rfl
theorem exL_R6 : lifR exL [true] [true] [6] = [0] := by unfold lifR; rw [if_pos exL_P6, exL_C6]
theorem exL_R2 : lifR exL [true] [true] [2] = [] := by unfold lifR; rw [if_pos exL_P2, exL_C2]
theorem exL_k6 : ∀ x ∈ [(6 : Int)], KnL exL x := fun x hx => by simp at hx; subst hx; exact ⟨by decide, fun _ => by simp⟩
theorem exL_k2 : ∀ x ∈ [(2 : Int)], KnL exL x := fun x hx => by simp at hx; subst hx; exact ⟨by decide, fun _ => by simp⟩
theorem exL_of : OfK exL [0] := fun x hx => by simp at hx; subst hx; decide
end Go.Proofs.Ytlcenenkloicjaa
namespace Go.Proofs.Ytlcenenkloicjaa
open Go Go.Lt Go.RowKit
set_option linter.unusedVariables false
set_option linter.unusedSimpArgs false
set_option maxRecDepth 20000

set_option maxRecDepth 20000 in
set_option maxHeartbeats 16000000 in
theorem law34_lives (w : World) : Pure Try.prog 22 [] w (.bool true) := by
  refine Spec.of _ Try.func22 rfl Try.ntmps22 (by kernel_rfl) rfl ?_
  repeat' (first
    | ((show WL _ _ _ (⟨_, .build 41 _, _, _, _, _⟩ :: _) _ _ _; apply WL.build (cs := [.int .i64 3, .slice (some ⟨g1, 0, none⟩) 1 1, .slice (some ⟨g2, 0, none⟩) 1 1, .slice none 0 0, .slice none 0 0, .slice none 0 0, .slice (some ⟨g3, 0, none⟩) 1 1, .slice none 0 0, .string ⟨#[]⟩]) tOk; exact rfl; exact rfl; exact rfl; exact rfl; exact rfl; exact rfl; (first | kernel_rfl | exact rfl); kernel_rfl))
    | (apply WL.build tOk; exact rfl; exact rfl; exact rfl; exact rfl; exact rfl; exact rfl; exact rfl; kernel_rfl)
    | (apply WL.lit tOk; exact rfl; exact rfl; exact rfl; exact rfl; exact rfl; exact rfl; (first | exact rfl | kernel_rfl | (simp [Instr.fill, catCells]; done)); exact rfl; intro gb w' hb hge hc hx; have hO := Own.of_block ([(2 : Int)]) encI_ok hb hge rfl; (obtain ⟨g1, rfl⟩ : ∃ x, x = gb := ⟨_, rfl⟩; obtain ⟨w1, rfl⟩ : ∃ x, x = w' := ⟨_, rfl⟩; obtain ⟨hx1, rfl⟩ : ∃ x, x = hx := ⟨_, rfl⟩; obtain ⟨hO1, rfl⟩ : ∃ x, x = hO := ⟨_, rfl⟩))
    | (apply WL.lit tOk; exact rfl; exact rfl; exact rfl; exact rfl; exact rfl; exact rfl; (first | exact rfl | kernel_rfl | (simp [Instr.fill, catCells]; done)); exact rfl; intro gb w' hb hge hc hx; have hO := Own.of_block ([((4, 6, 0) : T3)]) enc3_ok hb hge rfl; (obtain ⟨g2, rfl⟩ : ∃ x, x = gb := ⟨_, rfl⟩; obtain ⟨w2, rfl⟩ : ∃ x, x = w' := ⟨_, rfl⟩; obtain ⟨hx2, rfl⟩ : ∃ x, x = hx := ⟨_, rfl⟩; obtain ⟨hO2, rfl⟩ : ∃ x, x = hO := ⟨_, rfl⟩))
    | (apply WL.lit tOk; exact rfl; exact rfl; exact rfl; exact rfl; exact rfl; exact rfl; (first | exact rfl | kernel_rfl | (simp [Instr.fill, catCells]; done)); exact rfl; intro gb w' hb hge hc hx; have hO := Own.of_block ([((6, 2, 4) : T3)]) enc3_ok hb hge rfl; (obtain ⟨g3, rfl⟩ : ∃ x, x = gb := ⟨_, rfl⟩; obtain ⟨w3, rfl⟩ : ∃ x, x = w' := ⟨_, rfl⟩; obtain ⟨hx3, rfl⟩ : ∃ x, x = hx := ⟨_, rfl⟩; obtain ⟨hO3, rfl⟩ : ∃ x, x = hO := ⟨_, rfl⟩))
    | (apply WL.alloc tOk; exact rfl; exact rfl; exact rfl; intro gb w' hb hge hx)
    | (apply WL.storeB (w0 := w3) tOk; exact rfl; exact rfl; exact rfl; exact rfl; assumption; (exact extA); exact rfl; exact rfl; exact rfl; (exact extA); (first | assumption | omega | (focus (apply Nat.le_trans; rotate_left; assumption; exact Below.size (by (exact extA)); done))); intro w' hb hc hX' hU; have hcc := hc; obtain ⟨h1, h2, _⟩ := hc; (obtain ⟨w4, rfl⟩ : ∃ x, x = w' := ⟨_, rfl⟩; obtain ⟨hb4, rfl⟩ : ∃ x, x = hb := ⟨_, rfl⟩; obtain ⟨hX4, rfl⟩ : ∃ x, x = hX' := ⟨_, rfl⟩; obtain ⟨gC, rfl⟩ : ∃ x, x = gb := ⟨_, rfl⟩; have hcs := cells_heap hb4))
    | (show WL _ _ _ _ _ _ _; first | apply WL.nil | (refine WL.au (k := ?_)))
    | (show Z _ _ _ _ _; apply Z.then_normal)
    | (show W _ _ _ _ _ _; first | apply W.seq | apply W.region)
    | fail)
  obtain ⟨c, hc⟩ : ∃ c : Circ, c = ⟨3, (some ⟨g1, 0, none⟩, 1, [2]), (some ⟨g2, 0, none⟩, 1, [(4, 6, 0)]), (none, 0, []), (none, 0, []), (none, 0, []), (some ⟨g3, 0, none⟩, 1, [(6, 2, 4)]), (none, 0, []), ⟨#[]⟩⟩ := ⟨_, rfl⟩
  have hct : c.t = exL := by rw [hc]
  have hX : Ext w w4 := (by (exact extA))
  have nilK : ∀ {α : Type} (s : Nat) (enc : α → List Value), RowK s enc w4 ((none, 0, []) : RowV α) := fun s enc => ⟨Row.nil _ _ _ _, Nat.le_refl _, fun _ => rfl⟩
  have hC : CAt w4 c := by
    rw [hc]
    exact ⟨⟨(hO1.row encI_ok).ext (by (exact extA)), Nat.le_refl _, fun h => by cases h⟩, ⟨(hO2.row enc3_ok).ext (by (exact extA)), Nat.le_refl _, fun h => by cases h⟩, nilK _ _, nilK _ _, nilK _ _, ⟨(hO3.row enc3_ok).ext (by (exact extA)), Nat.le_refl _, fun h => by cases h⟩, nilK _ _⟩
  have hz : SzC c.t 100000 := by rw [hct]; unfold SzC; simp
  have hg : GoodC' c.t := by rw [hct]; exact exL_good
  have hv : c.val = .agg #[.int .i64 3, .slice (some ⟨g1, 0, none⟩) 1 1, .slice (some ⟨g2, 0, none⟩) 1 1, .slice none 0 0, .slice none 0 0, .slice none 0 0, .slice (some ⟨g3, 0, none⟩) 1 1, .slice none 0 0, .string ⟨#[]⟩] := by rw [hc]; rfl
  have hnx := fun (w9 : World) (a : Option Addr) (h9 : Ext w4 w9) (R : Row 1 encI w9 a [0]) => lift_Next c a 1 [0] w9 (hC.ext h9) hg R (by rw [hct]; exact exL_of) (by decide)
  have hl6 := fun (w9 : World) (a b d : Option Addr) (cd : Nat) (h9 : Ext w4 w9) (R : Row 1 encB w9 a [true]) (Rb : Row 1 encB w9 b [true]) (Rd : Row 1 encI w9 d [6]) => lift_Lift c a b d 1 1 cd [true] [true] [6] w9 (hC.ext h9) hg hz R Rb Rd (by rw [hct]; exact exL_k6) (by decide)
  have hl2 := fun (w9 : World) (a b d : Option Addr) (cd : Nat) (h9 : Ext w4 w9) (R : Row 1 encB w9 a [true]) (Rb : Row 1 encB w9 b [true]) (Rd : Row 1 encI w9 d [2]) => lift_Lift c a b d 1 1 cd [true] [true] [2] w9 (hC.ext h9) hg hz R Rb Rd (by rw [hct]; exact exL_k2) (by decide)
  rw [hv, hct] at hnx hl6 hl2
  rw [exL_next] at hnx
  have p6 : dec (LifP exL [true] [true] [6]) = true := dec_true exL_P6
  have p2 : dec (LifP exL [true] [true] [2]) = true := dec_true exL_P2
  unfold IsLift at hl6 hl2
  rw [exL_R6, p6] at hl6
  rw [exL_R2, p2] at hl2
  clear hb hc
  repeat' (first
    | (show W _ _ (.region 2 _ _) _ _ _; apply W.regionGX (.fl false 0 (.fl false 3 (.br 1 (.br 2 (.br 4 (.br 5 (.br 6 (.fl true 7 (.fl true 8 (.fl true 9 (.fl true 10 (.fl true 11 .done))))) .stop) .stop) .stop) (.br 4 (.br 2 (.br 5 (.br 6 (.fl true 7 (.fl true 8 (.fl true 9 (.fl true 10 (.fl true 11 .done))))) .stop) .stop) (.br 5 (.br 2 (.br 6 (.fl true 7 (.fl true 8 (.fl true 9 (.fl true 10 (.fl true 11 .done))))) .stop) .stop) .stop)) .stop)) (.br 2 (.br 1 (.br 4 (.br 5 (.br 6 (.fl true 7 (.fl true 8 (.fl true 9 (.fl true 10 (.fl true 11 .done))))) .stop) .stop) .stop) (.br 4 (.br 1 (.br 5 (.br 6 (.fl true 7 (.fl true 8 (.fl true 9 (.fl true 10 (.fl true 11 .done))))) .stop) .stop) (.br 5 (.br 1 (.br 6 (.fl true 7 (.fl true 8 (.fl true 9 (.fl true 10 (.fl true 11 .done))))) .stop) .stop) .stop)) .stop)) (.br 4 (.br 1 (.br 2 (.br 5 (.br 6 (.fl true 7 (.fl true 8 (.fl true 9 (.fl true 10 (.fl true 11 .done))))) .stop) .stop) (.br 5 (.br 2 (.br 6 (.fl true 7 (.fl true 8 (.fl true 9 (.fl true 10 (.fl true 11 .done))))) .stop) .stop) .stop)) (.br 2 (.br 1 (.br 5 (.br 6 (.fl true 7 (.fl true 8 (.fl true 9 (.fl true 10 (.fl true 11 .done))))) .stop) .stop) (.br 5 (.br 1 (.br 6 (.fl true 7 (.fl true 8 (.fl true 9 (.fl true 10 (.fl true 11 .done))))) .stop) .stop) .stop)) (.br 5 (.br 1 (.br 2 (.br 6 (.fl true 7 (.fl true 8 (.fl true 9 (.fl true 10 (.fl true 11 .done))))) .stop) .stop) (.br 2 (.br 1 (.br 6 (.fl true 7 (.fl true 8 (.fl true 9 (.fl true 10 (.fl true 11 .done))))) .stop) .stop) .stop)) .stop))) .stop))))) [1, 2, 3, 4, 5, 6, 7, 8, 9] tMix; kernel_rfl)
    | (apply WL.lit tOk; exact rfl; exact rfl; exact rfl; exact rfl; exact rfl; exact rfl; (first | exact rfl | kernel_rfl | (simp [Instr.fill, catCells]; done)); exact rfl; intro gb w' hb hge hc hx; have hO := Own.of_block ([true]) encB_ok hb hge rfl)
    | (apply WL.lit tOk; exact rfl; exact rfl; exact rfl; exact rfl; exact rfl; exact rfl; (first | exact rfl | kernel_rfl | (simp [Instr.fill, catCells]; done)); exact rfl; intro gb w' hb hge hc hx; have hO := Own.of_block ([(0 : Int)]) encI_ok hb hge rfl)
    | (apply WL.lit tOk; exact rfl; exact rfl; exact rfl; exact rfl; exact rfl; exact rfl; (first | exact rfl | kernel_rfl | (simp [Instr.fill, catCells]; done)); exact rfl; intro gb w' hb hge hc hx; have hO := Own.of_block ([(2 : Int)]) encI_ok hb hge rfl)
    | (((show WL _ _ _ (⟨_, .call ⟨.value (.func 23), _, _⟩, _, _, _, _⟩ :: _) _ _ _); apply WL.call; exact rfl; exact rfl; exact rfl; exact rfl; exact hnx _ _ (by (exact extA)) (Row.ext (Own.row encI_ok (by assumption)) (by (exact extA))); rintro v' w5 ⟨hx5, a5, c5, rfl, hO5⟩; have R5 := hO5.row encI_ok))
    | (((show WL _ _ _ (⟨_, .call ⟨.value (.func 26), _, _⟩, _, _, _, _⟩ :: _) _ _ _); apply WL.call; exact rfl; exact rfl; exact rfl; exact rfl; (first | exact hl6 _ _ _ _ _ (by (exact extA)) (Row.ext (Own.row encB_ok (by assumption)) (by (exact extA))) (Row.ext (Own.row encB_ok (by assumption)) (by (exact extA))) (R5.ext (by (exact extA))) | exact hl2 _ _ _ _ _ (by (exact extA)) (Row.ext (Own.row encB_ok (by assumption)) (by (exact extA))) (Row.ext (Own.row encB_ok (by assumption)) (by (exact extA))) (Row.ext (Own.row encI_ok (by assumption)) (by (exact extA)))); (first | (have h_0 := R6; clear h_0; rintro v' w7 ⟨hx7, a7, c7, rfl, R7⟩) | rintro v' w6 ⟨hx6, a6, c6, rfl, R6⟩)))
    | (apply WL.gT; exact rfl; exact rfl; (focus (first | exact dec_true rfl | exact dec_true (by decide); done)))
    | ((show WL _ _ _ (⟨_, .call ⟨.value (.func 14), _, _⟩, _, _, _, _⟩ :: _) _ _ _); apply WL.callS; exact rfl; exact rfl; exact rfl; exact rfl; exact ref_Ints _ _ _ _ [0] [0] _ (R6.ext (by (exact extA))) (Own.row encI_ok (by assumption)))
    | (show SX _ _ _ _ _ _ _ _ _; first | (apply SX.done; intro w' hx) | (apply SX.fl0; exact rfl) | (apply SX.fl1; exact rfl; (exact extA)) | (apply SX.br1; exact rfl; intro w' hx) | (apply SX.br; exact rfl; (intro w' hx)))
    | (show FL _ _ _ _ _ _ _ _; first | apply FL.nilX | (apply FL.loadAE tOk; exact rfl; exact rfl; exact rfl; exact rfl; exact rfl; assumption; exact rfl))
    | (show FL _ _ _ _ _ _ _ _; (refine FL.au (k := ?_)))
    | (show Z _ _ _ _ _; (apply Z.sxE; (exact extA)))
    | (show WL _ _ _ _ _ _ _; first | apply WL.nil | (refine WL.au (k := ?_)))
    | (show Z _ _ _ _ _; apply Z.then_normal)
    | (show W _ _ _ _ _ _; first | apply W.seq | apply W.region | apply W.ret)
    | fail)
  all_goals exact Z.body1 Try.results22 rfl fun m => ⟨rfl, Ext.at (hX.trans (by (exact extA))) m⟩
end Go.Proofs.Ytlcenenkloicjaa
namespace Go.Proofs.Ytlcenenkloicjaa
open Go Go.Lt Go.RowKit
set_option linter.unusedVariables false
set_option linter.unusedSimpArgs false
set_option maxRecDepth 20000

/-- A number's lowest bits. -/
def bitsL (n : Nat) : Nat → List Bool
  | 0 => []
  | m + 1 => bitsL n m ++ [decide (n / 2 ^ m % 2 = 1)]
theorem bitsL_len (n : Nat) : ∀ m, (bitsL n m).length = m
  | 0 => rfl
  | m + 1 => by rw [bitsL, List.length_append, bitsL_len n m]; rfl
theorem ref17_bits (n m : Nat) (w : World) (hn : n ≤ 1048576) (hm : m ≤ 20) : Lt.Spec Try.prog 64 [.int .i64 n, .int .i64 m] w (IsFresh 1 encB 4 w (bitsL n m)) := by
  refine Spec.of _ Try.func64 rfl Try.ntmps64 (by kernel_rfl) rfl ?_
  repeat' (first
    | (apply WL.lit (len := 0) tOk; exact rfl; exact rfl; exact rfl; exact rfl; exact rfl; exact rfl; (first | exact rfl | kernel_rfl | (simp [Instr.fill, catCells]; done)); exact rfl; intro gb w' hb hge hc hx; have hO0 := Own.of_block0 (enc := encB) (s := 1) hb hge)
    | (show WL _ _ _ _ _ _ _; first | apply WL.nil | (refine WL.au (k := ?_)))
    | (show Z _ _ _ _ _; apply Z.then_normal)
    | (show W _ _ _ _ _ _; first | apply W.seq | apply W.region | apply W.block)
    | fail)
  obtain ⟨g0, rfl⟩ : ∃ x, x = gb := ⟨_, rfl⟩; obtain ⟨w1, rfl⟩ : ∃ x, x = w' := ⟨_, rfl⟩
  have hd0 : n / 2 ^ 0 = n := by rw [Nat.pow_zero, Nat.div_one]
  refine W.loopO m (fun k a cp w' => k ≤ m ∧ Ext w w' ∧ Own 1 encB 4 w.heap.size w' a cp (bitsL n k)) (fun k a cp => [(0, .int .i64 (n / 2 ^ k : Nat)), (1, .int .i64 m), (5, .slice a (bitsL n k).length cp), (6, .int .i64 k)]) (some ⟨g0, 0, none⟩) 0 ⟨Nat.zero_le _, hx, hO0⟩ (fun k a cp w' h => h.1) ⟨by rw [hd0]; rfl, rfl, rfl, rfl, trivial⟩ ?_
  rintro k a cp w2 ⟨hk, hX2, hO2⟩
  have hl := bitsL_len n k
  have hdl : n / 2 ^ k ≤ n := Nat.div_le_self _ _
  by_cases hlt : k < m
  · have e1 : bitsL n (k + 1) = bitsL n k ++ [decide (n / 2 ^ k % 2 = 1)] := rfl
    have e2 : dec ((((n / 2 ^ k : Nat) : Int) % 2) = 1) = decide (n / 2 ^ k % 2 = 1) := by rw [← dec_decide]; exact dec_congr (by omega)
    have e3 : ((n / 2 ^ k : Nat) : Int) / 2 = ((n / 2 ^ (k + 1) : Nat) : Int) := by rw [Nat.pow_succ, ← Nat.div_div_eq_div_mul]; omega
    generalize n / 2 ^ k = z at *
    repeat' (first
      | (apply W.condKT; exact rfl; (focus (exact dec_true (by omega); done)))
      | (apply WL.lit tOk; exact rfl; exact rfl; exact rfl; exact rfl; exact rfl; exact rfl; (first | exact rfl | kernel_rfl | (simp [Instr.fill, catCells]; done)); exact rfl; intro gb w' hb hge hc hx)
      | (apply WL.append1 (z := (dec ((z : Int) % 2 = 1))) tOk encB_ok; exact rfl; exact rfl; exact rfl; exact rfl; exact rfl; exact rfl; exact rfl; exact rfl; exact rfl; exact rfl; assumption; (exact extA); (first | exact rfl | (focus (simp only [List.length_set]; done)) | (focus (simp; done)) | (focus (simp [*]; done)) | omega | (focus (simp only [List.length_set]; omega))); (first | assumption | (refine Cells.ext ?_ (by assumption); exact extA)); exact rfl; exact rfl; (exact extA); (first | omega | (simp; omega) | (simp at *; omega)); intro a' cap' w' hO hX' hU hF)
      | (show WL _ _ _ _ _ _ _; first | apply WL.nil | (refine WL.au (k := ?_)))
      | (show Z _ _ _ _ _; first | apply Z.then_normal | apply Z.block_normal)
      | (show W _ _ _ _ _ _; first | apply W.seq | apply W.region | apply W.block | apply W.skip)
      | fail)
    rw [e2, ← e1] at hO
    refine Z.againO a' cap' ⟨by omega, (by (exact extA)), hO⟩ ?_
    rw [e1, ← e3, ← e2]
    exact ⟨rfl, rfl, rfl, rfl, trivial⟩
  · obtain rfl : k = m := by omega
    repeat' (first
      | (apply W.condKF; exact rfl; (focus (exact dec_false (by omega); done)))
      | (show WL _ _ _ _ _ _ _; first | apply WL.nil | (refine WL.au (k := ?_)))
      | (show Z _ _ _ _ _; first | apply Z.then_normal | apply Z.then_exit | apply Z.block_exit)
      | (show W _ _ _ _ _ _; first | apply W.seq | apply W.region | apply W.ret | apply W.exit)
      | fail)
    exact Z.body1 Try.results64 rfl fun m => ⟨Ext.at hX2 m, a, cp, rfl, hO2.ext ((Ext.refl _).at m)⟩
set_option maxHeartbeats 4000000 in
theorem ref17_LitK (gm : Nat) (c : Circ) (rn : RowV (Int × Int)) (ra : RowV Int) (a b : Option Addr) (ca cb : Nat) (s i : List Bool) (l : Int) (w : World) (hM : MAt w gm c rn ra) (Rs : Row 1 encB w a s) (Ri : Row 1 encB w b i) (hl : KnL c.t l) :
    Pure Try.prog 31 [.pointer (some ⟨gm, 0, none⟩), .slice a s.length ca, .slice b i.length cb, .int .i64 l] w (.bool (litV c.t s i l)) := by
  obtain ⟨hcells, hC, Rn, Ra, en, ea, hg, hz⟩ := hM
  have hcells0 := hcells
  obtain ⟨y0, y1, y2, y3, y4, y5, y6, y7, y8, y9, y10, _⟩ := hcells
  have hnl := Nat.le_trans (net_len hg hz) (show 300000 ≤ 1048576 by omega)
  have hng := (cNet_ok hg).2
  rw [← en] at hnl hng
  obtain ⟨z, z1, z2, z3, z4⟩ := knL_lit hg hl
  have hlu : 0 ≤ l ∧ l ≤ 2 * c.t.max + 1 := ⟨hl.1, knL_max hg hl⟩
  have hmx := hg.max
  rw [← ea] at z1
  rw [← en] at z4
  have k1 : c.ins.2.2.length ≤ 100000 := hz.1
  have k2 : c.lat.2.2.length ≤ 100000 := hz.2.1
  have b1 := brV_len i c.ins.2.2.length
  have b2 := brV_len s c.lat.2.2.length
  have hvl := values_len' rn.2.2 (brV i c.ins.2.2.length ++ brV s c.lat.2.2.length)
  have ez : litV c.t s i l = (ofL (values rn.2.2 (brV i c.ins.2.2.length ++ brV s c.lat.2.2.length)) z != decide (l % 2 = 1)) := by
    rw [litV_ref z1 z2, en, ea]; rfl
  refine Spec.of _ Try.func31 rfl Try.ntmps31 (by kernel_rfl) rfl ?_
  repeat' (first
    | (apply FL.nilc; exact rfl; exact rfl; exact rfl)
    | (show W _ _ (.region 1 _ _) _ _ _; apply W.regionGX (.fl true 0 (.fl true 1 (.fl true 2 (.fl true 3 (.fl true 4 (.fl true 8 (.fl true 9 (.fl true 10 (.fl true 11 (.fl true 12 (.fl false 5 (.fl true 6 (.fl false 13 (.fl true 14 (.br 7 (.br 15 (.br 16 (.fl true 17 .done) .stop) .stop) .stop))))))))))))))) [7, 13, 14, 15, 16] tMix; kernel_rfl)
    | ((show WL _ _ _ (⟨_, .call ⟨.value (.func 35), _, _⟩, _, _, _, _⟩ :: _) _ _ _); apply WL.call; exact rfl; exact rfl; exact rfl; exact rfl; exact ref17_Brought _ _ i c.ins.2.2.length _ (Ri.ext (by (exact extA))) (by omega); rintro v' w' ⟨hx, a', cap', rfl, hO⟩; (obtain ⟨hO1, rfl⟩ : ∃ x, x = hO := ⟨_, rfl⟩; obtain ⟨a1, rfl⟩ : ∃ x, x = a' := ⟨_, rfl⟩; obtain ⟨c1, rfl⟩ : ∃ x, x = cap' := ⟨_, rfl⟩; obtain ⟨w1, rfl⟩ : ∃ x, x = w' := ⟨_, rfl⟩))
    | ((show WL _ _ _ (⟨_, .call ⟨.value (.func 35), _, _⟩, _, _, _, _⟩ :: _) _ _ _); apply WL.call; exact rfl; exact rfl; exact rfl; exact rfl; exact ref17_Brought _ _ s c.lat.2.2.length _ (Rs.ext (by (exact extA))) (by omega); rintro v' w' ⟨hx, a', cap', rfl, hO⟩; (obtain ⟨hO2, rfl⟩ : ∃ x, x = hO := ⟨_, rfl⟩; obtain ⟨a2, rfl⟩ : ∃ x, x = a' := ⟨_, rfl⟩; obtain ⟨c2, rfl⟩ : ∃ x, x = cap' := ⟨_, rfl⟩; have R2 := hO2.row encB_ok; have n2 := hO2.noneCap))
    | (apply WL.appendS tOk encB_ok; exact rfl; exact rfl; exact rfl; exact rfl; exact rfl; exact rfl; exact rfl; exact rfl; exact rfl; exact rfl; assumption; (exact extA); (first | exact rfl | (focus (simp only [List.length_set]; done)) | (focus (simp; done)) | (focus (simp [*]; done)) | omega | (focus (simp only [List.length_set]; omega))); assumption; (exact extA); (first | exact rfl | (focus (simp only [List.length_set]; done)) | (focus (simp; done)) | (focus (simp [*]; done)) | omega | (focus (simp only [List.length_set]; omega))); (first | assumption | (intro h; cases h) | exact Own.noneCap (by assumption)); exact rfl; (exact extA); (first | omega | (simp; omega) | (simp at *; omega)); intro a' cap' w' hO hX' hU hF)
    | (show SX _ _ _ _ _ _ _ _ _; first | (apply SX.done; intro w' hx) | (apply SX.fl0; exact rfl) | (apply SX.fl1; exact rfl; (exact extA)) | (apply SX.br1; exact rfl; intro w' hx))
    | (show FL _ _ _ _ _ _ _ _; first | apply FL.nilX | (apply FL.loadE tOk; exact rfl; exact rfl; exact rfl; exact rfl; exact rfl; (first | assumption | (focus (apply Ext.cell; rotate_left; assumption; exact extA; done)))))
    | (show FL _ _ _ _ _ _ _ _; (refine FL.au (k := ?_)))
    | (show Z _ _ _ _ _; (apply Z.sxE; (exact extA)))
    | (show WL _ _ _ _ _ _ _; first | apply WL.nil | (refine WL.au (k := ?_)))
    | (show Z _ _ _ _ _; apply Z.then_normal)
    | (show W _ _ _ _ _ _; first | apply W.seq | apply W.region)
    | fail)
  obtain ⟨w5, rfl⟩ : ∃ x, x = w' := ⟨_, rfl⟩; obtain ⟨a5, rfl⟩ : ∃ x, x = a' := ⟨_, rfl⟩; obtain ⟨c5, rfl⟩ : ∃ x, x = cap' := ⟨_, rfl⟩
  have hX5 : Ext w w5 := (by (exact extA))
  have Rv := hO.row encB_ok
  have Ra5 := Ra.ext hX5
  clear y0 y1 y2 y3 y4 y5 y6 y7 y8 y9 y10
  have hcells := hcells0.ext hX5
  obtain ⟨y0, y1, y2, y3, y4, y5, y6, y7, y8, y9, y10, _⟩ := hcells
  repeat' (first
    | (apply FL.nilc; exact rfl; exact rfl; exact rfl)
    | (show W _ _ (.region 2 _ _) _ _ _; apply W.regionGX (.fl true 0 (.fl true 1 (.fl true 2 (.fl true 4 (.fl true 6 (.fl true 7 (.fl true 8 (.fl true 10 (.fl true 11 (.fl true 15 (.fl true 16 (.fl true 17 (.fl false 3 (.fl false 9 (.fl true 12 (.fl false 13 (.br 5 (.br 14 (.fl true 18 (.fl true 19 .done)) .stop) .stop))))))))))))))))) [5, 9, 12, 13, 14, 18] tMix; kernel_rfl)
    | ((show WL _ _ _ (⟨_, .call ⟨.value (.func 40), _, _⟩, _, _, _, _⟩ :: _) _ _ _); apply WL.call; exact rfl; exact rfl; exact rfl; exact rfl; exact ref07_Values _ _ _ _ rn.2.2 _ _ (Rn.ext (by (exact extA))) (Rv.ext (by (exact extA))) hng hnl; rintro v' w' ⟨hx, a', cap', rfl, hO⟩; (obtain ⟨hOv, rfl⟩ : ∃ x, x = hO := ⟨_, rfl⟩; obtain ⟨av, rfl⟩ : ∃ x, x = a' := ⟨_, rfl⟩; obtain ⟨cv, rfl⟩ : ∃ x, x = cap' := ⟨_, rfl⟩; have RV := hOv.row encB_ok))
    | ((show WL _ _ _ (⟨_, .call ⟨.value (.func 65), _, _⟩, _, _, _, _⟩ :: _) _ _ _); apply WL.callS; exact rfl; exact rfl; exact rfl; exact rfl; exact ref07_Of _ _ _ z _ (RV.ext (by (exact extA))) ⟨z2, by omega, by omega⟩)
    | (show SX _ _ _ _ _ _ _ _ _; first | (apply SX.done; intro w' hx) | (apply SX.fl0; exact rfl) | (apply SX.fl1; exact rfl; (exact extA)) | (apply SX.br1; exact rfl; intro w' hx))
    | (show FL _ _ _ _ _ _ _ _; first | apply FL.nilX | (apply FL.loadE tOk; exact rfl; exact rfl; exact rfl; exact rfl; exact rfl; (first | assumption | (focus (apply Ext.cell; rotate_left; assumption; exact extA; done)))) | (apply FL.indexE tOk; exact rfl; exact rfl; exact rfl; exact rfl; exact rfl; exact rfl; exact rfl; exact rfl; assumption; exact rfl; omega; assumption; intro b off h; have hcc := h; first | (obtain ⟨h1, h2, h3, h4, h5, h6, _⟩ := h) | (obtain ⟨h1, h2, h3, _⟩ := h) | (obtain ⟨h1, h2, _⟩ := h) | (obtain ⟨h1, _⟩ := h)))
    | (show FL _ _ _ _ _ _ _ _; (refine FL.au (k := ?_)))
    | (show Z _ _ _ _ _; (apply Z.sxE; (exact extA)))
    | (show WL _ _ _ _ _ _ _; apply WL.nil)
    | (show Z _ _ _ _ _; apply Z.then_normal)
    | (show W _ _ _ _ _ _; apply W.ret)
    | fail)
  exact Z.body1 Try.results31 rfl fun m => ⟨by rw [ez]; exact congrArg Value.bool (by rw [dec_ne_dec]), Ext.at (by (exact extA)) m⟩

theorem ref17_Bits (n m : Nat) (w : World) (hn : n ≤ 1048576) (hm : m ≤ 20) : Lt.Spec Try.prog 29 [.int .i64 n, .int .i64 m] w (IsFresh 1 encB 4 w (bitsL n m)) := by
  refine Spec.of _ Try.func29 rfl Try.ntmps29 (by kernel_rfl) rfl ?_
  repeat' (first
    | (apply WL.call; exact rfl; exact rfl; exact rfl; exact rfl; exact ref17_bits n m _ hn hm; rintro v' w' ⟨hx, a', cap', rfl, hO⟩)
    | (show WL _ _ _ _ _ _ _; first | apply WL.nil | (refine WL.au (k := ?_)))
    | (show Z _ _ _ _ _; apply Z.then_normal)
    | (show W _ _ _ _ _ _; first | apply W.seq | apply W.region | apply W.ret)
    | fail)
  exact Z.body1 Try.results29 rfl fun m => ⟨Ext.at hx m, a', cap', rfl, hO⟩
end Go.Proofs.Ytlcenenkloicjaa
namespace Go.Proofs.Ytlcenenkloicjaa
open Go Go.Lt Go.RowKit
set_option linter.unusedVariables false
set_option linter.unusedSimpArgs false
set_option maxRecDepth 20000

theorem few_sz2 {c : CirT} {m : Int} (h : FewC c m) (hm : m ≤ 100000) : SzC c 100000 ∧ c.syms.length ≤ 100000 := by
  obtain ⟨h1, h2, h3, h4, h5, h6, h7, _⟩ := few_iff.1 h
  exact ⟨⟨by omega, by omega, by omega, by omega, by omega, by omega⟩, by omega⟩
end Go.Proofs.Ytlcenenkloicjaa
namespace Go.Proofs.Ytlcenenkloicjaa
open Go Go.Lt Go.RowKit
set_option linter.unusedVariables false
set_option linter.unusedSimpArgs false
set_option maxRecDepth 20000

theorem cubV_bd {d : List Int} {ni : Nat} : ∀ m, (∀ q, q < m → d.getD (ni + q) 2 = 2 ∨ 0 ≤ d.getD (ni + q) 2) → ∀ x ∈ cubV d ni m, x ≤ 2 * (m : Int) + 1
  | 0, _, x, hx => by cases hx
  | m + 1, h, x, hx => by
    unfold cubV at hx
    rcases List.mem_append.1 hx with h1 | h1
    · have := cubV_bd m (fun q hq => h q (by omega)) x h1; omega
    · have h2 := h m (by omega)
      split at h1
      · cases h1
      · have h3 := List.mem_singleton.1 h1; omega
theorem lifR_bd {c : CirT} {s i : List Bool} {want : List Int} (h : GoodC' c) (hn : (cNet c).1.length ≤ 1048576) : ∀ x ∈ lifR c s i want, x ≤ 2 * (c.lat.length : Int) + 1 := by
  intro x hx
  unfold lifR at hx
  split at hx
  · rename_i hP
    refine cubV_bd _ (fun q hq => ?_) x hx
    rcases lifD_lat h hn hP hq with h1 | h1
    · exact .inl h1
    · right; rw [h1]; unfold b3; split <;> omega
  · cases hx
set_option maxHeartbeats 16000000 in
theorem law_LiftLifts (c : Circ) (ra rb rw' rk : Option Addr) (ca cb cw ck : Nat) (s i : List Bool) (want k : List Int) (w : World) (hC : CAt w c) (Rs : Row 1 encB w ra s) (Ri : Row 1 encB w rb i) (Rw : Row 1 encI w rw' want) (Rk : Row 1 encI w rk k) (na : ra = none → ca = 0) (nb : rb = none → cb = 0) (nw : rw' = none → cw = 0) (nk : rk = none → ck = 0) (hmw : ∀ x ∈ want, x ≤ 9223372036854775807) (hmk : ∀ x ∈ k, x ≤ 9223372036854775807) :
    Pure Try.prog 5 [c.val, .slice ra s.length ca, .slice rb i.length cb, .slice rw' want.length cw, .slice rk k.length ck] w (.bool true) := by
  by_cases hf : FewC c.t 12 ∧ c.max ≤ 300 ∧ GoodC' c.t
  rotate_left
  · refine Spec.of _ Try.func5 rfl Try.ntmps5 (by kernel_rfl) rfl ?_
    repeat' (first
      | (apply WL.box; exact rfl; exact rfl; exact rfl; intro gb w' hb hge hc hx; have hcc := hc; (first | (obtain ⟨h1, h2, h3, _⟩ := hc) | (obtain ⟨h1, h2, _⟩ := hc)))
      | (apply WL.gT; exact rfl; exact rfl; (focus (first | (rw [dec_false hf]; rfl); done)))
      | ((show WL _ _ _ (⟨_, .call ⟨.value (.func 19), _, _⟩, _, _, _, _⟩ :: _) _ _ _); apply WL.callP; exact rfl; exact rfl; exact rfl; exact rfl; exact law11_Small c 12 _ (hC.ext (by (exact extA))) (by decide); intro w' hx)
      | ((show WL _ _ _ (⟨_, .call ⟨.value (.func 22), _, _⟩, _, _, _, _⟩ :: _) _ _ _); apply WL.callP; exact rfl; exact rfl; exact rfl; exact rfl; exact law34_lives _; intro w' hx)
      | (show WL _ _ _ _ _ _ _; first | apply WL.nil | (refine WL.au (k := ?_)) | (apply WL.guardF; exact rfl; exact rfl))
      | (show Z _ _ _ _ _; first | apply Z.then_normal | apply Z.then_ret)
      | (show W _ _ _ _ _ _; first | apply W.seq | apply W.region | apply W.ret | (apply W.condT; exact rfl))
      | fail)
    exact Z.body1 Try.results5 rfl fun m => ⟨rfl, Ext.at (by (exact extA)) m⟩
  have hkf : (!dec (FewC c.t 12 ∧ c.max ≤ 300 ∧ GoodC' c.t)) = false := by rw [dec_true hf]; rfl
  obtain ⟨hfew, hmx, hg⟩ := id hf
  obtain ⟨hz, hz7⟩ := few_sz2 hfew (by decide)
  by_cases q1 : (c.lat.2.2.length : Int) ≤ 5
  rotate_left
  · refine Spec.of _ Try.func5 rfl Try.ntmps5 (by kernel_rfl) rfl ?_
    repeat' (first
      | (apply WL.box; exact rfl; exact rfl; exact rfl; intro gb w' hb hge hc hx; have hcc := hc; (first | (obtain ⟨h1, h2, h3, _⟩ := hc) | (obtain ⟨h1, h2, _⟩ := hc)); (obtain ⟨y0, y1, y2, _⟩ := id hcc))
      | (apply WL.gT; exact rfl; exact rfl; (focus (first | with_reducible exact hkf | exact dec_true (by omega); done)))
      | (apply WL.gF; exact rfl; exact rfl; (focus (first | with_reducible exact hkf | exact dec_true (by omega); done)))
      | ((show WL _ _ _ (⟨_, .call ⟨.value (.func 19), _, _⟩, _, _, _, _⟩ :: _) _ _ _); apply WL.callP; exact rfl; exact rfl; exact rfl; exact rfl; exact law11_Small c 12 _ (hC.ext (by (exact extA))) (by decide); intro w' hx)
      | ((show WL _ _ _ (⟨_, .call ⟨.value (.func 22), _, _⟩, _, _, _, _⟩ :: _) _ _ _); apply WL.callP; exact rfl; exact rfl; exact rfl; exact rfl; exact law34_lives _; intro w' hx)
      | (show WL _ _ _ _ _ _ _; first | apply WL.nil | (refine WL.au (k := ?_)) | (apply WL.guardF; exact rfl; exact rfl))
      | (show Z _ _ _ _ _; first | apply Z.then_normal | apply Z.then_ret)
      | (show W _ _ _ _ _ _; first | apply W.seq | apply W.region | apply W.ret | (apply W.condT; exact rfl))
      | fail)
    exact Z.body1 Try.results5 rfl fun m => ⟨rfl, Ext.at (by (exact extA)) m⟩
  by_cases q2 : (s.length : Int) ≤ 30
  rotate_left
  · refine Spec.of _ Try.func5 rfl Try.ntmps5 (by kernel_rfl) rfl ?_
    repeat' (first
      | (apply WL.box; exact rfl; exact rfl; exact rfl; intro gb w' hb hge hc hx; have hcc := hc; (first | (obtain ⟨h1, h2, h3, _⟩ := hc) | (obtain ⟨h1, h2, _⟩ := hc)); (obtain ⟨y0, y1, y2, _⟩ := id hcc))
      | (apply WL.gT; exact rfl; exact rfl; (focus (first | with_reducible exact hkf | exact dec_true (by omega) | exact dec_false (by omega); done)))
      | (apply WL.gF; exact rfl; exact rfl; (focus (first | with_reducible exact hkf | exact dec_true (by omega) | exact dec_false (by omega); done)))
      | ((show WL _ _ _ (⟨_, .call ⟨.value (.func 19), _, _⟩, _, _, _, _⟩ :: _) _ _ _); apply WL.callP; exact rfl; exact rfl; exact rfl; exact rfl; exact law11_Small c 12 _ (hC.ext (by (exact extA))) (by decide); intro w' hx)
      | ((show WL _ _ _ (⟨_, .call ⟨.value (.func 22), _, _⟩, _, _, _, _⟩ :: _) _ _ _); apply WL.callP; exact rfl; exact rfl; exact rfl; exact rfl; exact law34_lives _; intro w' hx)
      | (show WL _ _ _ _ _ _ _; first | apply WL.nil | (refine WL.au (k := ?_)) | (apply WL.guardF; exact rfl; exact rfl))
      | (show Z _ _ _ _ _; first | apply Z.then_normal | apply Z.then_ret)
      | (show W _ _ _ _ _ _; first | apply W.seq | apply W.region | apply W.ret | (apply W.condT; exact rfl))
      | fail)
    exact Z.body1 Try.results5 rfl fun m => ⟨rfl, Ext.at (by (exact extA)) m⟩
  by_cases q3 : (i.length : Int) ≤ 30
  rotate_left
  · refine Spec.of _ Try.func5 rfl Try.ntmps5 (by kernel_rfl) rfl ?_
    repeat' (first
      | (apply WL.box; exact rfl; exact rfl; exact rfl; intro gb w' hb hge hc hx; have hcc := hc; (first | (obtain ⟨h1, h2, h3, _⟩ := hc) | (obtain ⟨h1, h2, _⟩ := hc)); (obtain ⟨y0, y1, y2, _⟩ := id hcc))
      | (apply WL.gT; exact rfl; exact rfl; (focus (first | with_reducible exact hkf | exact dec_true (by omega) | exact dec_false (by omega); done)))
      | (apply WL.gF; exact rfl; exact rfl; (focus (first | with_reducible exact hkf | exact dec_true (by omega) | exact dec_false (by omega); done)))
      | ((show WL _ _ _ (⟨_, .call ⟨.value (.func 19), _, _⟩, _, _, _, _⟩ :: _) _ _ _); apply WL.callP; exact rfl; exact rfl; exact rfl; exact rfl; exact law11_Small c 12 _ (hC.ext (by (exact extA))) (by decide); intro w' hx)
      | ((show WL _ _ _ (⟨_, .call ⟨.value (.func 22), _, _⟩, _, _, _, _⟩ :: _) _ _ _); apply WL.callP; exact rfl; exact rfl; exact rfl; exact rfl; exact law34_lives _; intro w' hx)
      | (show WL _ _ _ _ _ _ _; first | apply WL.nil | (refine WL.au (k := ?_)) | (apply WL.guardF; exact rfl; exact rfl))
      | (show Z _ _ _ _ _; first | apply Z.then_normal | apply Z.then_ret)
      | (show W _ _ _ _ _ _; first | apply W.seq | apply W.region | apply W.ret | (apply W.condT; exact rfl))
      | fail)
    exact Z.body1 Try.results5 rfl fun m => ⟨rfl, Ext.at (by (exact extA)) m⟩
  have hkn := fun (w9 : World) (h9 : Ext w w9) => law34_known c rw' cw want w9 (hC.ext h9) hz (Rw.ext h9) hmw
  by_cases hK : KnP c.t want
  rotate_left
  · have hk2 : (!dec (KnP c.t want)) = true := by rw [dec_false hK]; rfl
    refine Spec.of _ Try.func5 rfl Try.ntmps5 (by kernel_rfl) rfl ?_
    repeat' (first
      | (apply WL.box; exact rfl; exact rfl; exact rfl; intro gb w' hb hge hc hx; have hcc := hc; (first | (obtain ⟨h1, h2, h3, _⟩ := hc) | (obtain ⟨h1, h2, _⟩ := hc)); (obtain ⟨y0, y1, y2, _⟩ := id hcc))
      | (apply WL.gT; exact rfl; exact rfl; (focus (first | with_reducible exact hkf | with_reducible exact hk2 | exact dec_true (by omega) | exact dec_false (by omega); done)))
      | (apply WL.gF; exact rfl; exact rfl; (focus (first | with_reducible exact hkf | with_reducible exact hk2 | exact dec_true (by omega) | exact dec_false (by omega); done)))
      | ((show WL _ _ _ (⟨_, .call ⟨.value (.func 19), _, _⟩, _, _, _, _⟩ :: _) _ _ _); apply WL.callP; exact rfl; exact rfl; exact rfl; exact rfl; exact law11_Small c 12 _ (hC.ext (by (exact extA))) (by decide); intro w' hx)
      | (apply WL.callP; exact rfl; exact rfl; exact rfl; exact rfl; exact hkn _ (by (exact extA)); intro w' hx)
      | ((show WL _ _ _ (⟨_, .call ⟨.value (.func 22), _, _⟩, _, _, _, _⟩ :: _) _ _ _); apply WL.callP; exact rfl; exact rfl; exact rfl; exact rfl; exact law34_lives _; intro w' hx)
      | (show WL _ _ _ _ _ _ _; first | apply WL.nil | (refine WL.au (k := ?_)) | (apply WL.guardF; exact rfl; exact rfl))
      | (show Z _ _ _ _ _; first | apply Z.then_normal | apply Z.then_ret)
      | (show W _ _ _ _ _ _; first | apply W.seq | apply W.region | apply W.ret | (apply W.condT; exact rfl))
      | fail)
    exact Z.body1 Try.results5 rfl fun m => ⟨rfl, Ext.at (by (exact extA)) m⟩
  have hk2 : (!dec (KnP c.t want)) = false := by rw [dec_true hK]; rfl
  have hof := fun (w9 : World) (a : Option Addr) (h9 : Ext w w9) (R : Row 1 encRow w9 a [((rk, ck, k) : RowV Int)]) => law34_Of c a 1 [((rk, ck, k) : RowV Int)] w9 (hC.ext h9) R (fun r hr => by rw [List.mem_singleton.1 hr]; exact Rk.ext h9) (fun r hr => by rw [List.mem_singleton.1 hr]; exact hmk)
  by_cases hO1 : OfCs c.t [((rk, ck, k) : RowV Int)]
  rotate_left
  · have hk3 : (!dec (OfCs c.t [((rk, ck, k) : RowV Int)])) = true := by rw [dec_false hO1]; rfl
    refine Spec.of _ Try.func5 rfl Try.ntmps5 (by kernel_rfl) rfl ?_
    repeat' (first
      | (apply WL.box; exact rfl; exact rfl; exact rfl; intro gb w' hb hge hc hx; have hcc := hc; (first | (obtain ⟨h1, h2, h3, _⟩ := hc) | (obtain ⟨h1, h2, _⟩ := hc)); (obtain ⟨y0, y1, y2, _⟩ := id hcc))
      | (apply WL.gF; exact rfl; exact rfl; (focus (first | with_reducible exact hkf | with_reducible exact hk2 | with_reducible exact hk3 | exact dec_true (by omega) | exact dec_false (by omega); done)))
      | (apply W.condKT; exact rfl; (focus (first | with_reducible exact hkf | with_reducible exact hk2 | with_reducible exact hk3 | exact dec_true (by omega) | exact dec_false (by omega); done)))
      | ((show WL _ _ _ (⟨_, .call ⟨.value (.func 19), _, _⟩, _, _, _, _⟩ :: _) _ _ _); apply WL.callP; exact rfl; exact rfl; exact rfl; exact rfl; exact law11_Small c 12 _ (hC.ext (by (exact extA))) (by decide); intro w' hx)
      | (apply WL.callP; exact rfl; exact rfl; exact rfl; exact rfl; exact hkn _ (by (exact extA)); intro w' hx)
      | (apply WL.lit tOk; exact rfl; exact rfl; exact rfl; exact rfl; exact rfl; exact rfl; (first | exact rfl | kernel_rfl | (simp [Instr.fill, catCells]; done)); exact rfl; intro gb w' hb hge hc hx; have hO := Own.of_block ([((rk, ck, k) : RowV Int)]) encRow_ok hb hge rfl; (obtain ⟨hOr, rfl⟩ : ∃ x, x = hO := ⟨_, rfl⟩))
      | (apply WL.callP; exact rfl; exact rfl; exact rfl; exact rfl; exact hof _ _ (by (exact extA)) (hOr.row encRow_ok); intro w' hx)
      | ((show WL _ _ _ (⟨_, .call ⟨.value (.func 22), _, _⟩, _, _, _, _⟩ :: _) _ _ _); apply WL.callP; exact rfl; exact rfl; exact rfl; exact rfl; exact law34_lives _; intro w' hx)
      | (show WL _ _ _ _ _ _ _; first | apply WL.nil | (refine WL.au (k := ?_)))
      | (show Z _ _ _ _ _; first | apply Z.then_normal | apply Z.then_ret)
      | (show W _ _ _ _ _ _; first | apply W.seq | apply W.region | apply W.ret)
      | fail)
    exact Z.body1 Try.results5 rfl fun m => ⟨rfl, Ext.at (by (exact extA)) m⟩
  have hk3 : (!dec (OfCs c.t [((rk, ck, k) : RowV Int)])) = false := by rw [dec_true hO1]; rfl
  have hofk : Of1 c.t k := hO1.1 (rk, ck, k) (List.mem_singleton.2 rfl)
  have hkl : k.length ≤ 20 := by have := hofk.2; omega
  have hwl : want.length ≤ 20 := by have := hK.2; omega
  have hnx := fun (w9 : World) (d : Circ) (a : Option Addr) (cap : Nat) (hd : d.t = c.t) (hCd : CAt w9 d) (R : Row 1 encI w9 a k) => show Lt.Spec Try.prog 23 [d.val, .slice a k.length cap] w9 (IsFresh 1 encI 3 w9 (nextL c.t k)) from hd ▸ lift_Next d a cap k w9 hCd (by rw [hd]; exact hg) R (by rw [hd]; exact hofk.1) (by omega)
  have hlf := fun (w9 : World) (d : Circ) (a b e : Option Addr) (c1 c2 c3 : Nat) (hd : d.t = c.t) (hCd : CAt w9 d) (R1 : Row 1 encB w9 a s) (R2 : Row 1 encB w9 b i) (R3 : Row 1 encI w9 e want) => show Lt.Spec Try.prog 26 [d.val, .slice a s.length c1, .slice b i.length c2, .slice e want.length c3] w9 (IsLift w9 c.t s i want) from hd ▸ lift_Lift d a b e c1 c2 c3 s i want w9 hCd (by rw [hd]; exact hg) (by rw [hd]; exact hz) R1 R2 R3 (by rw [hd]; exact hK.1) (by omega)
  have hkL : dec (dec (LifP c.t s i want) ≠ dec (LifP c.t s i want)) = false := dec_false (fun h => h rfl)
  refine Spec.of _ Try.func5 rfl Try.ntmps5 (by kernel_rfl) rfl ?_
  repeat' (first
    | (apply WL.box; exact rfl; exact rfl; exact rfl; intro gb w' hb hge hc hx; have hcc := hc; (first | (obtain ⟨h1, h2, h3, _⟩ := hc) | (obtain ⟨h1, h2, _⟩ := hc)); (obtain ⟨gc, rfl⟩ : ∃ x, x = gb := ⟨_, rfl⟩; obtain ⟨wc, rfl⟩ : ∃ x, x = w' := ⟨_, rfl⟩; obtain ⟨hxc, rfl⟩ : ∃ x, x = hx := ⟨_, rfl⟩; have hcells : Cells wc gc 0 c.vals := hcc; obtain ⟨y0, y1, y2, _⟩ := id hcells))
    | (apply WL.gF; exact rfl; exact rfl; (focus (first | with_reducible exact hkf | with_reducible exact hk2 | with_reducible exact hk3 | exact dec_true (by omega) | exact dec_false (by omega); done)))
    | (apply W.condKF; exact rfl; (focus (first | with_reducible exact hkf | with_reducible exact hk2 | with_reducible exact hk3 | exact dec_true (by omega) | exact dec_false (by omega); done)))
    | ((show WL _ _ _ (⟨_, .call ⟨.value (.func 19), _, _⟩, _, _, _, _⟩ :: _) _ _ _); apply WL.callP; exact rfl; exact rfl; exact rfl; exact rfl; exact law11_Small c 12 _ (hC.ext (by (exact extA))) (by decide); intro w' hx)
    | (apply WL.callP; exact rfl; exact rfl; exact rfl; exact rfl; exact hkn _ (by (exact extA)); intro w' hx)
    | (apply WL.lit tOk; exact rfl; exact rfl; exact rfl; exact rfl; exact rfl; exact rfl; (first | exact rfl | kernel_rfl | (simp [Instr.fill, catCells]; done)); exact rfl; intro gb w' hb hge hc hx; have hO := Own.of_block ([((rk, ck, k) : RowV Int)]) encRow_ok hb hge rfl; (obtain ⟨hOr, rfl⟩ : ∃ x, x = hO := ⟨_, rfl⟩; obtain ⟨w1, rfl⟩ : ∃ x, x = w' := ⟨_, rfl⟩; obtain ⟨hx1, rfl⟩ : ∃ x, x = hx := ⟨_, rfl⟩))
    | (apply WL.callP; exact rfl; exact rfl; exact rfl; exact rfl; exact hof _ _ (by (exact extA)) (hOr.row encRow_ok); intro w' hx; (obtain ⟨w2, rfl⟩ : ∃ x, x = w' := ⟨_, rfl⟩; obtain ⟨hx2, rfl⟩ : ∃ x, x = hx := ⟨_, rfl⟩))
    | (show WL _ _ _ _ _ _ _; first | apply WL.nil | (refine WL.au (k := ?_)))
    | (show Z _ _ _ _ _; apply Z.then_normal)
    | (show W _ _ _ _ _ _; first | apply W.seq | apply W.region | apply W.skip)
    | fail)
  have hX2 : Ext w w2 := (by (exact extA))
  have hXc2 : Ext wc w2 := (by (exact extA))
  have RkX := Rk.ext hX2
  have hcells2 : Cells w2 gc 0 c.vals := hcells.ext hXc2
  repeat' (first
    | (show W _ _ (.region 3 _ _) _ _ _; apply W.regionGX (.fl true 3 (.fl true 7 (.fl false 0 (.fl false 6 (.br 1 (.br 2 (.br 4 (.br 5 (.br 8 (.br 9 (.fl true 10 .done) .stop) .stop) .stop) .stop) .stop) (.br 2 (.br 1 (.br 4 (.br 5 (.br 8 (.br 9 (.fl true 10 .done) .stop) .stop) .stop) .stop) .stop) .stop)))))) [1, 2, 4, 5, 6, 8, 9, 10] tMix; kernel_rfl)
    | (((show WL _ _ _ (⟨_, .call ⟨.value (.func 24), _, _⟩, _, _, _, _⟩ :: _) _ _ _); apply WL.call; exact rfl; exact rfl; exact rfl; exact rfl; exact law11_Own c _ (hC.ext (hX2.trans (by (exact extA)))) hz hz7; rintro v' w4 ⟨hx4, d, rfl, hdt, hOd⟩; have hCd := hOd.at))
    | (apply WL.lit (len := 0) tOk; exact rfl; exact rfl; exact rfl; exact rfl; exact rfl; exact rfl; (first | exact rfl | kernel_rfl | (simp [Instr.fill, catCells]; done)); exact rfl; intro gb w' hb hge hc hx; have hO0 := Own.of_block0 (enc := encI) (s := 1) hb hge)
    | (apply WL.append0 tOk encI_ok; exact rfl; exact rfl; exact rfl; exact rfl; exact rfl; exact rfl; exact rfl; exact rfl; exact rfl; exact rfl; assumption; (first | assumption | omega); (exact extA); assumption; (exact extA); (first | exact rfl | (focus (simp only [List.length_set]; done)) | (focus (simp; done)) | (focus (simp [*]; done)) | omega | (focus (simp only [List.length_set]; omega))); (first | assumption | (intro h; cases h)); (first | omega | (simp; omega)); intro a' cap' w' hO hx hf0)
    | (((show WL _ _ _ (⟨_, .call ⟨.value (.func 23), _, _⟩, _, _, _, _⟩ :: _) _ _ _); apply WL.call; exact rfl; exact rfl; exact rfl; exact rfl; exact hnx _ d _ _ hdt (hCd.ext (by (exact extA))) (Row.ext (Own.row encI_ok (by assumption)) (by (exact extA))); rintro v' w5 ⟨hx5, a5, c5, rfl, hO5⟩; have R5 := hO5.row encI_ok))
    | (((show WL _ _ _ (⟨_, .call ⟨.value (.func 25), _, _⟩, _, _, _, _⟩ :: _) _ _ _); apply WL.call; exact rfl; exact rfl; exact rfl; exact rfl; exact ref34_Next c _ _ k _ (hC.ext (hX2.trans (by (exact extA)))) hg (RkX.ext (by (exact extA))) hofk.1 (by omega); rintro v' w6 ⟨hx6, a6, c6, rfl, hO6⟩; have R6 := hO6.row encI_ok))
    | ((show WL _ _ _ (⟨_, .call ⟨.value (.func 14), _, _⟩, _, _, _, _⟩ :: _) _ _ _); apply WL.callS; exact rfl; exact rfl; exact rfl; exact rfl; exact ref_Ints _ _ _ _ (nextL c.t k) (nextL c.t k) _ (R5.ext (by (exact extA))) (R6.ext (by (exact extA))))
    | (apply WL.gF; exact rfl; exact rfl; (focus (first | (rw [dec_true rfl]; rfl) | with_reducible exact hkL; done)))
    | (apply W.condKF; exact rfl; (focus (first | (rw [dec_true rfl]; rfl) | with_reducible exact hkL; done)))
    | (apply WL.append0 tOk encB_ok; exact rfl; exact rfl; exact rfl; exact rfl; exact rfl; exact rfl; exact rfl; exact rfl; exact rfl; exact rfl; assumption; (first | assumption | omega); (exact extA); assumption; (exact extA); (first | exact rfl | (focus (simp only [List.length_set]; done)) | (focus (simp; done)) | (focus (simp [*]; done)) | omega | (focus (simp only [List.length_set]; omega))); (first | assumption | (intro h; cases h)); (first | omega | (simp; omega)); intro a' cap' w' hO hx hf0)
    | (((show WL _ _ _ (⟨_, .call ⟨.value (.func 26), _, _⟩, _, _, _, _⟩ :: _) _ _ _); apply WL.call; exact rfl; exact rfl; exact rfl; exact rfl; exact hlf _ d _ _ _ _ _ _ hdt (hCd.ext (by (exact extA))) (Row.ext (Own.row encB_ok (by assumption)) (by (exact extA))) (Row.ext (Own.row encB_ok (by assumption)) (by (exact extA))) (Row.ext (Own.row encI_ok (by assumption)) (by (exact extA))); rintro v' w8 ⟨hx8, a8, c8, rfl, R8⟩))
    | (((show WL _ _ _ (⟨_, .call ⟨.value (.func 27), _, _⟩, _, _, _, _⟩ :: _) _ _ _); apply WL.call; exact rfl; exact rfl; exact rfl; exact rfl; exact ref34_Lift c _ _ _ _ _ _ s i want _ (hC.ext (hX2.trans (by (exact extA)))) hg hz (Rs.ext (hX2.trans (by (exact extA)))) (Ri.ext (hX2.trans (by (exact extA)))) (Rw.ext (hX2.trans (by (exact extA)))) hK.1 (by omega); rintro v' w9 ⟨hx9, a9, c9, rfl, R9⟩))
    | ((show WL _ _ _ (⟨_, .call ⟨.value (.func 14), _, _⟩, _, _, _, _⟩ :: _) _ _ _); apply WL.callS; exact rfl; exact rfl; exact rfl; exact rfl; exact ref_Ints _ _ _ _ (lifR c.t s i want) (lifR c.t s i want) _ (R8.ext (by (exact extA))) (R9.ext (by (exact extA))))
    | (((show WL _ _ _ (⟨_, .call ⟨.value (.func 28), _, _⟩, _, _, _, _⟩ :: _) _ _ _); apply WL.call; exact rfl; exact rfl; exact rfl; exact rfl; exact ref17_New c _ (hC.ext (hX2.trans (by (exact extA)))) hg hz; rintro v' w10 ⟨hx10, gm, rn, raa, rfl, hM, _⟩))
    | (show SX _ _ _ _ _ _ _ _ _; first | (apply SX.done; intro w' hx) | (apply SX.fl0; exact rfl) | (apply SX.fl1; exact rfl; (exact extA)) | (apply SX.br1; exact rfl; intro w' hx) | (apply SX.br; exact rfl; (intro w' hx)))
    | (show FL _ _ _ _ _ _ _ _; first | apply FL.nilX | (apply FL.loadAE tOk; exact rfl; exact rfl; exact rfl; exact rfl; exact rfl; assumption; exact rfl))
    | (show FL _ _ _ _ _ _ _ _; (refine FL.au (k := ?_)))
    | (show Z _ _ _ _ _; (apply Z.sxE; (exact extA)))
    | (show WL _ _ _ _ _ _ _; first | apply WL.nil | (refine WL.au (k := ?_)))
    | (show Z _ _ _ _ _; apply Z.then_normal)
    | (show W _ _ _ _ _ _; first | apply W.seq | apply W.region | apply W.block | apply W.skip)
    | fail)
  all_goals
    obtain ⟨wz, rfl⟩ : ∃ x, x = w' := ⟨_, rfl⟩
    have hXz : Ext w w10 := hX2.trans (by (exact extA))
    have hcz : Cells w10 gc 0 c.vals := hcells.ext (hXc2.trans (by (exact extA)))
    have Rz : Row 1 encI w10 a8 (lifR c.t s i want) := R8.ext (by (exact extA))
    have Rwz := Rw.ext hXz
    have Riz := Ri.ext hXz
    clear R8 R9
    refine W.loopW 32 (fun n w' => n ≤ 32 ∧ Ext w10 w') (fun n => [(1, .slice ra s.length ca), (2, .slice rb i.length cb), (3, .slice rw' want.length cw), (5, .pointer (some ⟨gc, 0, none⟩)), (11, .slice a8 (lifR c.t s i want).length c8), (12, .bool (dec (LifP c.t s i want))), (15, .pointer (some ⟨gm, 0, none⟩)), (16, .int .i64 n)]) ⟨Nat.zero_le _, Ext.refl _⟩ (fun n w' h => h.1) (by repeat' first | exact trivial | (refine And.intro ?_ ?_) | exact rfl) ?_
    rintro n w11 ⟨hn, hX11⟩
    by_cases hlt : n < 32
    rotate_left
    · repeat' (first
        | (apply WL.gF; exact rfl; exact rfl; (focus (exact dec_false (by omega); done)))
        | ((show WL _ _ _ (⟨_, .call ⟨.value (.func 22), _, _⟩, _, _, _, _⟩ :: _) _ _ _); apply WL.callP; exact rfl; exact rfl; exact rfl; exact rfl; exact law34_lives _; intro w' hx)
        | (show WL _ _ _ _ _ _ _; first | apply WL.nil | (refine WL.au (k := ?_)) | (apply WL.guardF; exact rfl; exact rfl))
        | (show Z _ _ _ _ _; first | apply Z.then_normal | apply Z.then_exit | apply Z.block_exit)
        | (show W _ _ _ _ _ _; first | apply W.seq | apply W.region | apply W.ret | apply W.exit | (apply W.condF; exact rfl))
        | fail)
      exact Z.body1 Try.results5 rfl fun m => ⟨rfl, Ext.at (hXz.trans (hX11.trans (by (exact extA)))) m⟩
    by_cases hP : LifP c.t s i want
    rotate_left
    · repeat' (first
        | (apply WL.gT; exact rfl; exact rfl; (focus (first | exact dec_true (by omega) | with_reducible exact dec_false hP; done)))
        | (apply W.condKF; exact rfl; (focus (first | exact dec_true (by omega) | with_reducible exact dec_false hP; done)))
        | ((show WL _ _ _ (⟨_, .call ⟨.value (.func 22), _, _⟩, _, _, _, _⟩ :: _) _ _ _); apply WL.callP; exact rfl; exact rfl; exact rfl; exact rfl; exact law34_lives _; intro w' hx)
        | (show WL _ _ _ _ _ _ _; first | apply WL.nil | (refine WL.au (k := ?_)))
        | (show Z _ _ _ _ _; first | apply Z.then_normal | apply Z.then_exit | apply Z.block_exit)
        | (show W _ _ _ _ _ _; first | apply W.seq | apply W.region | apply W.ret | apply W.exit)
        | fail)
      exact Z.body1 Try.results5 rfl fun m => ⟨rfl, Ext.at (hXz.trans (hX11.trans (by (exact extA)))) m⟩
    have hc11 := hcz.ext hX11
    obtain ⟨y0, y1, y2, _⟩ := id hc11
    repeat' (first
      | (apply WL.gT; exact rfl; exact rfl; (focus (first | exact dec_true (by omega) | with_reducible exact dec_true hP; done)))
      | (apply W.condKT; exact rfl; (focus (first | exact dec_true (by omega) | with_reducible exact dec_true hP; done)))
      | ((show WL _ _ _ (⟨_, .call ⟨.value (.func 29), _, _⟩, _, _, _, _⟩ :: _) _ _ _); apply WL.call; exact rfl; exact rfl; exact rfl; exact rfl; exact ref17_Bits n c.lat.2.2.length _ (by omega) (by omega); rintro v' w' ⟨hx, a', cap', rfl, hO⟩; (obtain ⟨aq, rfl⟩ : ∃ x, x = a' := ⟨_, rfl⟩; obtain ⟨cq, rfl⟩ : ∃ x, x = cap' := ⟨_, rfl⟩; obtain ⟨w12, rfl⟩ : ∃ x, x = w' := ⟨_, rfl⟩; obtain ⟨hOs, rfl⟩ : ∃ x, x = hO := ⟨_, rfl⟩; obtain ⟨hx12, rfl⟩ : ∃ x, x = hx := ⟨_, rfl⟩))
      | (show WL _ _ _ _ _ _ _; first | apply WL.nil | (refine WL.au (k := ?_)))
      | (show Z _ _ _ _ _; apply Z.then_normal)
      | (show W _ _ _ _ _ _; first | apply W.seq | apply W.region | apply W.block | apply W.skip)
      | fail)
    have Rst := hOs.row encB_ok
    have hbl := bitsL_len n c.lat.2.2.length
    have hX12 : Ext w10 w12 := hX11.trans hx12
    have eR : lifR c.t s i want = lifC c.t s i want := by unfold lifR; rw [if_pos hP]
    have hmC : ∀ x ∈ lifR c.t s i want, x ≤ 9223372036854775807  := fun x hx => by have := lifR_bd hg (Nat.le_trans (net_len hg hz) (by omega)) x hx; have h5 : c.t.lat.length = c.lat.2.2.length := rfl; omega
    obtain ⟨st, hst⟩ : ∃ st, st = bitsL n c.lat.2.2.length := ⟨_, rfl⟩
    rw [← hst] at Rst hbl ⊢
    clear hOs y0 y1 y2
    refine W.loopW want.length (fun j w' => j ≤ want.length ∧ Ext w12 w') (fun j => [(1, .slice ra s.length ca), (2, .slice rb i.length cb), (3, .slice rw' want.length cw), (5, .pointer (some ⟨gc, 0, none⟩)), (11, .slice a8 (lifR c.t s i want).length c8), (12, .bool (dec (LifP c.t s i want))), (15, .pointer (some ⟨gm, 0, none⟩)), (16, .int .i64 n), (17, .slice aq st.length cq), (18, .int .i64 j)]) ⟨Nat.zero_le _, Ext.refl _⟩ (fun n w' h => h.1) (by repeat' first | exact trivial | (refine And.intro ?_ ?_) | exact rfl) ?_
    rintro j w13 ⟨hj, hX13⟩
    have hX013 : Ext w10 w13 := hX12.trans hX13
    by_cases hlj : j < want.length
    rotate_left
    · repeat' (first
        | (apply WL.gF; exact rfl; exact rfl; (focus (exact dec_false (by omega); done)))
        | (show WL _ _ _ _ _ _ _; first | apply WL.nil | (refine WL.au (k := ?_)) | (apply WL.guardF; exact rfl; exact rfl))
        | (show Z _ _ _ _ _; first | apply Z.then_normal | apply Z.block_normal | apply Z.then_exit | apply Z.block_exit)
        | (show W _ _ _ _ _ _; first | apply W.seq | apply W.region | apply W.exit | (apply W.condF; exact rfl))
        | fail)
      exact Z.againW ⟨by omega, hX013⟩ (by repeat' first | exact trivial | (refine And.intro ?_ ?_) | exact rfl)
    have hhas := fun (w9 : World) (h9 : Ext w13 w9) => ref32_Has a8 aq c8 cq (lifR c.t s i want) st w9 (Rz.ext (hX013.trans h9)) (Rst.ext (hX13.trans h9)) hmC
    by_cases hin : InCube (lifR c.t s i want) st
    rotate_left
    · repeat' (first
        | (apply WL.gT; exact rfl; exact rfl; (focus (first | exact dec_true (by omega) | with_reducible exact dec_false hin; done)))
        | (apply W.condKF; exact rfl; (focus (first | exact dec_true (by omega) | with_reducible exact dec_false hin; done)))
        | (apply WL.callS; exact rfl; exact rfl; exact rfl; exact rfl; (apply hhas _; (exact extA)))
        | (show WL _ _ _ _ _ _ _; first | apply WL.nil | (refine WL.au (k := ?_)))
        | (show Z _ _ _ _ _; first | apply Z.then_normal | apply Z.block_normal | apply Z.then_exit | apply Z.block_exit)
        | (show W _ _ _ _ _ _; first | apply W.seq | apply W.region | apply W.exit)
        | fail)
      exact Z.againW ⟨by omega, hX013⟩ (by repeat' first | exact trivial | (refine And.intro ?_ ?_) | exact rfl)
    obtain ⟨x, hx⟩ := getI want hlj
    have hxm := List.mem_of_getElem? hx
    have hxk := hK.1 x hxm
    have ht := lift_all hg (Nat.le_trans (net_len hg hz) (Nat.le_refl _)) hP hK.1 (st := st) hbl (eR ▸ hin) x hxm
    have Rw13 := Rwz.ext hX013
    have hlit := fun (w9 : World) (h9 : Ext w13 w9) => ref17_LitK gm c rn raa aq rb cq cb st i x w9 (hM.ext (hX013.trans h9)) (Rst.ext (hX13.trans h9)) (Riz.ext (hX013.trans h9)) hxk
    rw [ht] at hlit
    repeat' (first
      | (apply WL.gT; exact rfl; exact rfl; (focus (first | exact dec_true (by omega) | with_reducible exact dec_true hin; done)))
      | (apply W.condKT; exact rfl; (focus (first | exact dec_true (by omega) | with_reducible exact dec_true hin; done)))
      | (apply WL.callS; exact rfl; exact rfl; exact rfl; exact rfl; (apply hhas _; (exact extA)))
      | (apply WL.callP; exact rfl; exact rfl; exact rfl; exact rfl; exact hlit _ (by (exact extA)); intro w' hx; (obtain ⟨w14, rfl⟩ : ∃ x, x = w' := ⟨_, rfl⟩; obtain ⟨hx14, rfl⟩ : ∃ x, x = hx := ⟨_, rfl⟩))
      | (show WL _ _ _ _ _ _ _; first | apply WL.nil | (refine WL.au (k := ?_)) | (apply WL.index tOk; exact rfl; exact rfl; exact rfl; exact rfl; exact rfl; exact rfl; exact rfl; exact rfl; assumption; (exact extA); exact rfl; omega; assumption; intro b off h; have hcc := h; first | (obtain ⟨h1, h2, h3, h4, h5, h6, _⟩ := h) | (obtain ⟨h1, h2, h3, _⟩ := h) | (obtain ⟨h1, h2, _⟩ := h) | (obtain ⟨h1, _⟩ := h)))
      | (show Z _ _ _ _ _; first | apply Z.then_normal | apply Z.block_normal)
      | (show W _ _ _ _ _ _; first | apply W.seq | apply W.region | apply W.block | apply W.skip | (apply W.condF; exact rfl))
      | fail)
    exact Z.againW ⟨by omega, (by (exact extA))⟩ (by repeat' first | exact trivial | (refine And.intro ?_ ?_) | exact rfl)
end Go.Proofs.Ytlcenenkloicjaa
namespace Go.Proofs.Ytlcenenkloicjaa
open Go Go.Lt Go.RowKit Go.ChangeShapes Go.WideShapes Go.ChangeAt Go.Deep
set_option linter.unusedVariables false
set_option linter.unusedSimpArgs false
set_option maxRecDepth 20000

set_option maxRecDepth 20000 in
theorem circ_of {H : Type} {en : TypeId × Value → H} {w : World} {base : Nat} {spare : Nat → Bool} {held : Bool} {r : Reach} {b0 : Nat} {v : Value} {d : DataW H} {ps : List MemPlace} (hval : Value.okWide Try.prog w r b0 41 v) (hd : DataW.Trod en Try.prog w base spare held 41 v d ps) : ∃ c : Circ, v = c.val ∧ CAt w c := by
  obtain ⟨⟨m, ins, lat, outs, bads, cons, gates, syms, com, _⟩, hv, _, ki, kl, ko, kb, kc, kg, ks, _⟩ := struct_of (reads_struct Try.underlying41 (by kernel_rfl) (by kernel_rfl) (readsF_cons (reads_int Try.underlying3) (readsF_cons (reads_row (s := 1) (reads_int Try.underlying3) (by kernel_rfl) Try.underlying33 (fun _ => rfl) (by decide)) (readsF_cons (reads_row (s := 3) (reads_triple' (s0 := 1) (s1 := 1) (s2 := 1) Try.underlying92 (reads_int Try.underlying3) (reads_int Try.underlying3) (reads_int Try.underlying3) (by kernel_rfl) rfl rfl rfl (by kernel_rfl) (by kernel_rfl) (by kernel_rfl)) (by kernel_rfl) Try.underlying37 (fun _ => rfl) (by decide)) (readsF_cons (reads_row (s := 1) (reads_int Try.underlying3) (by kernel_rfl) Try.underlying33 (fun _ => rfl) (by decide)) (readsF_cons (reads_row (s := 1) (reads_int Try.underlying3) (by kernel_rfl) Try.underlying33 (fun _ => rfl) (by decide)) (readsF_cons (reads_row (s := 1) (reads_int Try.underlying3) (by kernel_rfl) Try.underlying33 (fun _ => rfl) (by decide)) (readsF_cons (reads_row (s := 3) (reads_triple' (s0 := 1) (s1 := 1) (s2 := 1) Try.underlying94 (reads_int Try.underlying3) (reads_int Try.underlying3) (reads_int Try.underlying3) (by kernel_rfl) rfl rfl rfl (by kernel_rfl) (by kernel_rfl) (by kernel_rfl)) (by kernel_rfl) Try.underlying38 (fun _ => rfl) (by decide)) (readsF_cons (reads_row (s := 3) (reads_triple' (s0 := 1) (s1 := 1) (s2 := 1) Try.underlying167 (reads_int Try.underlying5) (reads_int Try.underlying3) (reads_string Try.underlying9) (by kernel_rfl) rfl rfl rfl (by kernel_rfl) (by kernel_rfl) (by kernel_rfl)) (by kernel_rfl) Try.underlying39 (fun _ => rfl) (by decide)) (readsF_cons (reads_string Try.underlying9) (readsF_nil _))))))))))) Try.underlying41 hval hd
  exact ⟨⟨m, ins, lat, outs, bads, cons, gates, syms, com⟩, hv, ⟨ki.1, ki.2.1, ki.2.2.2.1⟩, ⟨kl.1, kl.2.1, kl.2.2.2.1⟩, ⟨ko.1, ko.2.1, ko.2.2.2.1⟩, ⟨kb.1, kb.2.1, kb.2.2.2.1⟩, ⟨kc.1, kc.2.1, kc.2.2.2.1⟩, ⟨kg.1, kg.2.1, kg.2.2.2.1⟩, ⟨ks.1, ks.2.1, ks.2.2.2.1⟩⟩
end Go.Proofs.Ytlcenenkloicjaa
namespace Go.Proofs.Ytlcenenkloicjaa
open Go Go.Lt Go.ChangeShapes Go.WideShapes Go.ChangeAt Go.RowKit
set_option linter.unusedVariables false
set_option linter.unusedSimpArgs false
set_option maxRecDepth 20000
open Go.ChangeMaps (open_string shut_string)
namespace liftLifts
theorem own : ownKnob Try.prog.godebug = none := by kernel_rfl
theorem laidOut : laidOutB Try.prog = true := factLaid
set_option maxRecDepth 100000 in
theorem lifted (os : Os) (started : os.Started) (H : Type) (enc : TypeId × Value → H) :
    ReturnsInHanded {} Try.checked os 5 .any (Rows.liftLiftsSpec.pre6 enc Try.prog Try.f5 Rows.liftLiftsRow.domain false) (Rows.liftLiftsSpec.post enc Try.prog Try.f5 false true false false) := by
  refine returnsInHanded_of_change (C := Try.checked) own started (by kernel_rfl) Try.func5
    (ChangeSpec.witness6 (enc := enc) (C := Try.checked) false ⟨#[], #[.agg #[.int .i64 0, .slice none 0 0, .slice none 0 0, .slice none 0 0, .slice none 0 0, .slice none 0 0, .slice none 0 0, .slice none 0 0, .string ⟨#[]⟩], .slice none 0 0, .slice none 0 0, .slice none 0 0, .slice none 0 0], []⟩ 8 (by kernel_rfl) (by kernel_rfl) (by kernel_rfl) (by kernel_rfl)) ?_
  intro W base args ds gs before hval0 hW hcnd _
  have hval : ∀ (j : Nat) t v, Try.f5.params[j]? = some t → args[j]? = some v → Value.okWide Try.prog W .any base t v := hval0
  have hW' := hW
  obtain ⟨p, q, hA0, hV, rfl, hfz, hnd⟩ := hW
  have hA : DataW.TrodAll enc Try.prog W 0 (fun _ => true) true Try.f5.params.toList args.toList ds p := hA0
  rw [Try.params5] at hA hval
  obtain ⟨v0, vs0, d0, ds0, p0, q0, hargs, rfl, rfl, h0, r0⟩ := trodAll_cons hA
  obtain ⟨v1, vs1, d1, ds1, p1, q1, rfl, rfl, rfl, h1, r1⟩ := trodAll_cons r0
  obtain ⟨v2, vs2, d2, ds2, p2, q2, rfl, rfl, rfl, h2, r2⟩ := trodAll_cons r1
  obtain ⟨v3, vs3, d3, ds3, p3, q3, rfl, rfl, rfl, h3, r3⟩ := trodAll_cons r2
  obtain ⟨v4, vs4, d4, ds4, p4, q4, rfl, rfl, rfl, h4, r4⟩ := trodAll_cons r3
  obtain ⟨rfl, rfl, rfl⟩ := trodAll_nil r4
  obtain rfl : args = #[v0, v1, v2, v3, v4] := by cases args; simp_all
  obtain ⟨rfl, rfl⟩ := trodVars_none hV
  have k0 := h0
  have lt0 : ∀ x ∈ p0, x.block < W.heap.size := by obtain ⟨m, hm⟩ := k0; exact DataW.trod_lt m _ _ _ hm
  have k1 := h1
  have lt1 : ∀ x ∈ p1, x.block < W.heap.size := by obtain ⟨m, hm⟩ := k1; exact DataW.trod_lt m _ _ _ hm
  have k2 := h2
  have lt2 : ∀ x ∈ p2, x.block < W.heap.size := by obtain ⟨m, hm⟩ := k2; exact DataW.trod_lt m _ _ _ hm
  have k3 := h3
  have lt3 : ∀ x ∈ p3, x.block < W.heap.size := by obtain ⟨m, hm⟩ := k3; exact DataW.trod_lt m _ _ _ hm
  have k4 := h4
  have lt4 : ∀ x ∈ p4, x.block < W.heap.size := by obtain ⟨m, hm⟩ := k4; exact DataW.trod_lt m _ _ _ hm
  obtain ⟨c0, rfl, hC0⟩ := circ_of (hval 0 41 v0 rfl rfl) h0
  obtain ⟨a1, l1, cap1, rfl, hl1, hm1, hna1, R1, w1⟩ := row_of (s := 1) (reads_bool Try.underlying4) (by kernel_rfl) Try.underlying42 (fun _ => rfl) (by decide) (hval 1 42 v1 rfl rfl) h1
  obtain ⟨a2, l2, cap2, rfl, hl2, hm2, hna2, R2, w2⟩ := row_of (s := 1) (reads_bool Try.underlying4) (by kernel_rfl) Try.underlying42 (fun _ => rfl) (by decide) (hval 2 42 v2 rfl rfl) h2
  obtain ⟨a3, l3, cap3, rfl, hl3, hm3, hna3, R3, w3⟩ := row_of (s := 1) (reads_int Try.underlying3) (by kernel_rfl) Try.underlying33 (fun _ => rfl) (by decide) (hval 3 33 v3 rfl rfl) h3
  obtain ⟨a4, l4, cap4, rfl, hl4, hm4, hna4, R4, w4⟩ := row_of (s := 1) (reads_int Try.underlying3) (by kernel_rfl) Try.underlying33 (fun _ => rfl) (by decide) (hval 4 33 v4 rfl rfl) h4
  clear hA0 hval0
  refine (Spec.law (law_LiftLifts c0 a1 a2 a3 a4 cap1 cap2 cap3 cap4 l1 l2 l3 l4 W hC0 R1 R2 R3 R4 hna1 hna2 hna3 hna4 (fun x hx => (wf_i64 (w3 x hx)).2) (fun x hx => (wf_i64 (w4 x hx)).2))).mono fun e W' ⟨he, bel⟩ => ?_
  subst he
  exact ⟨_, rfl, _, _, _, [], _, [], hW', trodAll_mk1 (shut_bool Try.underlying4 _), (trodAll_cons_mk (Below.trod laidOut (by kernel_rfl) (of_decide_eq_true (by kernel_rfl)) k0 bel lt0) (trodAll_cons_mk (Below.trod laidOut (by kernel_rfl) (of_decide_eq_true (by kernel_rfl)) k1 bel lt1) (trodAll_cons_mk (Below.trod laidOut (by kernel_rfl) (of_decide_eq_true (by kernel_rfl)) k2 bel lt2) (trodAll_cons_mk (Below.trod laidOut (by kernel_rfl) (of_decide_eq_true (by kernel_rfl)) k3 bel lt3) (trodAll_cons_mk (Below.trod laidOut (by kernel_rfl) (of_decide_eq_true (by kernel_rfl)) k4 bel lt4) trodAll_mk0))))), rfl, bel.frame _, fun h => by cases h⟩
theorem j0 : (Rows.liftLiftsRow.wf (OpenSpec.ofChange Rows.liftLiftsSpec)) = true := by kernel_rfl
theorem j3 : (Try.f5.params.all (Try.prog.readableRec ·)) = true := by kernel_rfl
theorem j4 : (namedTie Try.prog Rows.liftLiftsRow.named Rows.liftLiftsSpec.vars) = true := by kernel_rfl
theorem j5 : ((Rows.liftLiftsRow.stops == [])) = true := by kernel_rfl
theorem j7 : ((Rows.liftLiftsRow.knobs == [])) = true := by kernel_rfl
theorem j9 : ((Rows.liftLiftsRow.inPlace == Try.prog.inPlace 5)) = true := by kernel_rfl
theorem j10 : ((Rows.liftLiftsRow.unfollowed == Try.prog.unfollowed 5)) = true := by kernel_rfl
theorem j11 : ((Rows.liftLiftsRow.recurses == Try.prog.recurses 5)) = true := by kernel_rfl
theorem j12 : ((Rows.liftLiftsRow.named == Try.prog.varsNamed 5)) = true := by kernel_rfl
theorem j13 : ((Rows.liftLiftsRow.maps == (Try.f5.params.toList ++ Rows.liftLiftsSpec.plain.varTypes Try.prog).any (Try.prog.mapsRec ·))) = true := by kernel_rfl
theorem j14 : ((Rows.liftLiftsRow.ifaces == (Try.f5.params.toList ++ Rows.liftLiftsSpec.plain.varTypes Try.prog).any (Try.prog.ifacesRec ·))) = true := by kernel_rfl
theorem j15 : ((Rows.liftLiftsRow.mapsOut == Try.prog.mapsAmong Try.f5.resultTypes.toList)) = true := by kernel_rfl
theorem j16 : ((Rows.liftLiftsRow.loops == (Try.f5.params.toList ++ Rows.liftLiftsSpec.plain.varTypes Try.prog).any (Try.prog.loopsFrom ·))) = true := by kernel_rfl
theorem j17 : ((Rows.liftLiftsRow.wideKeys == (Try.f5.params.toList ++ Rows.liftLiftsSpec.plain.varTypes Try.prog ++ Try.f5.resultTypes.toList).any (Try.prog.wideKeysFrom ·))) = true := by kernel_rfl
theorem j18 : (Rows.liftLiftsSpec.vars.all (Try.prog.varReadable ·)) = true := by kernel_rfl
theorem j19 : (Try.f5.resultTypes.all (fun t => Try.prog.readableRec t && decide (t < Try.prog.types.size))) = true := by kernel_rfl
theorem j20 : ((Rows.liftLiftsRow.ifacesOut == Try.f5.resultTypes.toList.any (Try.prog.ifacesRec ·))) = true := by kernel_rfl
theorem j21 : ((Rows.liftLiftsRow.loopsOut == Try.f5.resultTypes.toList.any (Try.prog.loopsFrom ·))) = true := by kernel_rfl
theorem j22 : ((Rows.liftLiftsRow.plainKeys == Try.prog.plainKeys)) = true := by rw [show Rows.liftLiftsRow.plainKeys = Rows.sigTellsRow.plainKeys by kernel_rfl]; exact factKeys
theorem j23 : (Rows.liftLiftsRow.shortTexts.isNone) = true := by kernel_rfl
theorem j26 : ((Rows.liftLiftsRow.lifted == Try.prog.liftsFinal)) = true := by rw [show Rows.liftLiftsRow.lifted = Rows.sigTellsRow.lifted by kernel_rfl]; exact factLifts
theorem j27 : ((Try.prog.make == some Rows.liftLiftsRow.make)) = true := by rw [show Rows.liftLiftsRow.make = Rows.sigTellsRow.make by kernel_rfl]; exact factMake
theorem j28 : ((Rows.liftLiftsRow.kinds == (if Rows.liftLiftsRow.domain.isEmpty then [] else Try.f5.params.toList.map fun t => match Try.prog.underlying t with | some (.int k) => some k | _ => none))) = true := by kernel_rfl
theorem j29 : ((Rows.liftLiftsRow.pinned == Rows.liftLiftsRow.pinnedBy)) = true := by kernel_rfl
theorem j30 : ((Rows.liftLiftsRow.veiled == (Try.f5.params.toList ++ Rows.liftLiftsSpec.plain.varTypes Try.prog ++ Try.f5.resultTypes.toList).any (Try.prog.veiledRec ·))) = true := by kernel_rfl
theorem j31 : (Rows.liftLiftsRow.veiledFits Try.prog Try.f5.params.toList (Try.f5.params.toList ++ Rows.liftLiftsSpec.plain.varTypes Try.prog ++ Try.f5.resultTypes.toList)) = true := by kernel_rfl
set_option maxRecDepth 100000 in
theorem closed : joinedFacts Try.checked.prog 5 Try.f5 Rows.liftLiftsSpec Rows.liftLiftsRow = true := by unfold joinedFacts; exact (band (band (band (band (band (band (band (band (band (band (band (band (band (band (band (band (band (band (band (band (band (band (band (band (band (band (band (band (band (band (band j0 factLaid) factMaps) j3) j4) j5) factStops) j7) factKnobs) j9) j10) j11) j12) j13) j14) j15) j16) j17) j18) j19) j20) j21) j22) j23) factHeard) factEnter) j26) j27) j28) j29) j30) j31)
theorem named : Try.checked.prog.funcNamed Rows.liftLiftsRow.func = some 5 := by kernel_rfl
theorem over : Rows.liftLiftsRow.holds Try.pinned (OpenSpec.ofChange Rows.liftLiftsSpec) :=
  OpenClaim.holds_of_wide 5 Try.f5 rfl rfl rfl rfl rfl rfl rfl ⟨rfl, rfl, rfl, rfl, rfl⟩ rfl rfl rfl rfl rfl named Try.func5 closed
    (of_decide_eq_true (by kernel_rfl)) (by unfold Func.isWrapper; first | (rw [if_pos (by decide +kernel)]; kernel_rfl) | (rw [if_neg (by decide +kernel)]; exact ⟨rfl, rfl⟩))
    (fun os started H enc _ => lifted os started H enc)
/-- The statement. -/
theorem proved : Rows.LiftLiftsSaid := over
end liftLifts
end Go.Proofs.Ytlcenenkloicjaa
