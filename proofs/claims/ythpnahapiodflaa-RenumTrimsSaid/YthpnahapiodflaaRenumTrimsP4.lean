/- Part 4 of what the claim RenumTrims needs: lemmas and contracts, printed from longer texts. No conditions. -/
import Derived.Test.YthpnahapiodflaaRows
import Derived.Lib.SmallJoins
import Derived.KernelRfl
import Derived.WalkKit
import Derived.ProofKit
import Derived.Deep.Quiet
import Derived.Deep.LoopGhost
import Derived.StillTail
import Derived.Test.YthpnahapiodflaaProg
import Derived.OpenShut
import Derived.ShutString
import Derived.ChangeOld
import Derived.Deep.Slices
import Derived.SizedLaws
import Derived.Laws.StructEq
import Derived.Laws.CopyRow
import Derived.Laws.IdiomCopy
import Derived.Test.YthpnahapiodflaaRenumTrimsP3
namespace Go.Proofs.Ythpnahapiodflaa
open Go Go.Lt Go.RowKit
set_option linter.unusedVariables false
set_option linter.unusedSimpArgs false
set_option maxRecDepth 20000

/-- Up to a place all is -1, behind the first. -/
structure AtK (m k : Nat) (A : List Int) : Prop where
  len : A.length = m + 1
  zero : A[0]? = some 0
  neg : ∀ u : Nat, 1 ≤ u → u < k → A[u]? = some (-1)
theorem AtK.all {m : Nat} {A : List Int} (h : AtK m (m + 1) A) : A = cAt0 (m : Int) := by
  apply List.ext_getElem?
  intro u
  have hr := PutOk.start m
  by_cases hu : u < m + 1
  · cases u with
    | zero => rw [h.zero]; exact hr.zero.symm
    | succ u => rw [h.neg (u + 1) (by omega) hu]; exact (hr.not (u + 1) (by omega) (by omega) (fun l hl => by cases hl)).symm
  · rw [List.getElem?_eq_none (by have := h.len; omega)]
    have h2 : (cAt0 (m : Int)).length = m + 1 := hr.len2
    exact (List.getElem?_eq_none (by omega)).symm
theorem Sep.perm4 {B : Nat} {w : World} {p q r s : Piece} (hS : Lt.Sep B w [p, q, r, s]) : Lt.Sep B w [r, p, s, q] := by
  refine hS.pick (fun i => match i with | 0 => 2 | 1 => 0 | 2 => 3 | _ => 1) (fun i x h => ?_) (fun i j hi hj hne => ?_)
  · match i, h with
    | 0, h => exact h
    | 1, h => exact h
    | 2, h => exact h
    | 3, h => exact h
  · have hi' : i < 4 := hi
    have hj' : j < 4 := hj
    match i, j, hi', hj', hne with
    | 0, 1, _, _, _ => decide
    | 0, 2, _, _, _ => decide
    | 0, 3, _, _, _ => decide
    | 1, 0, _, _, _ => decide
    | 1, 2, _, _, _ => decide
    | 1, 3, _, _, _ => decide
    | 2, 0, _, _, _ => decide
    | 2, 1, _, _, _ => decide
    | 2, 3, _, _, _ => decide
    | 3, 0, _, _, _ => decide
    | 3, 1, _, _, _ => decide
    | 3, 2, _, _, _ => decide
    | 0, 0, _, _, h => exact absurd rfl h
    | 1, 1, _, _, h => exact absurd rfl h
    | 2, 2, _, _, h => exact absurd rfl h
    | 3, 3, _, _, h => exact absurd rfl h
set_option maxHeartbeats 32000000 in
theorem circ_Net (c : Circ) (w : World) (hC : CAt w c) (hg : GoodC' c.t) (hz : SzC c.t 100000) :
    Lt.Spec Try.prog 87 [c.val] w (IsFresh2 2 encN 104 1 encI 3 w (cNet c.t).1 (cNet c.t).2) := by
  have z1 : c.ins.2.2.length ≤ 100000 := hz.1
  have z2 : c.lat.2.2.length ≤ 100000 := hz.2.1
  have z6 : c.gates.2.2.length ≤ 100000 := hz.2.2.2.2.2
  have hm : 0 ≤ c.max ∧ c.max ≤ 16777216 := hg.max
  have hcm : c.t.max = c.max := rfl
  obtain ⟨m, hmm⟩ : ∃ m : Nat, c.max = (m : Int) := ⟨c.max.toNat, by omega⟩
  have hmt : c.max.toNat = m := by omega
  have hown : ∀ x ∈ c.t.own, 2 ≤ x ∧ x % 2 = 0 ∧ x ≤ 2 * c.max := hg.own
  have hused : ∀ x ∈ c.t.used, 0 ≤ x ∧ x ≤ 2 * c.max + 1 := hg.used
  refine Spec.of _ Try.func87 rfl Try.ntmps87 (by kernel_rfl) rfl ?_
  repeat' (first
    | (apply WL.box; exact rfl; exact rfl; exact rfl; intro gb w' hb hge hc hx; have hcc := hc; (first | (obtain ⟨h1, h2, h3, _⟩ := hc) | (obtain ⟨h1, h2, _⟩ := hc)); (have hcells := hcc; obtain ⟨y0, y1, y2, y3, y4, y5, y6, _⟩ := hcc; obtain ⟨gc, rfl⟩ : ∃ x, x = gb := ⟨_, rfl⟩; obtain ⟨wc, rfl⟩ : ∃ x, x = w' := ⟨_, rfl⟩; obtain ⟨hxc, rfl⟩ : ∃ x, x = hx := ⟨_, rfl⟩; have hS : Lt.Sep wc.heap.size wc [prow 2 encN 104 wc.heap.size none 0 []] := Sep.newRow Sep.none' (Ext.refl _) Own.nil (fun k hk => by cases hk) (Nat.le_refl _)))
    | (apply WL.alloc tOk; exact rfl; exact rfl; exact rfl; intro gb w' hb hge hx; replace hS := Sep.newCell (Sep.ext hS (by (exact extA))) hx hb hge (by (first | exact Nat.le_refl _ | exact Below.size (by (exact extA)))); (try simp only [List.set_cons_zero, List.set_cons_succ] at hS); (try have hR0 := hS.row (i := 0) rfl); (try have hR1 := hS.row (i := 1) rfl); (try have hR2 := hS.row (i := 2) rfl); (try have hR3 := hS.row (i := 3) rfl); (try have hR4 := hS.row (i := 4) rfl); (try have hC0 := hS.cell (i := 0) rfl); (try have hD0 := (cells_heap hC0).1); (try have hE0 := (cells_heap hC0).2.1); (try have hF0 := (cells_heap hC0).2.2.1); (try have hG0 := (cells_heap hC0).2.2.2.1); (try have hC1 := hS.cell (i := 1) rfl); (try have hD1 := (cells_heap hC1).1); (try have hE1 := (cells_heap hC1).2.1); (try have hF1 := (cells_heap hC1).2.2.1); (try have hG1 := (cells_heap hC1).2.2.2.1); (try have hC2 := hS.cell (i := 2) rfl); (try have hD2 := (cells_heap hC2).1); (try have hE2 := (cells_heap hC2).2.1); (try have hF2 := (cells_heap hC2).2.2.1); (try have hG2 := (cells_heap hC2).2.2.2.1); (try have hC3 := hS.cell (i := 3) rfl); (try have hD3 := (cells_heap hC3).1); (try have hE3 := (cells_heap hC3).2.1); (try have hF3 := (cells_heap hC3).2.2.1); (try have hG3 := (cells_heap hC3).2.2.2.1); (try have hC4 := hS.cell (i := 4) rfl); (try have hD4 := (cells_heap hC4).1); (try have hE4 := (cells_heap hC4).2.1); (try have hF4 := (cells_heap hC4).2.2.1); (try have hG4 := (cells_heap hC4).2.2.2.1); (try have hM0 := hS.map (i := 0) rfl); (try have hM1 := hS.map (i := 1) rfl); (try have hM2 := hS.map (i := 2) rfl); (try have hM3 := hS.map (i := 3) rfl); (try have hM4 := hS.map (i := 4) rfl); (first | (have h_0 := g4; clear h_0) | (obtain ⟨g4, rfl⟩ : ∃ x, x = gb := ⟨_, rfl⟩)))
    | (apply WL.make (w0 := wc) (z := (0:Int)) tOk; exact rfl; exact rfl; exact rfl; exact rfl; exact rfl; exact rfl; exact rfl; exact rfl; exact rfl; exact encI_ok; exact rfl; exact rfl; (exact extA); (first | omega | (simp; omega) | (simp at *; omega)); intro gb w' hO hge hx; replace hS := Sep.newRow (Sep.ext hS (by (exact extA))) hx hO (fun k hk => by cases hk; exact hge) (by (first | exact Nat.le_refl _ | exact Below.size (by (exact extA)))); (try simp only [List.set_cons_zero, List.set_cons_succ] at hS); (try have hR0 := hS.row (i := 0) rfl); (try have hR1 := hS.row (i := 1) rfl); (try have hR2 := hS.row (i := 2) rfl); (try have hR3 := hS.row (i := 3) rfl); (try have hR4 := hS.row (i := 4) rfl); (try have hC0 := hS.cell (i := 0) rfl); (try have hD0 := (cells_heap hC0).1); (try have hE0 := (cells_heap hC0).2.1); (try have hF0 := (cells_heap hC0).2.2.1); (try have hG0 := (cells_heap hC0).2.2.2.1); (try have hC1 := hS.cell (i := 1) rfl); (try have hD1 := (cells_heap hC1).1); (try have hE1 := (cells_heap hC1).2.1); (try have hF1 := (cells_heap hC1).2.2.1); (try have hG1 := (cells_heap hC1).2.2.2.1); (try have hC2 := hS.cell (i := 2) rfl); (try have hD2 := (cells_heap hC2).1); (try have hE2 := (cells_heap hC2).2.1); (try have hF2 := (cells_heap hC2).2.2.1); (try have hG2 := (cells_heap hC2).2.2.2.1); (try have hC3 := hS.cell (i := 3) rfl); (try have hD3 := (cells_heap hC3).1); (try have hE3 := (cells_heap hC3).2.1); (try have hF3 := (cells_heap hC3).2.2.1); (try have hG3 := (cells_heap hC3).2.2.2.1); (try have hC4 := hS.cell (i := 4) rfl); (try have hD4 := (cells_heap hC4).1); (try have hE4 := (cells_heap hC4).2.1); (try have hF4 := (cells_heap hC4).2.2.1); (try have hG4 := (cells_heap hC4).2.2.2.1); (try have hM0 := hS.map (i := 0) rfl); (try have hM1 := hS.map (i := 1) rfl); (try have hM2 := hS.map (i := 2) rfl); (try have hM3 := hS.map (i := 3) rfl); (try have hM4 := hS.map (i := 4) rfl); (obtain ⟨ga, rfl⟩ : ∃ x, x = gb := ⟨_, rfl⟩))
    | (apply WL.storeB (w0 := wc) tOk; exact rfl; exact rfl; exact rfl; exact rfl; assumption; (exact extA); exact rfl; exact rfl; exact rfl; (exact extA); (first | assumption | omega | (focus (apply Nat.le_trans; rotate_left; assumption; exact Below.size (by (exact extA)); done))); intro w' hb hc hX' hU; have hcc := hc; obtain ⟨h1, h2, _⟩ := hc; (first | replace hS := Sep.updCell (i := 0) rfl hU hb hS (by (exact extA)) (by (first | exact Nat.le_refl _ | exact Below.size (by (exact extA)))) | replace hS := Sep.updCell (i := 1) rfl hU hb hS (by (exact extA)) (by (first | exact Nat.le_refl _ | exact Below.size (by (exact extA)))) | replace hS := Sep.updCell (i := 2) rfl hU hb hS (by (exact extA)) (by (first | exact Nat.le_refl _ | exact Below.size (by (exact extA)))) | replace hS := Sep.updCell (i := 3) rfl hU hb hS (by (exact extA)) (by (first | exact Nat.le_refl _ | exact Below.size (by (exact extA))))); (try simp only [List.set_cons_zero, List.set_cons_succ] at hS); (try have hR0 := hS.row (i := 0) rfl); (try have hR1 := hS.row (i := 1) rfl); (try have hR2 := hS.row (i := 2) rfl); (try have hR3 := hS.row (i := 3) rfl); (try have hR4 := hS.row (i := 4) rfl); (try have hC0 := hS.cell (i := 0) rfl); (try have hD0 := (cells_heap hC0).1); (try have hE0 := (cells_heap hC0).2.1); (try have hF0 := (cells_heap hC0).2.2.1); (try have hG0 := (cells_heap hC0).2.2.2.1); (try have hC1 := hS.cell (i := 1) rfl); (try have hD1 := (cells_heap hC1).1); (try have hE1 := (cells_heap hC1).2.1); (try have hF1 := (cells_heap hC1).2.2.1); (try have hG1 := (cells_heap hC1).2.2.2.1); (try have hC2 := hS.cell (i := 2) rfl); (try have hD2 := (cells_heap hC2).1); (try have hE2 := (cells_heap hC2).2.1); (try have hF2 := (cells_heap hC2).2.2.1); (try have hG2 := (cells_heap hC2).2.2.2.1); (try have hC3 := hS.cell (i := 3) rfl); (try have hD3 := (cells_heap hC3).1); (try have hE3 := (cells_heap hC3).2.1); (try have hF3 := (cells_heap hC3).2.2.1); (try have hG3 := (cells_heap hC3).2.2.2.1); (try have hC4 := hS.cell (i := 4) rfl); (try have hD4 := (cells_heap hC4).1); (try have hE4 := (cells_heap hC4).2.1); (try have hF4 := (cells_heap hC4).2.2.1); (try have hG4 := (cells_heap hC4).2.2.2.1); (try have hM0 := hS.map (i := 0) rfl); (try have hM1 := hS.map (i := 1) rfl); (try have hM2 := hS.map (i := 2) rfl); (try have hM3 := hS.map (i := 3) rfl); (try have hM4 := hS.map (i := 4) rfl))
    | (show WL _ _ _ _ _ _ _; first | apply WL.nil | (refine WL.au (k := ?_)))
    | (show Z _ _ _ _ _; apply Z.then_normal)
    | (show W _ _ _ _ _ _; first | apply W.seq | apply W.region | apply W.block))
  obtain ⟨g5, rfl⟩ : ∃ x, x = gb := ⟨_, rfl⟩
  have e1 : (c.max + 1).toNat = m + 1 := by omega
  rw [e1, List.length_replicate] at hS
  have hS2 : Lt.Sep wc.heap.size w' (netP wc.heap.size g4 g5 none 0 (some ⟨ga, 0, none⟩) (m + 1) ([], List.replicate (m + 1) 0)) := by
    have := Sep.perm4 hS
    unfold netP
    rw [List.length_replicate]
    exact this
  have hA0 : AtK m 1 (List.replicate (m + 1) 0) := ⟨by simp, rfl, fun u h1 h2 => by omega⟩
  have hX1 : Ext wc w' := (by (exact extA))
  refine W.loopW (m + 1) (fun k w' => k ≤ m ∧ Ext wc w' ∧ ∃ A, AtK m (k + 1) A ∧ Lt.Sep wc.heap.size w' (netP wc.heap.size g4 g5 none 0 (some ⟨ga, 0, none⟩) (m + 1) ([], A))) (fun k => [(1, .pointer (some ⟨gc, 0, none⟩)), (4, .pointer (some ⟨g4, 0, none⟩)), (5, .pointer (some ⟨g5, 0, none⟩)), (6, .int .i64 ((k : Int) + 1))]) ⟨Nat.zero_le _, hX1, _, hA0, hS2⟩ (fun k w' h => by have := h.1; omega) ⟨rfl, rfl, rfl, rfl, trivial⟩ ?_
  clear hS hS2 hA0 hX1
  rintro k w3 ⟨hk, hX3, A, hA, hS⟩
  have hlA := hA.len
  have hlA2 : (([], A) : NA).2.length = m + 1 := hA.len
  have k1 := (cells_heap (hS.cell (i := 1) rfl)).1
  have hAo := hS.row (i := 3) rfl
  by_cases hlt : k < m
  · obtain ⟨yv, hyv⟩ := getI A (show ((k : Int) + 1).toNat < A.length by omega)
    repeat' (first
      | (show WL _ _ _ _ _ _ _; first | apply WL.nil | (refine WL.au (k := ?_)))
      | (show Z _ _ _ _ _; apply Z.then_normal)
      | (show W _ _ _ _ _ _; first | apply W.seq | apply W.region))
    refine W.condKT rfl (dec_true (by omega)) ?_
    repeat' (first
      | (apply WL.indexO tOk; exact rfl; exact rfl; exact rfl; exact rfl; exact rfl; exact rfl; exact rfl; exact rfl; assumption; (exact extA); exact encI_ok; (first | exact rfl | (focus (simp only [List.length_set]; done)) | (focus (simp; done)) | (focus (simp [*]; done)) | omega | (focus (simp only [List.length_set]; omega))); omega; assumption; intro gb ha hc; cases ha; have hcc := hc; first | (obtain ⟨h1, h2, h3, _⟩ := hc) | (obtain ⟨h1, h2, _⟩ := hc) | (obtain ⟨h1, _⟩ := hc))
      | (apply WL.storeO (z' := ((-1 : Int))) tOk; exact rfl; exact rfl; exact rfl; exact rfl; assumption; (exact extA); exact rfl; exact rfl; exact rfl; exact encI_ok; assumption; exact rfl; (exact extA); intro w' hO hX' hU)
      | (show WL _ _ _ _ _ _ _; first | apply WL.nil | (refine WL.au (k := ?_)))
      | (show Z _ _ _ _ _; first | apply Z.then_normal | apply Z.block_normal)
      | (show W _ _ _ _ _ _; first | apply W.seq | apply W.region | apply W.block | apply W.skip))
    have hS3 := Sep.updRow (i := 3) rfl hU hO (.inl rfl) hS (Ext.refl _) (Below.size hX3)
    refine Z.againW ⟨by omega, (by (exact extA)), A.set ((k : Int) + 1).toNat (-1), ⟨by simp [hlA], ?_, fun u h1 h2 => ?_⟩, ?_⟩ ⟨rfl, rfl, rfl, rfl, trivial⟩
    · rw [List.getElem?_set_ne (by omega)]; exact hA.zero
    · by_cases hu : u = k + 1
      · subst hu; rw [show ((k : Int) + 1).toNat = k + 1 by omega, List.getElem?_set_self (by omega)]
      · rw [List.getElem?_set_ne (by omega)]; exact hA.neg u h1 (by omega)
    · unfold netP
      rw [List.length_set]
      exact hS3
  obtain rfl : k = m := by omega
  obtain rfl := hA.all
  repeat' (first
    | (show WL _ _ _ _ _ _ _; first | apply WL.nil | (refine WL.au (k := ?_)))
    | (show Z _ _ _ _ _; apply Z.then_normal)
    | (show W _ _ _ _ _ _; first | apply W.seq | apply W.region))
  refine W.condKF rfl (dec_false (by omega)) ?_
  repeat' (first
    | (show WL _ _ _ _ _ _ _; first | apply WL.nil | (refine WL.au (k := ?_)))
    | (show Z _ _ _ _ _; first | apply Z.then_normal | apply Z.then_exit | apply Z.block_exit)
    | (show W _ _ _ _ _ _; first | apply W.seq | apply W.region | apply W.block | apply W.exit))
  have Ri := hC.ins.row.ext hxc
  have Rl := hC.lat.row.ext hxc
  have Rg := hC.gates.row.ext hxc
  have hown1 : ∀ x ∈ c.ins.2.2, 2 ≤ x ∧ x % 2 = 0 ∧ x ≤ 2 * c.max := fun x hx => hown x (List.mem_append_left _ (List.mem_append_left _ hx))
  have hown2 : ∀ x ∈ c.lat.2.2, 2 ≤ x.1 ∧ x.1 % 2 = 0 ∧ x.1 ≤ 2 * c.max := fun x hx => hown x.1 (List.mem_append_left _ (List.mem_append_right _ (List.mem_map.2 ⟨x, hx, rfl⟩)))
  have e10 : cS1 c.t 0 = ([], cAt0 (k : Int)) := by rw [cS1_0, hcm, hmm]
  refine W.loopW c.ins.2.2.length (fun j w' => j ≤ c.ins.2.2.length ∧ Ext wc w' ∧ ∃ an cn, Lt.Sep wc.heap.size w' (netP wc.heap.size g4 g5 an cn (some ⟨ga, 0, none⟩) (k + 1) (cS1 c.t j) ++ [])) (fun j => [(1, .pointer (some ⟨gc, 0, none⟩)), (4, .pointer (some ⟨g4, 0, none⟩)), (5, .pointer (some ⟨g5, 0, none⟩)), (7, .func (.func 137) #[] #[.pointer (some ⟨g4, 0, none⟩), .pointer (some ⟨g5, 0, none⟩)]), (31, rowVal c.ins), (32, .int .i64 (c.ins.2.2.length : Nat)), (33, .int .i64 j)]) ⟨Nat.zero_le _, hX3, none, 0, by rw [e10]; exact hS⟩ (fun k w' h => h.1) ⟨rfl, rfl, rfl, rfl, rfl, rfl, rfl, trivial⟩ ?_
  clear hS hAo k1 hX3 hlA hlA2 hA
  rintro j w4 ⟨hj, hX4, an, cn, hS⟩
  have hl1 : (cS1 c.t j).1.length = j ∧ (cS1 c.t j).2.length = c.max.toNat + 1 := cS1_len c.t hj
  by_cases hlt : j < c.ins.2.2.length
  · obtain ⟨x, hgx⟩ := getI c.ins.2.2 hlt
    have hxo := hown1 x (List.mem_of_getElem? hgx)
    have e1 := cS1_s (c := c.t) hgx
    have hcall := circ_Net1 wc w4 g4 g5 an cn (some ⟨ga, 0, none⟩) (k + 1) (cS1 c.t j) [] x (-1, 0) hX4 hS (by omega) (by omega) (by omega)
    repeat' (first
      | (show WL _ _ _ _ _ _ _; first | apply WL.nil | (refine WL.au (k := ?_)))
      | (show Z _ _ _ _ _; apply Z.then_normal)
      | (show W _ _ _ _ _ _; first | apply W.seq | apply W.region))
    refine W.condKT rfl (dec_true (by omega)) ?_
    repeat' (first
      | (apply WL.build tOk; exact rfl; exact rfl; exact rfl; exact rfl; exact rfl; exact rfl; exact rfl; kernel_rfl)
      | ((show WL _ _ _ (⟨_, .call ⟨.value (.tmp _), _, _⟩, _, _, _, _⟩ :: _) _ _ _; apply WL.call; exact rfl; exact rfl; exact rfl; exact rfl; exact hcall; rintro v' w5 ⟨rfl, hX5, an2, cn2, hS5⟩))
      | (show WL _ _ _ _ _ _ _; first | apply WL.nil | (refine WL.au (k := ?_)) | (apply WL.index tOk; exact rfl; exact rfl; exact rfl; exact rfl; exact rfl; exact rfl; exact rfl; exact rfl; assumption; (exact extA); exact rfl; omega; assumption; intro b off h; have hcc := h; first | (obtain ⟨h1, h2, h3, h4, h5, h6, _⟩ := h) | (obtain ⟨h1, h2, h3, _⟩ := h) | (obtain ⟨h1, h2, _⟩ := h) | (obtain ⟨h1, _⟩ := h)))
      | (show Z _ _ _ _ _; first | apply Z.then_normal | apply Z.block_normal)
      | (show W _ _ _ _ _ _; first | apply W.seq | apply W.region | apply W.block | apply W.skip))
    exact Z.againW ⟨by omega, hX5, an2, cn2, by rw [e1]; exact hS5⟩ ⟨rfl, rfl, rfl, rfl, rfl, rfl, rfl, trivial⟩
  obtain rfl : j = c.ins.2.2.length := by omega
  repeat' (first
    | (show WL _ _ _ _ _ _ _; first | apply WL.nil | (refine WL.au (k := ?_)))
    | (show Z _ _ _ _ _; apply Z.then_normal)
    | (show W _ _ _ _ _ _; first | apply W.seq | apply W.region))
  refine W.condKF rfl (dec_false (by omega)) ?_
  repeat' (first
    | (show WL _ _ _ _ _ _ _; first | apply WL.nil | (refine WL.au (k := ?_)))
    | (show Z _ _ _ _ _; first | apply Z.then_normal | apply Z.then_exit | apply Z.block_exit)
    | (show W _ _ _ _ _ _; first | apply W.seq | apply W.region | apply W.block | apply W.exit))
  have e20 : cS2 c.t 0 = cS1 c.t c.ins.2.2.length := cS2_0 c.t
  refine W.loopW c.lat.2.2.length (fun j w' => j ≤ c.lat.2.2.length ∧ Ext wc w' ∧ ∃ an cn, Lt.Sep wc.heap.size w' (netP wc.heap.size g4 g5 an cn (some ⟨ga, 0, none⟩) (k + 1) (cS2 c.t j) ++ [])) (fun j => [(1, .pointer (some ⟨gc, 0, none⟩)), (4, .pointer (some ⟨g4, 0, none⟩)), (5, .pointer (some ⟨g5, 0, none⟩)), (7, .func (.func 137) #[] #[.pointer (some ⟨g4, 0, none⟩), .pointer (some ⟨g5, 0, none⟩)]), (43, rowVal c.lat), (44, .int .i64 (c.lat.2.2.length : Nat)), (45, .int .i64 j)]) ⟨Nat.zero_le _, hX4, an, cn, by rw [e20]; exact hS⟩ (fun k w' h => h.1) ⟨rfl, rfl, rfl, rfl, rfl, rfl, rfl, trivial⟩ ?_
  clear hS hX4 hl1 hj hlt
  rintro j w4 ⟨hj, hX4, an, cn, hS⟩
  have hl1 : (cS2 c.t j).1.length = c.ins.2.2.length + j ∧ (cS2 c.t j).2.length = c.max.toNat + 1 := cS2_len c.t hj
  by_cases hlt : j < c.lat.2.2.length
  · obtain ⟨x, hgx⟩ := getI c.lat.2.2 hlt
    have hxo := hown2 x (List.mem_of_getElem? hgx)
    have e1 := cS2_s (c := c.t) hgx
    have hcall := fun (w9 : World) (h9 : Ext w4 w9) => circ_Net1 wc w9 g4 g5 an cn (some ⟨ga, 0, none⟩) (k + 1) (cS2 c.t j) [] x.1 (-1, 0) (hX4.trans h9) (hS.ext h9) (by omega) (by omega) (by omega)
    repeat' (first
      | (show WL _ _ _ _ _ _ _; first | apply WL.nil | (refine WL.au (k := ?_)))
      | (show Z _ _ _ _ _; apply Z.then_normal)
      | (show W _ _ _ _ _ _; first | apply W.seq | apply W.region))
    refine W.condKT rfl (dec_true (by omega)) ?_
    repeat' (first
      | (apply WL.alloc tOk; exact rfl; exact rfl; exact rfl; intro gb w' hb hge hx)
      | (apply WL.storeB (w0 := w4) tOk; exact rfl; exact rfl; exact rfl; exact rfl; assumption; (exact extA); exact rfl; exact rfl; exact rfl; (exact extA); (first | assumption | omega | (focus (apply Nat.le_trans; rotate_left; assumption; exact Below.size (by (exact extA)); done))); intro w' hb hc hX' hU; have hcc := hc; obtain ⟨h1, h2, _⟩ := hc; (have hC8 := cells_heap hb; obtain ⟨i0, i1, i2, _⟩ := hC8))
      | (apply WL.build tOk; exact rfl; exact rfl; exact rfl; exact rfl; exact rfl; exact rfl; exact rfl; kernel_rfl)
      | ((show WL _ _ _ (⟨_, .call ⟨.value (.tmp _), _, _⟩, _, _, _, _⟩ :: _) _ _ _; apply WL.call; exact rfl; exact rfl; exact rfl; exact rfl; exact hcall _ (by (exact extA)); rintro v' w5 ⟨rfl, hX5, an2, cn2, hS5⟩))
      | (show WL _ _ _ _ _ _ _; first | apply WL.nil | (refine WL.au (k := ?_)) | (apply WL.index tOk; exact rfl; exact rfl; exact rfl; exact rfl; exact rfl; exact rfl; exact rfl; exact rfl; assumption; (exact extA); exact rfl; omega; assumption; intro b off h; have hcc := h; first | (obtain ⟨h1, h2, h3, h4, h5, h6, _⟩ := h) | (obtain ⟨h1, h2, h3, _⟩ := h) | (obtain ⟨h1, h2, _⟩ := h) | (obtain ⟨h1, _⟩ := h)))
      | (show Z _ _ _ _ _; first | apply Z.then_normal | apply Z.block_normal)
      | (show W _ _ _ _ _ _; first | apply W.seq | apply W.region | apply W.block | apply W.skip))
    exact Z.againW ⟨by omega, hX5, an2, cn2, by rw [e1]; exact hS5⟩ ⟨rfl, rfl, rfl, rfl, rfl, rfl, rfl, trivial⟩
  obtain rfl : j = c.lat.2.2.length := by omega
  repeat' (first
    | (show WL _ _ _ _ _ _ _; first | apply WL.nil | (refine WL.au (k := ?_)))
    | (show Z _ _ _ _ _; apply Z.then_normal)
    | (show W _ _ _ _ _ _; first | apply W.seq | apply W.region))
  refine W.condKF rfl (dec_false (by omega)) ?_
  have hgm : ∀ g ∈ c.gates.2.2, g.1 ∈ c.t.own ∧ g.2.1 ∈ c.t.used ∧ g.2.2 ∈ c.t.used := fun g hg =>
    ⟨List.mem_append.2 (.inr (List.mem_map.2 ⟨g, hg, rfl⟩)), List.mem_append.2 (.inr (List.mem_flatMap.2 ⟨g, hg, by simp⟩)), List.mem_append.2 (.inr (List.mem_flatMap.2 ⟨g, hg, by simp⟩))⟩
  have hok : gsOk c.gates.2.2 := fun g hg => by
    obtain ⟨r1, r2, r3⟩ := hgm g hg
    have := hown _ r1
    have := hused _ r2
    have := hused _ r3
    omega
  have h7 : ¬ Twice c.t := fun ⟨i, x, a1, a2⟩ => by
    have h3 := List.pairwise_iff_getElem.1 (List.nodup_iff_pairwise_ne.1 hg.once)
    obtain ⟨j, hj, he⟩ := List.mem_take_iff_getElem.1 a2
    obtain ⟨hi, he2⟩ := List.getElem?_eq_some_iff.1 a1
    exact h3 j i (by omega) hi (by omega) (by rw [he, he2])
  have honce : Once c.gates.2.2 := once_of (c := c.t) h7 fun x hx => (hown x hx).2.1
  have hcells4 := hcells.ext hX4
  have x0 : Cells w4 gc 0 c.vals := hcells4
  repeat' (first
    | ((show WL _ _ _ (⟨_, .call ⟨.value (.func 111), _, _⟩, _, _, _, _⟩ :: _) _ _ _); apply WL.call; exact rfl; exact rfl; exact rfl; exact rfl; exact circ_Order c _ (Rg.ext (by (exact extA))) hok (by omega) honce; rintro v' w' ⟨hx, a', cap', rfl, hO⟩; (obtain ⟨hOd, rfl⟩ : ∃ x, x = hO := ⟨_, rfl⟩; obtain ⟨hxd, rfl⟩ : ∃ x, x = hx := ⟨_, rfl⟩; obtain ⟨wd, rfl⟩ : ∃ x, x = w' := ⟨_, rfl⟩; obtain ⟨ad, rfl⟩ : ∃ x, x = a' := ⟨_, rfl⟩; obtain ⟨cd, rfl⟩ : ∃ x, x = cap' := ⟨_, rfl⟩))
    | (show WL _ _ _ _ _ _ _; first | apply WL.nil | (refine WL.au (k := ?_)))
    | (show Z _ _ _ _ _; first | apply Z.then_normal | apply Z.then_exit | apply Z.block_exit)
    | (show W _ _ _ _ _ _; first | apply W.seq | apply W.region | apply W.block | apply W.exit))
  have hS0 : Lt.Sep wc.heap.size wd (netP wc.heap.size g4 g5 an cn (some ⟨ga, 0, none⟩) (k + 1) (cS2 c.t c.lat.2.2.length) ++ [prow 1 encI 3 wc.heap.size ad cd (natI (ordL c.gates.2.2))]) := by
    have h1 := hS.newRow' hxd hOd (Below.size hX4)
    rw [List.append_nil] at h1
    exact Sep.comm (ps := [prow 1 encI 3 wc.heap.size ad cd (natI (ordL c.gates.2.2))]) h1
  have hXd : Ext wc wd := (by (exact extA))
  have e30 : cS3 c.t 0 = cS2 c.t c.lat.2.2.length := cS3_0 c.t
  have hnl : (natI (ordL c.gates.2.2)).length = (ordL c.gates.2.2).length := by simp [natI]
  have hol : (ordL c.gates.2.2).length ≤ c.gates.2.2.length := (ordL_is c.gates.2.2).1.le
  refine W.loopW (ordL c.gates.2.2).length (fun j w' => j ≤ (ordL c.gates.2.2).length ∧ Ext wc w' ∧ ∃ an cn, Lt.Sep wc.heap.size w' (netP wc.heap.size g4 g5 an cn (some ⟨ga, 0, none⟩) (k + 1) (cS3 c.t j) ++ [prow 1 encI 3 wc.heap.size ad cd (natI (ordL c.gates.2.2))])) (fun j => [(1, .pointer (some ⟨gc, 0, none⟩)), (4, .pointer (some ⟨g4, 0, none⟩)), (5, .pointer (some ⟨g5, 0, none⟩)), (7, .func (.func 137) #[] #[.pointer (some ⟨g4, 0, none⟩), .pointer (some ⟨g5, 0, none⟩)]), (12, .func (.func 138) #[] #[.pointer (some ⟨g5, 0, none⟩)]), (57, .slice ad (natI (ordL c.gates.2.2)).length cd), (58, .int .i64 (natI (ordL c.gates.2.2)).length), (59, .int .i64 j)]) ⟨Nat.zero_le _, hXd, an, cn, by rw [e30]; exact hS0⟩ (fun k w' h => h.1) ⟨rfl, rfl, rfl, rfl, rfl, rfl, rfl, rfl, trivial⟩ ?_
  clear hS hS0 hX4 hl1 hj hlt hcells4 x0 hXd
  rintro j w4 ⟨hj, hX4, an, cn, hS⟩
  have hl1 : (cS3 c.t j).1.length = c.ins.2.2.length + c.lat.2.2.length + j ∧ (cS3 c.t j).2.length = c.max.toNat + 1 := cS3_len c.t hj
  by_cases hlt : j < (ordL c.gates.2.2).length
  · obtain ⟨i, hi⟩ := getI (ordL c.gates.2.2) hlt
    obtain ⟨g, za, zb, hgg, hza, hzb, ka, kb⟩ := cS3_get hg (c := c.t) hi
    have hgg : c.gates.2.2[i]? = some g := hgg
    have hgi : c.gates.2.2[((i : Nat) : Int).toNat]? = some g := by rw [Int.toNat_natCast]; exact hgg
    have hgo := hok g (List.mem_of_getElem? hgg)
    have hgw := hown g.1 (hgm g (List.mem_of_getElem? hgg)).1
    have hgl := lt_of_get hgg
    have hni : (natI (ordL c.gates.2.2))[((j : Nat) : Int).toNat]? = some (i : Int) := by rw [Int.toNat_natCast, natI, List.getElem?_map, hi]; rfl
    have e1 : cS3 c.t (j + 1) = cput (cS3 c.t j) g.1 (litI (cS3 c.t j).2 g.2.1, litI (cS3 c.t j).2 g.2.2) := by rw [cS3_s (c := c.t) hi]; unfold cGate; rw [gAt_of hgg]
    have k1 := (cells_heap (hS.cell (i := 1) rfl)).1
    have RA := (hS.row (i := 3) rfl).row encI_ok
    have RO := (hS.row (i := 4) rfl).row encI_ok
    have hcall := fun (w9 : World) (h9 : Ext w4 w9) => circ_Net1 wc w9 g4 g5 an cn (some ⟨ga, 0, none⟩) (k + 1) (cS3 c.t j) [prow 1 encI 3 wc.heap.size ad cd (natI (ordL c.gates.2.2))] g.1 (litI (cS3 c.t j).2 g.2.1, litI (cS3 c.t j).2 g.2.2) (hX4.trans h9) (hS.ext h9) (by omega) (by omega) (by omega)
    repeat' (first
      | (show WL _ _ _ _ _ _ _; first | apply WL.nil | (refine WL.au (k := ?_)))
      | (show Z _ _ _ _ _; apply Z.then_normal)
      | (show W _ _ _ _ _ _; first | apply W.seq | apply W.region))
    refine W.condKT rfl (dec_true (by omega)) ?_
    repeat' (first
      | (apply WL.alloc tOk; exact rfl; exact rfl; exact rfl; intro gb w' hb hge hx)
      | (apply WL.storeB (w0 := w4) tOk; exact rfl; exact rfl; exact rfl; exact rfl; assumption; (exact extA); exact rfl; exact rfl; exact rfl; (exact extA); (first | assumption | omega | (focus (apply Nat.le_trans; rotate_left; assumption; exact Below.size (by (exact extA)); done))); intro w' hb hc hX' hU; have hcc := hc; obtain ⟨h1, h2, _⟩ := hc; (obtain ⟨w6, rfl⟩ : ∃ x, x = w' := ⟨_, rfl⟩; obtain ⟨hX6, rfl⟩ : ∃ x, x = hX' := ⟨_, rfl⟩; have hC8 := cells_heap hb; obtain ⟨i0, i1, i2, _⟩ := hC8))
      | (show WL _ _ _ _ _ _ _; first | apply WL.nil | (refine WL.au (k := ?_)) | (apply WL.index tOk; exact rfl; exact rfl; exact rfl; exact rfl; exact rfl; exact rfl; exact rfl; exact rfl; assumption; (exact extA); exact rfl; omega; assumption; intro b off h; have hcc := h; first | (obtain ⟨h1, h2, h3, h4, h5, h6, _⟩ := h) | (obtain ⟨h1, h2, h3, _⟩ := h) | (obtain ⟨h1, h2, _⟩ := h) | (obtain ⟨h1, _⟩ := h)))
      | (show Z _ _ _ _ _; apply Z.then_normal)
      | (show W _ _ _ _ _ _; first | apply W.seq | apply W.region | apply W.block | apply W.skip))
    have k1' := hX6.cell k1
    have RA' := RA.ext hX6
    repeat' (first
      | (apply W.regionQS 12 tMix; kernel_rfl; exact rfl; kernel_rfl; kernel_rfl)
      | (apply QL.build tOk; exact rfl; exact rfl; exact rfl; exact rfl; exact rfl; exact rfl; exact rfl; kernel_rfl)
      | ((show QL _ _ _ _ (⟨_, .call ⟨.value (.tmp _), _, _⟩, _, _, _, _⟩ :: _) _ _); apply QL.callS; exact rfl; exact rfl; exact rfl; exact rfl; exact circ_Net2 _ g5 _ _ (cS3 c.t j).2 g.2.1 za k1' RA' (by omega) (by omega) hza (by omega))
      | ((show QL _ _ _ _ (⟨_, .call ⟨.value (.tmp _), _, _⟩, _, _, _, _⟩ :: _) _ _); apply QL.callS; exact rfl; exact rfl; exact rfl; exact rfl; exact circ_Net2 _ g5 _ _ (cS3 c.t j).2 g.2.2 zb k1' RA' (by omega) (by omega) hzb (by omega))
      | ((show WL _ _ _ (⟨_, .call ⟨.value (.tmp _), _, _⟩, _, _, _, _⟩ :: _) _ _ _; apply WL.call; exact rfl; exact rfl; exact rfl; exact rfl; exact hcall _ (by (exact extA)); rintro v' w5 ⟨rfl, hX5, an2, cn2, hS5⟩))
      | (show WL _ _ _ _ _ _ _; first | apply WL.nil | (refine WL.au (k := ?_)))
      | (show QL _ _ _ _ _ _ _; first | apply QL.nil | (refine QL.au (k := ?_)))
      | (show Z _ _ _ _ _; first | apply Z.tail | apply Z.then_normal | apply Z.block_normal)
      | (show W _ _ _ _ _ _; apply W.region))
    exact Z.againW ⟨by omega, hX5, an2, cn2, by rw [e1]; exact hS5⟩ ⟨rfl, rfl, rfl, rfl, rfl, rfl, rfl, rfl, trivial⟩
  obtain rfl : j = (ordL c.gates.2.2).length := by omega
  repeat' (first
    | (show WL _ _ _ _ _ _ _; first | apply WL.nil | (refine WL.au (k := ?_)))
    | (show Z _ _ _ _ _; apply Z.then_normal)
    | (show W _ _ _ _ _ _; first | apply W.seq | apply W.region))
  refine W.condKF rfl (dec_false (by omega)) ?_
  have e39 : cS3 c.t (ordL c.gates.2.2).length = cNet c.t := cS3_all c.t
  rw [e39] at hS
  have k0 := (cells_heap (hS.cell (i := 0) rfl)).1
  have k1 := (cells_heap (hS.cell (i := 1) rfl)).1
  have hwc := Below.size hxc
  repeat' (first
    | (show QL _ _ _ _ _ _ _; first | apply QL.nil | (refine QL.au (k := ?_)))
    | (show Z _ _ _ _ _; first | apply Z.then_normal | apply Z.then_exit | apply Z.block_exit)
    | (show W _ _ _ _ _ _; first | apply W.seq | apply W.ret | apply W.exit | (apply W.regionD tMix; kernel_rfl)))
  exact Z.body2 Try.results87 rfl rfl fun q => ⟨Ext.at (by (exact extA)) q, an, cn, some ⟨ga, 0, none⟩, k + 1, rfl, ((hS.row (i := 2) rfl).base hwc).ext ((Ext.refl _).at q), ((hS.row (i := 3) rfl).base hwc).ext ((Ext.refl _).at q)⟩
end Go.Proofs.Ythpnahapiodflaa
namespace Go.Proofs.Ythpnahapiodflaa
open Go Go.Lt Go.RowKit
set_option linter.unusedVariables false
set_option linter.unusedSimpArgs false
set_option maxRecDepth 20000

theorem ordL_nil : ordL [] = [] := (IsOrd.ord (gs := []) (L := []) ⟨PreOrd.nil _, fun i ⟨g, hg, _⟩ => by simp at hg⟩).symm
end Go.Proofs.Ythpnahapiodflaa
namespace Go.Proofs.Ythpnahapiodflaa
open Go Go.Lt Go.RowKit Go.ChangeShapes Go.WideShapes Go.ChangeAt Go.Deep
set_option linter.unusedVariables false
set_option linter.unusedSimpArgs false
set_option maxRecDepth 20000

set_option maxRecDepth 20000 in
theorem circ_of {H : Type} {en : TypeId × Value → H} {w : World} {base : Nat} {spare : Nat → Bool} {held : Bool} {r : Reach} {b0 : Nat} {v : Value} {d : DataW H} {ps : List MemPlace} (hval : Value.okWide Try.prog w r b0 28 v) (hd : DataW.Trod en Try.prog w base spare held 28 v d ps) : ∃ c : Circ, v = c.val ∧ CAt w c := by
  obtain ⟨⟨m, ins, lat, outs, bads, cons, gates, syms, com, _⟩, hv, _, ki, kl, ko, kb, kc, kg, ks, _⟩ := struct_of (reads_struct Try.underlying28 (by kernel_rfl) (by kernel_rfl) (readsF_cons (reads_int Try.underlying3) (readsF_cons (reads_row (s := 1) (reads_int Try.underlying3) (by kernel_rfl) Try.underlying23 (fun _ => rfl) (by decide)) (readsF_cons (reads_row (s := 3) (reads_triple' (s0 := 1) (s1 := 1) (s2 := 1) Try.underlying69 (reads_int Try.underlying3) (reads_int Try.underlying3) (reads_int Try.underlying3) (by kernel_rfl) rfl rfl rfl (by kernel_rfl) (by kernel_rfl) (by kernel_rfl)) (by kernel_rfl) Try.underlying24 (fun _ => rfl) (by decide)) (readsF_cons (reads_row (s := 1) (reads_int Try.underlying3) (by kernel_rfl) Try.underlying23 (fun _ => rfl) (by decide)) (readsF_cons (reads_row (s := 1) (reads_int Try.underlying3) (by kernel_rfl) Try.underlying23 (fun _ => rfl) (by decide)) (readsF_cons (reads_row (s := 1) (reads_int Try.underlying3) (by kernel_rfl) Try.underlying23 (fun _ => rfl) (by decide)) (readsF_cons (reads_row (s := 3) (reads_triple' (s0 := 1) (s1 := 1) (s2 := 1) Try.underlying106 (reads_int Try.underlying3) (reads_int Try.underlying3) (reads_int Try.underlying3) (by kernel_rfl) rfl rfl rfl (by kernel_rfl) (by kernel_rfl) (by kernel_rfl)) (by kernel_rfl) Try.underlying25 (fun _ => rfl) (by decide)) (readsF_cons (reads_row (s := 3) (reads_triple' (s0 := 1) (s1 := 1) (s2 := 1) Try.underlying110 (reads_int Try.underlying5) (reads_int Try.underlying3) (reads_string Try.underlying9) (by kernel_rfl) rfl rfl rfl (by kernel_rfl) (by kernel_rfl) (by kernel_rfl)) (by kernel_rfl) Try.underlying26 (fun _ => rfl) (by decide)) (readsF_cons (reads_string Try.underlying9) (readsF_nil _))))))))))) Try.underlying28 hval hd
  exact ⟨⟨m, ins, lat, outs, bads, cons, gates, syms, com⟩, hv, ⟨ki.1, ki.2.1, ki.2.2.2.1⟩, ⟨kl.1, kl.2.1, kl.2.2.2.1⟩, ⟨ko.1, ko.2.1, ko.2.2.2.1⟩, ⟨kb.1, kb.2.1, kb.2.2.2.1⟩, ⟨kc.1, kc.2.1, kc.2.2.2.1⟩, ⟨kg.1, kg.2.1, kg.2.2.2.1⟩, ⟨ks.1, ks.2.1, ks.2.2.2.1⟩⟩
end Go.Proofs.Ythpnahapiodflaa
namespace Go.Proofs.Ythpnahapiodflaa
open Go Go.Lt Go.RowKit
set_option linter.unusedVariables false
set_option linter.unusedSimpArgs false
set_option maxRecDepth 20000

/-- So many values of some. -/
def brV (l : List Bool) (m : Nat) : List Bool := (List.range m).map fun i => l.getD i false
noncomputable def insV (c : CirT) (s i : List Bool) : List Bool := brV i c.ins.length ++ brV s c.lat.length
noncomputable def stepV (c : CirT) (s i : List Bool) : List Bool := values (cNet c).1 (insV c s i)
/-- What a used literal's variable is. -/
theorem net_lit {c : CirT} (h : GoodC' c) {l : Int} (hl : l ∈ c.used) : ∃ z, (cNet c).2[(l / 2).toNat]? = some z ∧ 0 ≤ z ∧ z % 2 = 0 ∧ z ≤ 2 * ((cNet c).1.length : Int) := by
  have h0 := (cNet_ok h).1
  refine h0.ge ?_
  have h1 := h.used l hl
  rcases Int.lt_or_le 1 l with h2 | h2
  · exact .inr ⟨_, seq_all h (h.has l hl h2), by omega⟩
  · left; omega
theorem used_next {c : CirT} {x : T3} (h : x ∈ c.lat) : x.2.1 ∈ c.used := List.mem_append_left _ (List.mem_append_right _ (List.mem_map.2 ⟨x, h, rfl⟩))
theorem used_bad {c : CirT} {l : Int} (h : l ∈ c.bads) : l ∈ c.used := List.mem_append_left _ (List.mem_append_left _ (List.mem_append_left _ (List.mem_append_right _ h)))
theorem used_con {c : CirT} {l : Int} (h : l ∈ c.cons) : l ∈ c.used := List.mem_append_left _ (List.mem_append_left _ (List.mem_append_right _ h))
theorem net_len {c : CirT} (h : GoodC' c) (hz : SzC c 100000) : (cNet c).1.length ≤ 300000 := by
  rw [(cNet_ok h).1.len1]
  have h2 := (ordL_is c.gates).1.le
  obtain ⟨z1, z2, z3, z4, z5, z6⟩ := hz
  show (c.ins ++ c.lat.map (·.1) ++ (ordL c.gates).map (fun i => (gAt c.gates i).1)).length ≤ _
  simp; omega
end Go.Proofs.Ythpnahapiodflaa
namespace Go.Proofs.Ythpnahapiodflaa
open Go Go.Lt Go.RowKit
set_option linter.unusedVariables false
set_option linter.unusedSimpArgs false
set_option maxRecDepth 20000

/-- The first m nodes are inputs, and no others are. -/
structure OnlyG (m : Nat) (N : List (Int × Int)) : Prop where
  le : m ≤ N.length
  inp : ∀ i x, N[i]? = some x → i < m → x = (-1, 0)
  gate : ∀ i x, N[i]? = some x → m ≤ i → 0 ≤ x.1
theorem OnlyG.start (m : Nat) : OnlyG m (List.replicate m (-1, 0)) := by
  refine ⟨by simp, fun i x h hm => ?_, fun i x h hm => ?_⟩
  · rw [List.getElem?_replicate, if_pos hm] at h
    exact (Option.some.inj h).symm
  · have := lt_of_get h; simp at this; omega
theorem snoc_get {α : Type} {N : List α} {x y : α} {i : Nat} (h : (N ++ [x])[i]? = some y) : N[i]? = some y ∨ (i = N.length ∧ y = x) := by
  by_cases hi : i < N.length
  · rw [List.getElem?_append_left hi] at h; exact .inl h
  · have := lt_of_get h
    simp only [List.length_append, List.length_cons, List.length_nil] at this
    have : i = N.length := by omega
    subst this
    simp at h; exact .inr ⟨rfl, h.symm⟩
def evenL (a n : Nat) : List Int := (List.range n).map fun i => 2 * (((a + i : Nat) : Int) + 1)
theorem evenL_len (a n : Nat) : (evenL a n).length = n := by simp [evenL]
theorem evenL_get (a n : Nat) {i : Nat} (h : i < n) : (evenL a n)[i]? = some (2 * (((a + i : Nat) : Int) + 1)) := by
  unfold evenL; rw [List.getElem?_map, List.getElem?_range h]; rfl
def gateG (i : Nat) (x : Int × Int) : T3 := (2 * ((i : Int) + 1), max x.1 x.2, min x.1 x.2)
def gatesG (N : List (Int × Int)) (m k : Nat) : List T3 := (List.range k).map fun i => gateG (m + i) (N.getD (m + i) (0, 0))
def latsG (a : Nat) (next reset : List Int) : List T3 := (List.range next.length).map fun i => (2 * (((a + i : Nat) : Int) + 1), next.getD i 0, reset.getD i 0)
theorem latsG_len (a : Nat) (next reset : List Int) : (latsG a next reset).length = next.length := by simp [latsG]
theorem latsG_get {a : Nat} {next reset : List Int} {i : Nat} (h : i < next.length) : (latsG a next reset)[i]? = some (2 * (((a + i : Nat) : Int) + 1), next.getD i 0, reset.getD i 0) := by
  unfold latsG; rw [List.getElem?_map, List.getElem?_range h]; rfl
/-- What else there is beside latches and gates. -/
structure Rest where
  outs : List Int
  bads : List Int
  cons : List Int
  syms : List Sy
  com : ByteArray
def genC (nin : Nat) (next reset : List Int) (bad : Rest) (N : List (Int × Int)) : CirT :=
  ⟨N.length, evenL 0 nin, latsG nin next reset, bad.outs, bad.bads, bad.cons, gatesG N (nin + next.length) (N.length - (nin + next.length)), bad.syms, bad.com⟩
section
variable {nin : Nat} {next reset : List Int} {bad : Rest} {N : List (Int × Int)}
theorem cIn_fst (ls : List Int) : ∀ s : NA, (cIn s ls).1 = s.1 ++ List.replicate ls.length (-1, 0) := by
  induction ls with
  | nil => intro s; simp [cIn]
  | cons l ls ih =>
    intro s
    show (cIn (cput s l (-1, 0)) ls).1 = _
    rw [ih]; show (s.1 ++ [(-1, 0)]) ++ _ = _
    simp [List.replicate_succ]
end
end Go.Proofs.Ythpnahapiodflaa
namespace Go.Proofs.Ythpnahapiodflaa
open Go Go.Lt Go.RowKit
set_option linter.unusedVariables false
set_option linter.unusedSimpArgs false
set_option maxRecDepth 20000

noncomputable def nextN (c : CirT) : List Int := c.lat.map fun x => litI (cNet c).2 x.2.1
noncomputable def resN (c : CirT) : List Int := c.lat.map fun x => if x.2.2 = x.1 then litI (cNet c).2 x.1 else x.2.2
noncomputable def restN (c : CirT) : Rest := ⟨c.outs.map (litI (cNet c).2), c.bads.map (litI (cNet c).2), c.cons.map (litI (cNet c).2), c.syms, c.com⟩
/-- The circuit in other numbers. -/
noncomputable def numC (c : CirT) : CirT := genC c.ins.length (nextN c) (resN c) (restN c) (cNet c).1
theorem nextN_len (c : CirT) : (nextN c).length = c.lat.length := List.length_map _
theorem net_only {c : CirT} (h : GoodC' c) : ∀ k, k ≤ (ordL c.gates).length → OnlyG c.inl.length (cGates c.gates (cIn ([], cAt0 c.max) c.inl) ((ordL c.gates).take k)).1
  | 0, _ => by
    show OnlyG c.inl.length (cIn ([], cAt0 c.max) c.inl).1
    rw [cIn_fst, List.nil_append]; exact OnlyG.start _
  | k + 1, hk => by
    obtain ⟨i, hi⟩ := getI (ordL c.gates) (show k < _ by omega)
    have ih := net_only h k (by omega)
    obtain ⟨h1, h2⟩ := net_to h k (by omega)
    have hO := (ordL_is c.gates).1
    obtain ⟨g, hg, hn, hr⟩ := (hO k i hi).1
    have hm' := List.mem_of_getElem? hg
    have ua : g.2.1 ∈ c.used := List.mem_append_right _ (List.mem_flatMap.2 ⟨g, hm', by simp⟩)
    obtain ⟨za, a1, a2, a3, a4⟩ := h1.ge (used_put h ua fun j x hx hj => (hr j x hx hj).1)
    rw [take_succ' hi, cGates_snoc]
    unfold cGate
    rw [gAt_of hg]
    refine ⟨?_, fun j x hx hj => ?_, fun j x hx hj => ?_⟩
    · refine Nat.le_trans ih.le ?_
      show _ ≤ (_ ++ [_]).length
      rw [List.length_append]; exact Nat.le_add_right _ _
    · rcases snoc_get hx with hx | ⟨rfl, rfl⟩
      · exact ih.inp j x hx hj
      · have := ih.le; omega
    · rcases snoc_get hx with hx | ⟨rfl, rfl⟩
      · exact ih.gate j x hx hj
      · show 0 ≤ litI _ g.2.1
        rw [litI_some a1]
        unfold xorI Lt.xor1
        split <;> (try split) <;> omega
theorem net_only_all {c : CirT} (h : GoodC' c) : OnlyG (c.ins.length + c.lat.length) (cNet c).1 := by
  have := net_only h _ (Nat.le_refl _)
  rw [List.take_length] at this
  have e : c.inl.length = c.ins.length + c.lat.length := by show (c.ins ++ c.lat.map (·.1)).length = _; rw [List.length_append, List.length_map]
  rw [e] at this
  exact this
theorem net_own {c : CirT} (h : GoodC' c) {k : Nat} {l : Int} (hk : c.seq[k]? = some l) : litI (cNet c).2 l = 2 * ((k : Int) + 1) := by
  have h1 := (cNet_ok h).1.has k l hk
  have hm : l ∈ c.own := by
    rcases List.mem_append.1 (List.mem_of_getElem? hk) with hm | hm
    · exact List.mem_append_left _ hm
    · obtain ⟨j, hj, rfl⟩ := List.mem_map.1 hm
      obtain ⟨x, hx⟩ := getI c.gates ((ordL_is c.gates).1.lt j hj)
      exact List.mem_append_right _ (List.mem_map.2 ⟨x, List.mem_of_getElem? hx, by rw [gAt_of hx]⟩)
  rw [litI_some h1, (h.own l hm).2.1]
  unfold xorI; rw [if_neg (by decide)]
theorem seq_in {c : CirT} {i : Nat} {l : Int} (h : c.ins[i]? = some l) : c.seq[i]? = some l := by
  rw [List.getElem?_append_left (by have := lt_of_get h; rw [List.length_append]; omega), List.getElem?_append_left (lt_of_get h)]; exact h
theorem seq_lat {c : CirT} {i : Nat} {x : T3} (h : c.lat[i]? = some x) : c.seq[c.ins.length + i]? = some x.1 := by
  have hl := lt_of_get h
  rw [List.getElem?_append_left (by rw [List.length_append, List.length_map]; omega), List.getElem?_append_right (by omega), List.getElem?_map, show c.ins.length + i - c.ins.length = i by omega, h]; rfl
section
variable {c : CirT}
theorem num_lat {k : Nat} {x : T3} (hx : c.lat[k]? = some x) : (numC c).lat[k]? = some (2 * (((c.ins.length + k : Nat) : Int) + 1), litI (cNet c).2 x.2.1, if x.2.2 = x.1 then litI (cNet c).2 x.1 else x.2.2) := by
  have hk := lt_of_get hx
  show (latsG c.ins.length (nextN c) (resN c))[k]? = _
  rw [latsG_get (by rw [nextN_len]; exact hk)]
  have e1 : (nextN c)[k]? = some (litI (cNet c).2 x.2.1) := by unfold nextN; rw [List.getElem?_map, hx]; rfl
  have e2 : (resN c)[k]? = some (if x.2.2 = x.1 then litI (cNet c).2 x.1 else x.2.2) := by unfold resN; rw [List.getElem?_map, hx]; rfl
  rw [getD_of e1, getD_of e2]
theorem num_latlen : (numC c).lat.length = c.lat.length := by
  show (latsG c.ins.length (nextN c) (resN c)).length = _
  rw [latsG_len, nextN_len]
end
end Go.Proofs.Ythpnahapiodflaa
namespace Go.Proofs.Ythpnahapiodflaa
open Go Go.Lt Go.RowKit
set_option linter.unusedVariables false
set_option linter.unusedSimpArgs false
set_option maxRecDepth 20000

theorem num_ins {c : CirT} (h : GoodC' c) : c.ins.map (litI (cNet c).2) = (numC c).ins := by
  show _ = evenL 0 c.ins.length
  apply List.ext_getElem?
  intro k
  by_cases hk : k < c.ins.length
  · obtain ⟨x, hx⟩ := getI c.ins hk
    rw [List.getElem?_map, hx, evenL_get 0 _ hk, Nat.zero_add]
    show some (litI _ x) = _
    rw [net_own h (seq_in hx)]
  · rw [List.getElem?_eq_none (by rw [List.length_map]; omega), List.getElem?_eq_none (by rw [evenL_len]; omega)]
end Go.Proofs.Ythpnahapiodflaa
namespace Go.Proofs.Ythpnahapiodflaa
open Go Go.Lt Go.RowKit
set_option linter.unusedVariables false
set_option linter.unusedSimpArgs false
set_option maxRecDepth 20000

abbrev CirT.roots (c : CirT) : List Int := c.outs ++ c.bads ++ c.cons ++ c.lat.map (·.2.1)
/-- A variable is needed. -/
inductive NeedC (c : CirT) : Int → Prop
  | root {l : Int} (h : l ∈ c.roots) : NeedC c (l / 2)
  | left {g : T3} (h : g ∈ c.gates) (k : NeedC c (g.1 / 2)) : NeedC c (g.2.1 / 2)
  | right {g : T3} (h : g ∈ c.gates) (k : NeedC c (g.1 / 2)) : NeedC c (g.2.2 / 2)
noncomputable def keepG (c : CirT) (g : T3) : Bool := dec (NeedC c (g.1 / 2))
theorem keepG_iff {c : CirT} {g : T3} : keepG c g = true ↔ NeedC c (g.1 / 2) := dec_iff
noncomputable def trimC (c : CirT) : CirT := ⟨c.max, c.ins, c.lat, c.outs, c.bads, c.cons, c.gates.filter (keepG c), c.syms, c.com⟩
end Go.Proofs.Ythpnahapiodflaa
namespace Go.Proofs.Ythpnahapiodflaa
open Go Go.Lt Go.RowKit
set_option linter.unusedVariables false
set_option linter.unusedSimpArgs false
set_option maxRecDepth 20000

theorem few_sz2 {c : CirT} {m : Int} (h : FewC c m) (hm : m ≤ 100000) : SzC c 100000 ∧ c.syms.length ≤ 100000 := by
  obtain ⟨h1, h2, h3, h4, h5, h6, h7, _⟩ := few_iff.1 h
  exact ⟨⟨by omega, by omega, by omega, by omega, by omega, by omega⟩, by omega⟩
end Go.Proofs.Ythpnahapiodflaa
namespace Go.Proofs.Ythpnahapiodflaa
open Go Go.Lt Go.RowKit
set_option linter.unusedVariables false
set_option linter.unusedSimpArgs false
set_option maxRecDepth 20000

theorem factLt : FactEq Try.prog 69 := ⟨by kernel_rfl, by kernel_rfl⟩
theorem factGt : FactEq Try.prog 106 := ⟨by kernel_rfl, by kernel_rfl⟩
theorem factSy : FactEq Try.prog 110 := ⟨by kernel_rfl, by kernel_rfl⟩
theorem enc3_inj {x y : T3} (h : enc3 x = enc3 y) : x = y := by
  obtain ⟨a, b, c⟩ := x
  obtain ⟨d, e, f⟩ := y
  simp only [enc3, List.cons.injEq, Value.int.injEq, true_and, and_true] at h
  obtain ⟨rfl, rfl, rfl⟩ := h
  rfl
theorem encY_inj {x y : Sy} (h : encY x = encY y) : x = y := by
  obtain ⟨a, b, c⟩ := x
  obtain ⟨d, e, f⟩ := y
  simp only [encY, List.cons.injEq, Value.int.injEq, Value.string.injEq, true_and, and_true] at h
  obtain ⟨rfl, rfl, rfl⟩ := h
  rfl
theorem ne_iff {α : Type} {enc : α → List Value} (inj : ∀ {x y}, enc x = enc y → x = y) {x y : α} (h : ¬ x = y) : enc x ≠ enc y := fun he => h (inj he)
theorem clone_L (a : Option Addr) (cap : Nat) (l : List T3) (w : World) (R : Row 3 enc3 w a l) (hna : a = none → cap = 0) (hl : l.length ≤ 1048576) :
    Lt.Spec Try.prog 140 [.slice a l.length cap] w (IsFresh 3 enc3 69 w l) := by
  by_cases ha : a = none
  · subst ha
    have hl0 : l = [] := by
      cases l with
      | nil => rfl
      | cons x r => obtain ⟨b, off, h1, _⟩ := R.elem 0 x rfl; cases h1
    subst hl0
    refine Spec.of _ Try.func140 rfl Try.ntmps140 (by kernel_rfl) rfl ?_
    repeat' (first
      | (apply WL.eqSl tOk; exact rfl; exact rfl; exact rfl; exact rfl; exact rfl; exact rfl)
      | (apply W.condKT; exact rfl; (focus (exact dec_true rfl; done)))
      | (show WL _ _ _ _ _ _ _; first | apply WL.nil | (refine WL.au (k := ?_)))
      | (show Z _ _ _ _ _; first | apply Z.then_normal | apply Z.then_ret)
      | (show W _ _ _ _ _ _; first | apply W.seq | apply W.region | apply W.ret))
    exact Z.body1 Try.results140 rfl fun m => ⟨(Ext.refl _).at m, none, 0, rfl, Own.nil⟩
  · refine Spec.of _ Try.func140 rfl Try.ntmps140 (by kernel_rfl) rfl ?_
    repeat' (first
      | (apply WL.eqSl tOk; exact rfl; exact rfl; exact rfl; exact rfl; exact rfl; exact rfl)
      | (apply W.condKF; exact rfl; (focus (exact dec_false ha; done)))
      | (apply WL.lit (len := 0) tOk; exact rfl; exact rfl; exact rfl; exact rfl; exact rfl; exact rfl; (first | exact rfl | kernel_rfl | (simp [Instr.fill, catCells]; done)); exact rfl; intro gb w' hb hge hc hx; have hO0 := Own.of_block0 (enc := enc3) (s := 3) hb hge)
      | (apply WL.appendS tOk enc3_ok; exact rfl; exact rfl; exact rfl; exact rfl; exact rfl; exact rfl; exact rfl; exact rfl; exact rfl; exact rfl; assumption; (exact extA); (first | exact rfl | (focus (simp only [List.length_set]; done)) | (focus (simp; done)) | (focus (simp [*]; done)) | omega | (focus (simp only [List.length_set]; omega))); assumption; (exact extA); (first | exact rfl | (focus (simp only [List.length_set]; done)) | (focus (simp; done)) | (focus (simp [*]; done)) | omega | (focus (simp only [List.length_set]; omega))); (first | assumption | (intro h; cases h) | exact Own.noneCap (by assumption)); exact rfl; (exact extA); (first | omega | (simp; omega) | (simp at *; omega)); intro a' cap' w' hO hX' hU hF)
      | (show WL _ _ _ _ _ _ _; first | apply WL.nil | (refine WL.au (k := ?_)))
      | (show Z _ _ _ _ _; apply Z.then_normal)
      | (show W _ _ _ _ _ _; first | apply W.seq | apply W.region | apply W.skip | apply W.ret))
    exact Z.body1 Try.results140 rfl fun m => ⟨Ext.at (by (exact extA)) m, a', cap', by rw [List.nil_append], by rw [List.nil_append] at hO; exact hO⟩
theorem clone_G (a : Option Addr) (cap : Nat) (l : List T3) (w : World) (R : Row 3 enc3 w a l) (hna : a = none → cap = 0) (hl : l.length ≤ 1048576) :
    Lt.Spec Try.prog 141 [.slice a l.length cap] w (IsFresh 3 enc3 106 w l) := by
  by_cases ha : a = none
  · subst ha
    have hl0 : l = [] := by
      cases l with
      | nil => rfl
      | cons x r => obtain ⟨b, off, h1, _⟩ := R.elem 0 x rfl; cases h1
    subst hl0
    refine Spec.of _ Try.func141 rfl Try.ntmps141 (by kernel_rfl) rfl ?_
    repeat' (first
      | (apply WL.eqSl tOk; exact rfl; exact rfl; exact rfl; exact rfl; exact rfl; exact rfl)
      | (apply W.condKT; exact rfl; (focus (exact dec_true rfl; done)))
      | (show WL _ _ _ _ _ _ _; first | apply WL.nil | (refine WL.au (k := ?_)))
      | (show Z _ _ _ _ _; first | apply Z.then_normal | apply Z.then_ret)
      | (show W _ _ _ _ _ _; first | apply W.seq | apply W.region | apply W.ret))
    exact Z.body1 Try.results141 rfl fun m => ⟨(Ext.refl _).at m, none, 0, rfl, Own.nil⟩
  · refine Spec.of _ Try.func141 rfl Try.ntmps141 (by kernel_rfl) rfl ?_
    repeat' (first
      | (apply WL.eqSl tOk; exact rfl; exact rfl; exact rfl; exact rfl; exact rfl; exact rfl)
      | (apply W.condKF; exact rfl; (focus (exact dec_false ha; done)))
      | (apply WL.lit (len := 0) tOk; exact rfl; exact rfl; exact rfl; exact rfl; exact rfl; exact rfl; (first | exact rfl | kernel_rfl | (simp [Instr.fill, catCells]; done)); exact rfl; intro gb w' hb hge hc hx; have hO0 := Own.of_block0 (enc := enc3) (s := 3) hb hge)
      | (apply WL.appendS tOk enc3_ok; exact rfl; exact rfl; exact rfl; exact rfl; exact rfl; exact rfl; exact rfl; exact rfl; exact rfl; exact rfl; assumption; (exact extA); (first | exact rfl | (focus (simp only [List.length_set]; done)) | (focus (simp; done)) | (focus (simp [*]; done)) | omega | (focus (simp only [List.length_set]; omega))); assumption; (exact extA); (first | exact rfl | (focus (simp only [List.length_set]; done)) | (focus (simp; done)) | (focus (simp [*]; done)) | omega | (focus (simp only [List.length_set]; omega))); (first | assumption | (intro h; cases h) | exact Own.noneCap (by assumption)); exact rfl; (exact extA); (first | omega | (simp; omega) | (simp at *; omega)); intro a' cap' w' hO hX' hU hF)
      | (show WL _ _ _ _ _ _ _; first | apply WL.nil | (refine WL.au (k := ?_)))
      | (show Z _ _ _ _ _; apply Z.then_normal)
      | (show W _ _ _ _ _ _; first | apply W.seq | apply W.region | apply W.skip | apply W.ret))
    exact Z.body1 Try.results141 rfl fun m => ⟨Ext.at (by (exact extA)) m, a', cap', by rw [List.nil_append], by rw [List.nil_append] at hO; exact hO⟩
theorem clone_Y (a : Option Addr) (cap : Nat) (l : List Sy) (w : World) (R : Row 3 encY w a l) (hna : a = none → cap = 0) (hl : l.length ≤ 1048576) :
    Lt.Spec Try.prog 142 [.slice a l.length cap] w (IsFresh 3 encY 110 w l) := by
  by_cases ha : a = none
  · subst ha
    have hl0 : l = [] := by
      cases l with
      | nil => rfl
      | cons x r => obtain ⟨b, off, h1, _⟩ := R.elem 0 x rfl; cases h1
    subst hl0
    refine Spec.of _ Try.func142 rfl Try.ntmps142 (by kernel_rfl) rfl ?_
    repeat' (first
      | (apply WL.eqSl tOk; exact rfl; exact rfl; exact rfl; exact rfl; exact rfl; exact rfl)
      | (apply W.condKT; exact rfl; (focus (exact dec_true rfl; done)))
      | (show WL _ _ _ _ _ _ _; first | apply WL.nil | (refine WL.au (k := ?_)))
      | (show Z _ _ _ _ _; first | apply Z.then_normal | apply Z.then_ret)
      | (show W _ _ _ _ _ _; first | apply W.seq | apply W.region | apply W.ret))
    exact Z.body1 Try.results142 rfl fun m => ⟨(Ext.refl _).at m, none, 0, rfl, Own.nil⟩
  · refine Spec.of _ Try.func142 rfl Try.ntmps142 (by kernel_rfl) rfl ?_
    repeat' (first
      | (apply WL.eqSl tOk; exact rfl; exact rfl; exact rfl; exact rfl; exact rfl; exact rfl)
      | (apply W.condKF; exact rfl; (focus (exact dec_false ha; done)))
      | (apply WL.lit (len := 0) tOk; exact rfl; exact rfl; exact rfl; exact rfl; exact rfl; exact rfl; (first | exact rfl | kernel_rfl | (simp [Instr.fill, catCells]; done)); exact rfl; intro gb w' hb hge hc hx; have hO0 := Own.of_block0 (enc := encY) (s := 3) hb hge)
      | (apply WL.appendS tOk encY_ok; exact rfl; exact rfl; exact rfl; exact rfl; exact rfl; exact rfl; exact rfl; exact rfl; exact rfl; exact rfl; assumption; (exact extA); (first | exact rfl | (focus (simp only [List.length_set]; done)) | (focus (simp; done)) | (focus (simp [*]; done)) | omega | (focus (simp only [List.length_set]; omega))); assumption; (exact extA); (first | exact rfl | (focus (simp only [List.length_set]; done)) | (focus (simp; done)) | (focus (simp [*]; done)) | omega | (focus (simp only [List.length_set]; omega))); (first | assumption | (intro h; cases h) | exact Own.noneCap (by assumption)); exact rfl; (exact extA); (first | omega | (simp; omega) | (simp at *; omega)); intro a' cap' w' hO hX' hU hF)
      | (show WL _ _ _ _ _ _ _; first | apply WL.nil | (refine WL.au (k := ?_)))
      | (show Z _ _ _ _ _; apply Z.then_normal)
      | (show W _ _ _ _ _ _; first | apply W.seq | apply W.region | apply W.skip | apply W.ret))
    exact Z.body1 Try.results142 rfl fun m => ⟨Ext.at (by (exact extA)) m, a', cap', by rw [List.nil_append], by rw [List.nil_append] at hO; exact hO⟩
end Go.Proofs.Ythpnahapiodflaa
namespace Go.Lt
open Go.RowKit
set_option linter.unusedVariables false
set_option linter.unusedSimpArgs false
section
variable {P : Program} {T : Tab} {e : Env} {dd : Option Tmp} {tt ty t : TypeId} {x y : Operand} {ps : String} {af : Array Edge} {g : Option (Nat × Bool)} {i : TI} {u v : ByteArray}
theorem loop_eq (u : ByteArray) : ∀ (n i : Nat) (r : List UInt8), u.size - i = n → ByteArray.toList.loop u i r = r.reverse ++ u.data.toList.drop i := by
  intro n
  induction n with
  | zero =>
    intro i r h
    unfold ByteArray.toList.loop
    rw [if_neg (by omega), List.drop_eq_nil_of_le (by show u.data.size ≤ i; have : u.size = u.data.size := rfl; omega), List.append_nil]
  | succ n ih =>
    intro i r h
    unfold ByteArray.toList.loop
    have hi : i < u.data.toList.length := by show i < u.data.size; have : u.size = u.data.size := rfl; omega
    rw [if_pos (by omega), ih (i + 1) _ (by omega), List.reverse_cons, List.append_assoc, List.drop_eq_getElem_cons hi]
    congr 1
    rw [List.singleton_append]
    congr 1
    show u.data[i]! = u.data.toList[i]
    have hi2 : i < u.data.size := hi
    rw [getElem!_pos u.data i hi2]; rfl
theorem bytesL (u : ByteArray) : u.toList = u.data.toList := by
  unfold ByteArray.toList
  rw [loop_eq u u.size 0 [] rfl]; rfl
theorem bytesL_inj {u v : ByteArray} (h : u.toList = v.toList) : u = v := by
  rw [bytesL, bytesL] at h
  exact ByteArray.ext (Array.ext' h)
theorem yneStr (hT : OkTab P T) (hx : ev e x = some (.string u)) (hy : ev e y = some (.string v)) (ht : tget T t = some i) (hd : i.desc = .string) : Yields P e ⟨dd, .binOp .neq t x y ty, tt, ps, af, g⟩ (.bool (dec (u ≠ v))) := by
  intro ρ hρ w
  have h1 : (eqGuard .neq t x y (.string u) (.string v)).run P w = .ok () w := by simp [eqGuard]
  have h3 : (!dec (u = v)) = dec (u ≠ v) := by
    by_cases hh : u = v
    · rw [dec_true hh, dec_false (fun h => h hh)]; rfl
    · rw [dec_false hh, dec_true hh]; rfl
  have h2 : (binOp .neq t (.string u) (.string v)).run P w = .ok (.bool (dec (u ≠ v))) w := by
    by_cases h : u = v
    · subst h; rw [dec_false (fun h => h rfl)]; simp [binOp, Op.stringOp]
    · rw [dec_true h]; have hh : ¬ u.toList = v.toList := fun q => h (bytesL_inj q); simp [binOp, Op.stringOp, hh]
  simp [execOp, hρ _ _ hx, hρ _ _ hy, h1, h2]
variable {N d : Nat} {w : World} {Q : Exit → Act → World → Prop} {C : World → Prop} {ops l : List Oper}
theorem WL.neStr (hT : OkTab P T) (hg : gate ops e g = some true) (hd : Nat.blt d N = true) (hx : ev e x = some (.string u)) (hy : ev e y = some (.string v)) (ht : tget T t = some i) (htd : i.desc = .string) (k : WL P N ops.toArray l ((d, .bool (dec (u ≠ v))) :: e) w Q) : WL P N ops.toArray (⟨some d, .binOp .neq t x y ty, tt, ps, af, g⟩ :: l) e w Q := WL.step hg hd (yneStr hT hx hy ht htd).in k
theorem QL.neStr (hT : OkTab P T) (hg : gate ops e g = some true) (hd : Nat.blt d N = true) (hx : ev e x = some (.string u)) (hy : ev e y = some (.string v)) (ht : tget T t = some i) (htd : i.desc = .string) (k : QL P N C ops.toArray l ((d, .bool (dec (u ≠ v))) :: e) Q) : QL P N C ops.toArray (⟨some d, .binOp .neq t x y ty, tt, ps, af, g⟩ :: l) e Q := QL.step hg hd (yneStr hT hx hy ht htd).in k
end
end Go.Lt
namespace Go.Proofs.Ythpnahapiodflaa
open Go Go.Lt Go.RowKit
set_option linter.unusedVariables false
set_option linter.unusedSimpArgs false
set_option maxRecDepth 20000

set_option maxHeartbeats 32000000 in
theorem ref11_Same (a b : Circ) (w : World) (hCa : CAt w a) (hCb : CAt w b) : Pure Try.prog 32 [a.val, b.val] w (.bool (dec (a.t = b.t))) := by
  by_cases e0 : a.max = b.max
  rotate_left
  · skip
    refine Spec.of _ Try.func32 rfl Try.ntmps32 (by kernel_rfl) rfl ?_
    repeat' (first
      | (apply WL.box; exact rfl; exact rfl; exact rfl; intro gb w' hb hge hc hx; have hcc := hc; (first | (obtain ⟨h1, h2, h3, _⟩ := hc) | (obtain ⟨h1, h2, _⟩ := hc)); (first | (have h_0 := xA0; clear h_0; have hB := hcc; obtain ⟨xB0, xB1, xB2, xB3, xB4, xB5, xB6, xB7, xB8, _⟩ := hcc; (obtain ⟨gB, rfl⟩ : ∃ x, x = gb := ⟨_, rfl⟩; obtain ⟨wB, rfl⟩ : ∃ x, x = w' := ⟨_, rfl⟩; obtain ⟨hxB, rfl⟩ : ∃ x, x = hx := ⟨_, rfl⟩)) | (have hA := hcc; obtain ⟨xA0, xA1, xA2, xA3, xA4, xA5, xA6, xA7, xA8, _⟩ := hcc; (obtain ⟨gA, rfl⟩ : ∃ x, x = gb := ⟨_, rfl⟩; obtain ⟨wA, rfl⟩ : ∃ x, x = w' := ⟨_, rfl⟩; obtain ⟨hxA, rfl⟩ : ∃ x, x = hx := ⟨_, rfl⟩))))
      | (apply WL.gT; exact rfl; exact rfl; (focus (first | exact dec_true e0; done)))
      | (show WL _ _ _ _ _ _ _; first | apply WL.nil | (refine WL.au (k := ?_)) | (apply WL.guardF; exact rfl; exact rfl))
      | (show Z _ _ _ _ _; first | apply Z.then_normal | apply Z.then_ret)
      | (show W _ _ _ _ _ _; first | apply W.seq | apply W.region | apply W.ret | (apply W.condT; exact rfl)))
    exact Z.body1 Try.results32 rfl fun m => ⟨congrArg Value.bool (dec_false (show ¬ a.t = b.t from fun h => e0 (congrArg CirT.max h))).symm, Ext.at (by (exact extA)) m⟩
  by_cases e1 : a.com = b.com
  rotate_left
  · skip
    refine Spec.of _ Try.func32 rfl Try.ntmps32 (by kernel_rfl) rfl ?_
    repeat' (first
      | (apply WL.box; exact rfl; exact rfl; exact rfl; intro gb w' hb hge hc hx; have hcc := hc; (first | (obtain ⟨h1, h2, h3, _⟩ := hc) | (obtain ⟨h1, h2, _⟩ := hc)); (first | (have h_0 := xA0; clear h_0; have hB := hcc; obtain ⟨xB0, xB1, xB2, xB3, xB4, xB5, xB6, xB7, xB8, _⟩ := hcc; (obtain ⟨gB, rfl⟩ : ∃ x, x = gb := ⟨_, rfl⟩; obtain ⟨wB, rfl⟩ : ∃ x, x = w' := ⟨_, rfl⟩; obtain ⟨hxB, rfl⟩ : ∃ x, x = hx := ⟨_, rfl⟩)) | (have hA := hcc; obtain ⟨xA0, xA1, xA2, xA3, xA4, xA5, xA6, xA7, xA8, _⟩ := hcc; (obtain ⟨gA, rfl⟩ : ∃ x, x = gb := ⟨_, rfl⟩; obtain ⟨wA, rfl⟩ : ∃ x, x = w' := ⟨_, rfl⟩; obtain ⟨hxA, rfl⟩ : ∃ x, x = hx := ⟨_, rfl⟩))))
      | (apply WL.neStr tOk; exact rfl; exact rfl; exact rfl; exact rfl; exact rfl; exact rfl)
      | (apply WL.gT; exact rfl; exact rfl; (focus (first | exact dec_false (fun h => h e0) | exact dec_true e1; done)))
      | (apply WL.gF; exact rfl; exact rfl; (focus (first | exact dec_false (fun h => h e0) | exact dec_true e1; done)))
      | (show WL _ _ _ _ _ _ _; first | apply WL.nil | (refine WL.au (k := ?_)) | (apply WL.guardF; exact rfl; exact rfl))
      | (show Z _ _ _ _ _; first | apply Z.then_normal | apply Z.then_ret)
      | (show W _ _ _ _ _ _; first | apply W.seq | apply W.region | apply W.ret | (apply W.condT; exact rfl)))
    exact Z.body1 Try.results32 rfl fun m => ⟨congrArg Value.bool (dec_false (show ¬ a.t = b.t from fun h => e1 (congrArg CirT.com h))).symm, Ext.at (by (exact extA)) m⟩
  by_cases e2 : a.ins.2.2 = b.ins.2.2
  rotate_left
  · skip
    refine Spec.of _ Try.func32 rfl Try.ntmps32 (by kernel_rfl) rfl ?_
    repeat' (first
      | (apply WL.box; exact rfl; exact rfl; exact rfl; intro gb w' hb hge hc hx; have hcc := hc; (first | (obtain ⟨h1, h2, h3, _⟩ := hc) | (obtain ⟨h1, h2, _⟩ := hc)); (first | (have h_0 := xA0; clear h_0; have hB := hcc; obtain ⟨xB0, xB1, xB2, xB3, xB4, xB5, xB6, xB7, xB8, _⟩ := hcc; (obtain ⟨gB, rfl⟩ : ∃ x, x = gb := ⟨_, rfl⟩; obtain ⟨wB, rfl⟩ : ∃ x, x = w' := ⟨_, rfl⟩; obtain ⟨hxB, rfl⟩ : ∃ x, x = hx := ⟨_, rfl⟩)) | (have hA := hcc; obtain ⟨xA0, xA1, xA2, xA3, xA4, xA5, xA6, xA7, xA8, _⟩ := hcc; (obtain ⟨gA, rfl⟩ : ∃ x, x = gb := ⟨_, rfl⟩; obtain ⟨wA, rfl⟩ : ∃ x, x = w' := ⟨_, rfl⟩; obtain ⟨hxA, rfl⟩ : ∃ x, x = hx := ⟨_, rfl⟩))))
      | (apply WL.neStr tOk; exact rfl; exact rfl; exact rfl; exact rfl; exact rfl; exact rfl)
      | (apply WL.gT; exact rfl; exact rfl; (focus (first | exact dec_false (fun h => h e0) | exact dec_false (fun h => h e1) | (rw [dec_false e2]; rfl); done)))
      | (apply WL.gF; exact rfl; exact rfl; (focus (first | exact dec_false (fun h => h e0) | exact dec_false (fun h => h e1) | (rw [dec_false e2]; rfl); done)))
      | ((show WL _ _ _ (⟨_, .call ⟨.value (.func 33), _, _⟩, _, _, _, _⟩ :: _) _ _ _); apply WL.callS; exact rfl; exact rfl; exact rfl; exact rfl; exact ref_Ints _ _ _ _ _ _ _ (hCa.ins.row.ext (by (exact extA))) (hCb.ins.row.ext (by (exact extA))))
      | (show WL _ _ _ _ _ _ _; first | apply WL.nil | (refine WL.au (k := ?_)) | (apply WL.guardF; exact rfl; exact rfl))
      | (show Z _ _ _ _ _; first | apply Z.then_normal | apply Z.then_ret)
      | (show W _ _ _ _ _ _; first | apply W.seq | apply W.region | apply W.ret | (apply W.condT; exact rfl)))
    exact Z.body1 Try.results32 rfl fun m => ⟨congrArg Value.bool (dec_false (show ¬ a.t = b.t from fun h => e2 (congrArg CirT.ins h))).symm, Ext.at (by (exact extA)) m⟩
  by_cases e3 : a.outs.2.2 = b.outs.2.2
  rotate_left
  · skip
    refine Spec.of _ Try.func32 rfl Try.ntmps32 (by kernel_rfl) rfl ?_
    repeat' (first
      | (apply WL.box; exact rfl; exact rfl; exact rfl; intro gb w' hb hge hc hx; have hcc := hc; (first | (obtain ⟨h1, h2, h3, _⟩ := hc) | (obtain ⟨h1, h2, _⟩ := hc)); (first | (have h_0 := xA0; clear h_0; have hB := hcc; obtain ⟨xB0, xB1, xB2, xB3, xB4, xB5, xB6, xB7, xB8, _⟩ := hcc; (obtain ⟨gB, rfl⟩ : ∃ x, x = gb := ⟨_, rfl⟩; obtain ⟨wB, rfl⟩ : ∃ x, x = w' := ⟨_, rfl⟩; obtain ⟨hxB, rfl⟩ : ∃ x, x = hx := ⟨_, rfl⟩)) | (have hA := hcc; obtain ⟨xA0, xA1, xA2, xA3, xA4, xA5, xA6, xA7, xA8, _⟩ := hcc; (obtain ⟨gA, rfl⟩ : ∃ x, x = gb := ⟨_, rfl⟩; obtain ⟨wA, rfl⟩ : ∃ x, x = w' := ⟨_, rfl⟩; obtain ⟨hxA, rfl⟩ : ∃ x, x = hx := ⟨_, rfl⟩))))
      | (apply WL.neStr tOk; exact rfl; exact rfl; exact rfl; exact rfl; exact rfl; exact rfl)
      | (apply WL.gT; exact rfl; exact rfl; (focus (first | exact dec_false (fun h => h e0) | exact dec_false (fun h => h e1) | (rw [dec_true e2]; rfl) | (rw [dec_false e3]; rfl); done)))
      | (apply WL.gF; exact rfl; exact rfl; (focus (first | exact dec_false (fun h => h e0) | exact dec_false (fun h => h e1) | (rw [dec_true e2]; rfl) | (rw [dec_false e3]; rfl); done)))
      | ((show WL _ _ _ (⟨_, .call ⟨.value (.func 33), _, _⟩, _, _, _, _⟩ :: _) _ _ _); apply WL.callS; exact rfl; exact rfl; exact rfl; exact rfl; exact ref_Ints _ _ _ _ _ _ _ (hCa.ins.row.ext (by (exact extA))) (hCb.ins.row.ext (by (exact extA))))
      | ((show WL _ _ _ (⟨_, .call ⟨.value (.func 33), _, _⟩, _, _, _, _⟩ :: _) _ _ _); apply WL.callS; exact rfl; exact rfl; exact rfl; exact rfl; exact ref_Ints _ _ _ _ _ _ _ (hCa.outs.row.ext (by (exact extA))) (hCb.outs.row.ext (by (exact extA))))
      | (show WL _ _ _ _ _ _ _; first | apply WL.nil | (refine WL.au (k := ?_)) | (apply WL.guardF; exact rfl; exact rfl))
      | (show Z _ _ _ _ _; first | apply Z.then_normal | apply Z.then_ret)
      | (show W _ _ _ _ _ _; first | apply W.seq | apply W.region | apply W.ret | (apply W.condT; exact rfl)))
    exact Z.body1 Try.results32 rfl fun m => ⟨congrArg Value.bool (dec_false (show ¬ a.t = b.t from fun h => e3 (congrArg CirT.outs h))).symm, Ext.at (by (exact extA)) m⟩
  by_cases e4 : a.bads.2.2 = b.bads.2.2
  rotate_left
  · skip
    refine Spec.of _ Try.func32 rfl Try.ntmps32 (by kernel_rfl) rfl ?_
    repeat' (first
      | (apply WL.box; exact rfl; exact rfl; exact rfl; intro gb w' hb hge hc hx; have hcc := hc; (first | (obtain ⟨h1, h2, h3, _⟩ := hc) | (obtain ⟨h1, h2, _⟩ := hc)); (first | (have h_0 := xA0; clear h_0; have hB := hcc; obtain ⟨xB0, xB1, xB2, xB3, xB4, xB5, xB6, xB7, xB8, _⟩ := hcc; (obtain ⟨gB, rfl⟩ : ∃ x, x = gb := ⟨_, rfl⟩; obtain ⟨wB, rfl⟩ : ∃ x, x = w' := ⟨_, rfl⟩; obtain ⟨hxB, rfl⟩ : ∃ x, x = hx := ⟨_, rfl⟩)) | (have hA := hcc; obtain ⟨xA0, xA1, xA2, xA3, xA4, xA5, xA6, xA7, xA8, _⟩ := hcc; (obtain ⟨gA, rfl⟩ : ∃ x, x = gb := ⟨_, rfl⟩; obtain ⟨wA, rfl⟩ : ∃ x, x = w' := ⟨_, rfl⟩; obtain ⟨hxA, rfl⟩ : ∃ x, x = hx := ⟨_, rfl⟩))))
      | (apply WL.neStr tOk; exact rfl; exact rfl; exact rfl; exact rfl; exact rfl; exact rfl)
      | (apply WL.gT; exact rfl; exact rfl; (focus (first | exact dec_false (fun h => h e0) | exact dec_false (fun h => h e1) | (rw [dec_true e2]; rfl) | (rw [dec_true e3]; rfl) | (rw [dec_false e4]; rfl); done)))
      | (apply WL.gF; exact rfl; exact rfl; (focus (first | exact dec_false (fun h => h e0) | exact dec_false (fun h => h e1) | (rw [dec_true e2]; rfl) | (rw [dec_true e3]; rfl) | (rw [dec_false e4]; rfl); done)))
      | ((show WL _ _ _ (⟨_, .call ⟨.value (.func 33), _, _⟩, _, _, _, _⟩ :: _) _ _ _); apply WL.callS; exact rfl; exact rfl; exact rfl; exact rfl; exact ref_Ints _ _ _ _ _ _ _ (hCa.ins.row.ext (by (exact extA))) (hCb.ins.row.ext (by (exact extA))))
      | ((show WL _ _ _ (⟨_, .call ⟨.value (.func 33), _, _⟩, _, _, _, _⟩ :: _) _ _ _); apply WL.callS; exact rfl; exact rfl; exact rfl; exact rfl; exact ref_Ints _ _ _ _ _ _ _ (hCa.outs.row.ext (by (exact extA))) (hCb.outs.row.ext (by (exact extA))))
      | ((show WL _ _ _ (⟨_, .call ⟨.value (.func 33), _, _⟩, _, _, _, _⟩ :: _) _ _ _); apply WL.callS; exact rfl; exact rfl; exact rfl; exact rfl; exact ref_Ints _ _ _ _ _ _ _ (hCa.bads.row.ext (by (exact extA))) (hCb.bads.row.ext (by (exact extA))))
      | (show WL _ _ _ _ _ _ _; first | apply WL.nil | (refine WL.au (k := ?_)) | (apply WL.guardF; exact rfl; exact rfl))
      | (show Z _ _ _ _ _; first | apply Z.then_normal | apply Z.then_ret)
      | (show W _ _ _ _ _ _; first | apply W.seq | apply W.region | apply W.ret | (apply W.condT; exact rfl)))
    exact Z.body1 Try.results32 rfl fun m => ⟨congrArg Value.bool (dec_false (show ¬ a.t = b.t from fun h => e4 (congrArg CirT.bads h))).symm, Ext.at (by (exact extA)) m⟩
  by_cases e5 : a.cons.2.2 = b.cons.2.2
  rotate_left
  · skip
    refine Spec.of _ Try.func32 rfl Try.ntmps32 (by kernel_rfl) rfl ?_
    repeat' (first
      | (apply WL.box; exact rfl; exact rfl; exact rfl; intro gb w' hb hge hc hx; have hcc := hc; (first | (obtain ⟨h1, h2, h3, _⟩ := hc) | (obtain ⟨h1, h2, _⟩ := hc)); (first | (have h_0 := xA0; clear h_0; have hB := hcc; obtain ⟨xB0, xB1, xB2, xB3, xB4, xB5, xB6, xB7, xB8, _⟩ := hcc; (obtain ⟨gB, rfl⟩ : ∃ x, x = gb := ⟨_, rfl⟩; obtain ⟨wB, rfl⟩ : ∃ x, x = w' := ⟨_, rfl⟩; obtain ⟨hxB, rfl⟩ : ∃ x, x = hx := ⟨_, rfl⟩)) | (have hA := hcc; obtain ⟨xA0, xA1, xA2, xA3, xA4, xA5, xA6, xA7, xA8, _⟩ := hcc; (obtain ⟨gA, rfl⟩ : ∃ x, x = gb := ⟨_, rfl⟩; obtain ⟨wA, rfl⟩ : ∃ x, x = w' := ⟨_, rfl⟩; obtain ⟨hxA, rfl⟩ : ∃ x, x = hx := ⟨_, rfl⟩))))
      | (apply WL.neStr tOk; exact rfl; exact rfl; exact rfl; exact rfl; exact rfl; exact rfl)
      | (apply WL.gF; exact rfl; exact rfl; (focus (first | exact dec_false (fun h => h e0) | exact dec_false (fun h => h e1) | (rw [dec_true e2]; rfl) | (rw [dec_true e3]; rfl) | (rw [dec_true e4]; rfl) | (rw [dec_false e5]; rfl); done)))
      | (apply W.condKT; exact rfl; (focus (first | exact dec_false (fun h => h e0) | exact dec_false (fun h => h e1) | (rw [dec_true e2]; rfl) | (rw [dec_true e3]; rfl) | (rw [dec_true e4]; rfl) | (rw [dec_false e5]; rfl); done)))
      | ((show WL _ _ _ (⟨_, .call ⟨.value (.func 33), _, _⟩, _, _, _, _⟩ :: _) _ _ _); apply WL.callS; exact rfl; exact rfl; exact rfl; exact rfl; exact ref_Ints _ _ _ _ _ _ _ (hCa.ins.row.ext (by (exact extA))) (hCb.ins.row.ext (by (exact extA))))
      | ((show WL _ _ _ (⟨_, .call ⟨.value (.func 33), _, _⟩, _, _, _, _⟩ :: _) _ _ _); apply WL.callS; exact rfl; exact rfl; exact rfl; exact rfl; exact ref_Ints _ _ _ _ _ _ _ (hCa.outs.row.ext (by (exact extA))) (hCb.outs.row.ext (by (exact extA))))
      | ((show WL _ _ _ (⟨_, .call ⟨.value (.func 33), _, _⟩, _, _, _, _⟩ :: _) _ _ _); apply WL.callS; exact rfl; exact rfl; exact rfl; exact rfl; exact ref_Ints _ _ _ _ _ _ _ (hCa.bads.row.ext (by (exact extA))) (hCb.bads.row.ext (by (exact extA))))
      | ((show WL _ _ _ (⟨_, .call ⟨.value (.func 33), _, _⟩, _, _, _, _⟩ :: _) _ _ _); apply WL.callS; exact rfl; exact rfl; exact rfl; exact rfl; exact ref_Ints _ _ _ _ _ _ _ (hCa.cons.row.ext (by (exact extA))) (hCb.cons.row.ext (by (exact extA))))
      | (show WL _ _ _ _ _ _ _; first | apply WL.nil | (refine WL.au (k := ?_)))
      | (show Z _ _ _ _ _; first | apply Z.then_normal | apply Z.then_ret)
      | (show W _ _ _ _ _ _; first | apply W.seq | apply W.region | apply W.ret))
    exact Z.body1 Try.results32 rfl fun m => ⟨congrArg Value.bool (dec_false (show ¬ a.t = b.t from fun h => e5 (congrArg CirT.cons h))).symm, Ext.at (by (exact extA)) m⟩
  by_cases l0 : a.lat.2.2.length = b.lat.2.2.length
  rotate_left
  · skip
    refine Spec.of _ Try.func32 rfl Try.ntmps32 (by kernel_rfl) rfl ?_
    repeat' (first
      | (apply WL.box; exact rfl; exact rfl; exact rfl; intro gb w' hb hge hc hx; have hcc := hc; (first | (obtain ⟨h1, h2, h3, _⟩ := hc) | (obtain ⟨h1, h2, _⟩ := hc)); (first | (have h_0 := xA0; clear h_0; have hB := hcc; obtain ⟨xB0, xB1, xB2, xB3, xB4, xB5, xB6, xB7, xB8, _⟩ := hcc; (obtain ⟨gB, rfl⟩ : ∃ x, x = gb := ⟨_, rfl⟩; obtain ⟨wB, rfl⟩ : ∃ x, x = w' := ⟨_, rfl⟩; obtain ⟨hxB, rfl⟩ : ∃ x, x = hx := ⟨_, rfl⟩)) | (have hA := hcc; obtain ⟨xA0, xA1, xA2, xA3, xA4, xA5, xA6, xA7, xA8, _⟩ := hcc; (obtain ⟨gA, rfl⟩ : ∃ x, x = gb := ⟨_, rfl⟩; obtain ⟨wA, rfl⟩ : ∃ x, x = w' := ⟨_, rfl⟩; obtain ⟨hxA, rfl⟩ : ∃ x, x = hx := ⟨_, rfl⟩))))
      | (apply WL.neStr tOk; exact rfl; exact rfl; exact rfl; exact rfl; exact rfl; exact rfl)
      | (apply WL.gT; exact rfl; exact rfl; (focus (first | exact dec_false (fun h => h e0) | exact dec_false (fun h => h e1) | (rw [dec_true e2]; rfl) | (rw [dec_true e3]; rfl) | (rw [dec_true e4]; rfl) | (rw [dec_true e5]; rfl) | exact dec_true (show ((a.lat.2.2.length : Nat) : Int) ≠ (b.lat.2.2.length : Nat) by omega); done)))
      | (apply WL.gF; exact rfl; exact rfl; (focus (first | exact dec_false (fun h => h e0) | exact dec_false (fun h => h e1) | (rw [dec_true e2]; rfl) | (rw [dec_true e3]; rfl) | (rw [dec_true e4]; rfl) | (rw [dec_true e5]; rfl) | exact dec_true (show ((a.lat.2.2.length : Nat) : Int) ≠ (b.lat.2.2.length : Nat) by omega); done)))
      | (apply W.condKF; exact rfl; (focus (first | exact dec_false (fun h => h e0) | exact dec_false (fun h => h e1) | (rw [dec_true e2]; rfl) | (rw [dec_true e3]; rfl) | (rw [dec_true e4]; rfl) | (rw [dec_true e5]; rfl) | exact dec_true (show ((a.lat.2.2.length : Nat) : Int) ≠ (b.lat.2.2.length : Nat) by omega); done)))
      | ((show WL _ _ _ (⟨_, .call ⟨.value (.func 33), _, _⟩, _, _, _, _⟩ :: _) _ _ _); apply WL.callS; exact rfl; exact rfl; exact rfl; exact rfl; exact ref_Ints _ _ _ _ _ _ _ (hCa.ins.row.ext (by (exact extA))) (hCb.ins.row.ext (by (exact extA))))
      | ((show WL _ _ _ (⟨_, .call ⟨.value (.func 33), _, _⟩, _, _, _, _⟩ :: _) _ _ _); apply WL.callS; exact rfl; exact rfl; exact rfl; exact rfl; exact ref_Ints _ _ _ _ _ _ _ (hCa.outs.row.ext (by (exact extA))) (hCb.outs.row.ext (by (exact extA))))
      | ((show WL _ _ _ (⟨_, .call ⟨.value (.func 33), _, _⟩, _, _, _, _⟩ :: _) _ _ _); apply WL.callS; exact rfl; exact rfl; exact rfl; exact rfl; exact ref_Ints _ _ _ _ _ _ _ (hCa.bads.row.ext (by (exact extA))) (hCb.bads.row.ext (by (exact extA))))
      | ((show WL _ _ _ (⟨_, .call ⟨.value (.func 33), _, _⟩, _, _, _, _⟩ :: _) _ _ _); apply WL.callS; exact rfl; exact rfl; exact rfl; exact rfl; exact ref_Ints _ _ _ _ _ _ _ (hCa.cons.row.ext (by (exact extA))) (hCb.cons.row.ext (by (exact extA))))
      | (show WL _ _ _ _ _ _ _; first | apply WL.nil | (refine WL.au (k := ?_)) | (apply WL.guardF; exact rfl; exact rfl))
      | (show Z _ _ _ _ _; first | apply Z.then_normal | apply Z.then_ret)
      | (show W _ _ _ _ _ _; first | apply W.seq | apply W.region | apply W.skip | apply W.ret | (apply W.condT; exact rfl)))
    exact Z.body1 Try.results32 rfl fun m => ⟨congrArg Value.bool (dec_false (show ¬ a.t = b.t from fun h => l0 (congrArg (fun c : CirT => c.lat.length) h))).symm, Ext.at (by (exact extA)) m⟩
  by_cases l1 : a.gates.2.2.length = b.gates.2.2.length
  rotate_left
  · skip
    refine Spec.of _ Try.func32 rfl Try.ntmps32 (by kernel_rfl) rfl ?_
    repeat' (first
      | (apply WL.box; exact rfl; exact rfl; exact rfl; intro gb w' hb hge hc hx; have hcc := hc; (first | (obtain ⟨h1, h2, h3, _⟩ := hc) | (obtain ⟨h1, h2, _⟩ := hc)); (first | (have h_0 := xA0; clear h_0; have hB := hcc; obtain ⟨xB0, xB1, xB2, xB3, xB4, xB5, xB6, xB7, xB8, _⟩ := hcc; (obtain ⟨gB, rfl⟩ : ∃ x, x = gb := ⟨_, rfl⟩; obtain ⟨wB, rfl⟩ : ∃ x, x = w' := ⟨_, rfl⟩; obtain ⟨hxB, rfl⟩ : ∃ x, x = hx := ⟨_, rfl⟩)) | (have hA := hcc; obtain ⟨xA0, xA1, xA2, xA3, xA4, xA5, xA6, xA7, xA8, _⟩ := hcc; (obtain ⟨gA, rfl⟩ : ∃ x, x = gb := ⟨_, rfl⟩; obtain ⟨wA, rfl⟩ : ∃ x, x = w' := ⟨_, rfl⟩; obtain ⟨hxA, rfl⟩ : ∃ x, x = hx := ⟨_, rfl⟩))))
      | (apply WL.neStr tOk; exact rfl; exact rfl; exact rfl; exact rfl; exact rfl; exact rfl)
      | (apply WL.gT; exact rfl; exact rfl; (focus (first | exact dec_false (fun h => h e0) | exact dec_false (fun h => h e1) | (rw [dec_true e2]; rfl) | (rw [dec_true e3]; rfl) | (rw [dec_true e4]; rfl) | (rw [dec_true e5]; rfl) | exact dec_false (show ¬ ((a.lat.2.2.length : Nat) : Int) ≠ (b.lat.2.2.length : Nat) by omega) | exact dec_true (show ((a.gates.2.2.length : Nat) : Int) ≠ (b.gates.2.2.length : Nat) by omega); done)))
      | (apply WL.gF; exact rfl; exact rfl; (focus (first | exact dec_false (fun h => h e0) | exact dec_false (fun h => h e1) | (rw [dec_true e2]; rfl) | (rw [dec_true e3]; rfl) | (rw [dec_true e4]; rfl) | (rw [dec_true e5]; rfl) | exact dec_false (show ¬ ((a.lat.2.2.length : Nat) : Int) ≠ (b.lat.2.2.length : Nat) by omega) | exact dec_true (show ((a.gates.2.2.length : Nat) : Int) ≠ (b.gates.2.2.length : Nat) by omega); done)))
      | (apply W.condKF; exact rfl; (focus (first | exact dec_false (fun h => h e0) | exact dec_false (fun h => h e1) | (rw [dec_true e2]; rfl) | (rw [dec_true e3]; rfl) | (rw [dec_true e4]; rfl) | (rw [dec_true e5]; rfl) | exact dec_false (show ¬ ((a.lat.2.2.length : Nat) : Int) ≠ (b.lat.2.2.length : Nat) by omega) | exact dec_true (show ((a.gates.2.2.length : Nat) : Int) ≠ (b.gates.2.2.length : Nat) by omega); done)))
      | ((show WL _ _ _ (⟨_, .call ⟨.value (.func 33), _, _⟩, _, _, _, _⟩ :: _) _ _ _); apply WL.callS; exact rfl; exact rfl; exact rfl; exact rfl; exact ref_Ints _ _ _ _ _ _ _ (hCa.ins.row.ext (by (exact extA))) (hCb.ins.row.ext (by (exact extA))))
      | ((show WL _ _ _ (⟨_, .call ⟨.value (.func 33), _, _⟩, _, _, _, _⟩ :: _) _ _ _); apply WL.callS; exact rfl; exact rfl; exact rfl; exact rfl; exact ref_Ints _ _ _ _ _ _ _ (hCa.outs.row.ext (by (exact extA))) (hCb.outs.row.ext (by (exact extA))))
      | ((show WL _ _ _ (⟨_, .call ⟨.value (.func 33), _, _⟩, _, _, _, _⟩ :: _) _ _ _); apply WL.callS; exact rfl; exact rfl; exact rfl; exact rfl; exact ref_Ints _ _ _ _ _ _ _ (hCa.bads.row.ext (by (exact extA))) (hCb.bads.row.ext (by (exact extA))))
      | ((show WL _ _ _ (⟨_, .call ⟨.value (.func 33), _, _⟩, _, _, _, _⟩ :: _) _ _ _); apply WL.callS; exact rfl; exact rfl; exact rfl; exact rfl; exact ref_Ints _ _ _ _ _ _ _ (hCa.cons.row.ext (by (exact extA))) (hCb.cons.row.ext (by (exact extA))))
      | (show WL _ _ _ _ _ _ _; first | apply WL.nil | (refine WL.au (k := ?_)) | (apply WL.guardF; exact rfl; exact rfl))
      | (show Z _ _ _ _ _; first | apply Z.then_normal | apply Z.then_ret)
      | (show W _ _ _ _ _ _; first | apply W.seq | apply W.region | apply W.skip | apply W.ret | (apply W.condT; exact rfl)))
    exact Z.body1 Try.results32 rfl fun m => ⟨congrArg Value.bool (dec_false (show ¬ a.t = b.t from fun h => l1 (congrArg (fun c : CirT => c.gates.length) h))).symm, Ext.at (by (exact extA)) m⟩
  by_cases l2 : a.syms.2.2.length = b.syms.2.2.length
  rotate_left
  · skip
    refine Spec.of _ Try.func32 rfl Try.ntmps32 (by kernel_rfl) rfl ?_
    repeat' (first
      | (apply WL.box; exact rfl; exact rfl; exact rfl; intro gb w' hb hge hc hx; have hcc := hc; (first | (obtain ⟨h1, h2, h3, _⟩ := hc) | (obtain ⟨h1, h2, _⟩ := hc)); (first | (have h_0 := xA0; clear h_0; have hB := hcc; obtain ⟨xB0, xB1, xB2, xB3, xB4, xB5, xB6, xB7, xB8, _⟩ := hcc; (obtain ⟨gB, rfl⟩ : ∃ x, x = gb := ⟨_, rfl⟩; obtain ⟨wB, rfl⟩ : ∃ x, x = w' := ⟨_, rfl⟩; obtain ⟨hxB, rfl⟩ : ∃ x, x = hx := ⟨_, rfl⟩)) | (have hA := hcc; obtain ⟨xA0, xA1, xA2, xA3, xA4, xA5, xA6, xA7, xA8, _⟩ := hcc; (obtain ⟨gA, rfl⟩ : ∃ x, x = gb := ⟨_, rfl⟩; obtain ⟨wA, rfl⟩ : ∃ x, x = w' := ⟨_, rfl⟩; obtain ⟨hxA, rfl⟩ : ∃ x, x = hx := ⟨_, rfl⟩))))
      | (apply WL.neStr tOk; exact rfl; exact rfl; exact rfl; exact rfl; exact rfl; exact rfl)
      | (apply WL.gF; exact rfl; exact rfl; (focus (first | exact dec_false (fun h => h e0) | exact dec_false (fun h => h e1) | (rw [dec_true e2]; rfl) | (rw [dec_true e3]; rfl) | (rw [dec_true e4]; rfl) | (rw [dec_true e5]; rfl) | exact dec_false (show ¬ ((a.lat.2.2.length : Nat) : Int) ≠ (b.lat.2.2.length : Nat) by omega) | exact dec_false (show ¬ ((a.gates.2.2.length : Nat) : Int) ≠ (b.gates.2.2.length : Nat) by omega) | exact dec_true (show ((a.syms.2.2.length : Nat) : Int) ≠ (b.syms.2.2.length : Nat) by omega); done)))
      | (apply W.condKT; exact rfl; (focus (first | exact dec_false (fun h => h e0) | exact dec_false (fun h => h e1) | (rw [dec_true e2]; rfl) | (rw [dec_true e3]; rfl) | (rw [dec_true e4]; rfl) | (rw [dec_true e5]; rfl) | exact dec_false (show ¬ ((a.lat.2.2.length : Nat) : Int) ≠ (b.lat.2.2.length : Nat) by omega) | exact dec_false (show ¬ ((a.gates.2.2.length : Nat) : Int) ≠ (b.gates.2.2.length : Nat) by omega) | exact dec_true (show ((a.syms.2.2.length : Nat) : Int) ≠ (b.syms.2.2.length : Nat) by omega); done)))
      | (apply W.condKF; exact rfl; (focus (first | exact dec_false (fun h => h e0) | exact dec_false (fun h => h e1) | (rw [dec_true e2]; rfl) | (rw [dec_true e3]; rfl) | (rw [dec_true e4]; rfl) | (rw [dec_true e5]; rfl) | exact dec_false (show ¬ ((a.lat.2.2.length : Nat) : Int) ≠ (b.lat.2.2.length : Nat) by omega) | exact dec_false (show ¬ ((a.gates.2.2.length : Nat) : Int) ≠ (b.gates.2.2.length : Nat) by omega) | exact dec_true (show ((a.syms.2.2.length : Nat) : Int) ≠ (b.syms.2.2.length : Nat) by omega); done)))
      | ((show WL _ _ _ (⟨_, .call ⟨.value (.func 33), _, _⟩, _, _, _, _⟩ :: _) _ _ _); apply WL.callS; exact rfl; exact rfl; exact rfl; exact rfl; exact ref_Ints _ _ _ _ _ _ _ (hCa.ins.row.ext (by (exact extA))) (hCb.ins.row.ext (by (exact extA))))
      | ((show WL _ _ _ (⟨_, .call ⟨.value (.func 33), _, _⟩, _, _, _, _⟩ :: _) _ _ _); apply WL.callS; exact rfl; exact rfl; exact rfl; exact rfl; exact ref_Ints _ _ _ _ _ _ _ (hCa.outs.row.ext (by (exact extA))) (hCb.outs.row.ext (by (exact extA))))
      | ((show WL _ _ _ (⟨_, .call ⟨.value (.func 33), _, _⟩, _, _, _, _⟩ :: _) _ _ _); apply WL.callS; exact rfl; exact rfl; exact rfl; exact rfl; exact ref_Ints _ _ _ _ _ _ _ (hCa.bads.row.ext (by (exact extA))) (hCb.bads.row.ext (by (exact extA))))
      | ((show WL _ _ _ (⟨_, .call ⟨.value (.func 33), _, _⟩, _, _, _, _⟩ :: _) _ _ _); apply WL.callS; exact rfl; exact rfl; exact rfl; exact rfl; exact ref_Ints _ _ _ _ _ _ _ (hCa.cons.row.ext (by (exact extA))) (hCb.cons.row.ext (by (exact extA))))
      | (show WL _ _ _ _ _ _ _; first | apply WL.nil | (refine WL.au (k := ?_)))
      | (show Z _ _ _ _ _; first | apply Z.then_normal | apply Z.then_ret)
      | (show W _ _ _ _ _ _; first | apply W.seq | apply W.region | apply W.skip | apply W.ret))
    exact Z.body1 Try.results32 rfl fun m => ⟨congrArg Value.bool (dec_false (show ¬ a.t = b.t from fun h => l2 (congrArg (fun c : CirT => c.syms.length) h))).symm, Ext.at (by (exact extA)) m⟩
  refine Spec.of _ Try.func32 rfl Try.ntmps32 (by kernel_rfl) rfl ?_
  repeat' (first
    | (apply WL.box; exact rfl; exact rfl; exact rfl; intro gb w' hb hge hc hx; have hcc := hc; (first | (obtain ⟨h1, h2, h3, _⟩ := hc) | (obtain ⟨h1, h2, _⟩ := hc)); (first | (have h_0 := xA0; clear h_0; have hB := hcc; obtain ⟨xB0, xB1, xB2, xB3, xB4, xB5, xB6, xB7, xB8, _⟩ := hcc; (obtain ⟨gB, rfl⟩ : ∃ x, x = gb := ⟨_, rfl⟩; obtain ⟨wB, rfl⟩ : ∃ x, x = w' := ⟨_, rfl⟩; obtain ⟨hxB, rfl⟩ : ∃ x, x = hx := ⟨_, rfl⟩)) | (have hA := hcc; obtain ⟨xA0, xA1, xA2, xA3, xA4, xA5, xA6, xA7, xA8, _⟩ := hcc; (obtain ⟨gA, rfl⟩ : ∃ x, x = gb := ⟨_, rfl⟩; obtain ⟨wA, rfl⟩ : ∃ x, x = w' := ⟨_, rfl⟩; obtain ⟨hxA, rfl⟩ : ∃ x, x = hx := ⟨_, rfl⟩))))
    | (apply WL.neStr tOk; exact rfl; exact rfl; exact rfl; exact rfl; exact rfl; exact rfl)
    | (apply WL.gF; exact rfl; exact rfl; (focus (first | exact dec_false (fun h => h e0) | exact dec_false (fun h => h e1) | (rw [dec_true e2]; rfl) | (rw [dec_true e3]; rfl) | (rw [dec_true e4]; rfl) | (rw [dec_true e5]; rfl) | exact dec_false (show ¬ ((a.lat.2.2.length : Nat) : Int) ≠ (b.lat.2.2.length : Nat) by omega) | exact dec_false (show ¬ ((a.gates.2.2.length : Nat) : Int) ≠ (b.gates.2.2.length : Nat) by omega) | exact dec_false (show ¬ ((a.syms.2.2.length : Nat) : Int) ≠ (b.syms.2.2.length : Nat) by omega); done)))
    | (apply W.condKF; exact rfl; (focus (first | exact dec_false (fun h => h e0) | exact dec_false (fun h => h e1) | (rw [dec_true e2]; rfl) | (rw [dec_true e3]; rfl) | (rw [dec_true e4]; rfl) | (rw [dec_true e5]; rfl) | exact dec_false (show ¬ ((a.lat.2.2.length : Nat) : Int) ≠ (b.lat.2.2.length : Nat) by omega) | exact dec_false (show ¬ ((a.gates.2.2.length : Nat) : Int) ≠ (b.gates.2.2.length : Nat) by omega) | exact dec_false (show ¬ ((a.syms.2.2.length : Nat) : Int) ≠ (b.syms.2.2.length : Nat) by omega); done)))
    | ((show WL _ _ _ (⟨_, .call ⟨.value (.func 33), _, _⟩, _, _, _, _⟩ :: _) _ _ _); apply WL.callS; exact rfl; exact rfl; exact rfl; exact rfl; exact ref_Ints _ _ _ _ _ _ _ (hCa.ins.row.ext (by (exact extA))) (hCb.ins.row.ext (by (exact extA))))
    | ((show WL _ _ _ (⟨_, .call ⟨.value (.func 33), _, _⟩, _, _, _, _⟩ :: _) _ _ _); apply WL.callS; exact rfl; exact rfl; exact rfl; exact rfl; exact ref_Ints _ _ _ _ _ _ _ (hCa.outs.row.ext (by (exact extA))) (hCb.outs.row.ext (by (exact extA))))
    | ((show WL _ _ _ (⟨_, .call ⟨.value (.func 33), _, _⟩, _, _, _, _⟩ :: _) _ _ _); apply WL.callS; exact rfl; exact rfl; exact rfl; exact rfl; exact ref_Ints _ _ _ _ _ _ _ (hCa.bads.row.ext (by (exact extA))) (hCb.bads.row.ext (by (exact extA))))
    | ((show WL _ _ _ (⟨_, .call ⟨.value (.func 33), _, _⟩, _, _, _, _⟩ :: _) _ _ _); apply WL.callS; exact rfl; exact rfl; exact rfl; exact rfl; exact ref_Ints _ _ _ _ _ _ _ (hCa.cons.row.ext (by (exact extA))) (hCb.cons.row.ext (by (exact extA))))
    | (show WL _ _ _ _ _ _ _; first | apply WL.nil | (refine WL.au (k := ?_)))
    | (show Z _ _ _ _ _; apply Z.then_normal)
    | (show W _ _ _ _ _ _; first | apply W.seq | apply W.region | apply W.block | apply W.skip))
  have hX : Ext w wB := (by (exact extA))
  have hA' := hA.ext hxB
  have ka2 : wB.cell? ⟨gA, 0 + 1 + 1, none⟩ = some (rowVal a.lat) := hA'.2.2.1
  have ka6 : wB.cell? ⟨gA, 0 + 1 + 1 + 1 + 1 + 1 + 1, none⟩ = some (rowVal a.gates) := hA'.2.2.2.2.2.2.1
  have ka7 : wB.cell? ⟨gA, 0 + 1 + 1 + 1 + 1 + 1 + 1 + 1, none⟩ = some (rowVal a.syms) := hA'.2.2.2.2.2.2.2.1
  have Ra0 := hCa.lat.row.ext hX
  have Rb0 := hCb.lat.row.ext hX
  have hln0 := Ra0.len
  refine W.loop1 a.lat.2.2.length (fun k => k ≤ a.lat.2.2.length ∧ ∀ i, i < k → a.lat.2.2[i]? = b.lat.2.2[i]?) (fun k => [(2, .pointer (some ⟨gA, 0, none⟩)), (3, .pointer (some ⟨gB, 0, none⟩)), (5, .int .i64 k)]) ⟨by omega, fun i hi => by omega⟩ (fun k h => h.1) ⟨rfl, rfl, rfl, trivial⟩ ?_
  rintro k ⟨hk, heq⟩
  by_cases hlt : k < a.lat.2.2.length
  · obtain ⟨x, hx⟩ := getI a.lat.2.2 hlt
    obtain ⟨y, hy⟩ := getI b.lat.2.2 (show k < b.lat.2.2.length by omega)
    by_cases hxy : x = y
    · subst hxy
      repeat' (first
        | (apply W.condKT; exact rfl; (focus (first | exact dec_true (show ((k : Nat) : Int) < (a.lat.2.2.length : Int) by omega) | exact dec_false (fun h => h rfl); done)))
        | (apply W.condKF; exact rfl; (focus (first | exact dec_true (show ((k : Nat) : Int) < (a.lat.2.2.length : Int) by omega) | exact dec_false (fun h => h rfl); done)))
        | (apply QL.neqS tOk; exact rfl; exact rfl; exact rfl; exact rfl; exact rfl; exact rfl; exact rfl; exact factLt)
        | (show WL _ _ _ _ _ _ _; first | apply WL.nil | (refine WL.au (k := ?_)))
        | (show QL _ _ _ _ _ _ _; first | apply QL.nil | (refine QL.au (k := ?_)) | (apply QL.index tOk; exact rfl; exact rfl; exact rfl; exact rfl; exact rfl; exact rfl; exact rfl; exact rfl; assumption; (exact extA); exact rfl; omega; assumption; intro b off h; have hcc := h; first | (obtain ⟨h1, h2, h3, h4, h5, h6, _⟩ := h) | (obtain ⟨h1, h2, h3, _⟩ := h) | (obtain ⟨h1, h2, _⟩ := h) | (obtain ⟨h1, _⟩ := h)))
        | (show Z _ _ _ _ _; first | apply Z.then_normal | apply Z.block_normal)
        | (show W _ _ _ _ _ _; first | apply W.seq | apply W.region | apply W.block | apply W.skip | (apply W.regionD tMix; kernel_rfl)))
      exact Z.again1 ⟨by omega, eq_snoc heq hx hy rfl⟩ ⟨rfl, rfl, rfl, trivial⟩
    · repeat' (first
        | (apply W.condKT; exact rfl; (focus (first | exact dec_true (show ((k : Nat) : Int) < (a.lat.2.2.length : Int) by omega) | exact dec_true (ne_iff enc3_inj hxy); done)))
        | (apply QL.neqS tOk; exact rfl; exact rfl; exact rfl; exact rfl; exact rfl; exact rfl; exact rfl; exact factLt)
        | (show WL _ _ _ _ _ _ _; first | apply WL.nil | (refine WL.au (k := ?_)))
        | (show QL _ _ _ _ _ _ _; first | apply QL.nil | (refine QL.au (k := ?_)) | (apply QL.index tOk; exact rfl; exact rfl; exact rfl; exact rfl; exact rfl; exact rfl; exact rfl; exact rfl; assumption; (exact extA); exact rfl; omega; assumption; intro b off h; have hcc := h; first | (obtain ⟨h1, h2, h3, h4, h5, h6, _⟩ := h) | (obtain ⟨h1, h2, h3, _⟩ := h) | (obtain ⟨h1, h2, _⟩ := h) | (obtain ⟨h1, _⟩ := h)))
        | (show Z _ _ _ _ _; first | apply Z.then_normal | apply Z.then_ret | apply Z.block_ret)
        | (show W _ _ _ _ _ _; first | apply W.seq | apply W.region | apply W.block | apply W.skip | apply W.ret | (apply W.regionD tMix; kernel_rfl)))
      exact Z.body1 Try.results32 rfl fun m => ⟨congrArg Value.bool (dec_false (fun h => ne_at hx hy hxy (congrArg CirT.lat h))).symm, Ext.at (by (exact extA)) m⟩
  have e6 := eq_all heq l0 (by omega)
  repeat' (first
    | (apply W.condKF; exact rfl; (focus (exact dec_false (show ¬ ((k : Nat) : Int) < (a.lat.2.2.length : Int) by omega); done)))
    | (show WL _ _ _ _ _ _ _; first | apply WL.nil | (refine WL.au (k := ?_)))
    | (show Z _ _ _ _ _; first | apply Z.then_normal | apply Z.then_exit | apply Z.block_exit)
    | (show W _ _ _ _ _ _; first | apply W.seq | apply W.region | apply W.block | apply W.exit))
  clear heq hlt hk
  have Ra1 := hCa.gates.row.ext hX
  have Rb1 := hCb.gates.row.ext hX
  have hln1 := Ra1.len
  refine W.loop1 a.gates.2.2.length (fun k => k ≤ a.gates.2.2.length ∧ ∀ i, i < k → a.gates.2.2[i]? = b.gates.2.2[i]?) (fun k => [(2, .pointer (some ⟨gA, 0, none⟩)), (3, .pointer (some ⟨gB, 0, none⟩)), (6, .int .i64 k)]) ⟨by omega, fun i hi => by omega⟩ (fun k h => h.1) ⟨rfl, rfl, rfl, trivial⟩ ?_
  rintro k ⟨hk, heq⟩
  by_cases hlt : k < a.gates.2.2.length
  · obtain ⟨x, hx⟩ := getI a.gates.2.2 hlt
    obtain ⟨y, hy⟩ := getI b.gates.2.2 (show k < b.gates.2.2.length by omega)
    by_cases hxy : x = y
    · subst hxy
      repeat' (first
        | (apply W.condKT; exact rfl; (focus (first | exact dec_true (show ((k : Nat) : Int) < (a.gates.2.2.length : Int) by omega) | exact dec_false (fun h => h rfl); done)))
        | (apply W.condKF; exact rfl; (focus (first | exact dec_true (show ((k : Nat) : Int) < (a.gates.2.2.length : Int) by omega) | exact dec_false (fun h => h rfl); done)))
        | (apply QL.neqS tOk; exact rfl; exact rfl; exact rfl; exact rfl; exact rfl; exact rfl; exact rfl; exact factGt)
        | (show WL _ _ _ _ _ _ _; first | apply WL.nil | (refine WL.au (k := ?_)))
        | (show QL _ _ _ _ _ _ _; first | apply QL.nil | (refine QL.au (k := ?_)) | (apply QL.index tOk; exact rfl; exact rfl; exact rfl; exact rfl; exact rfl; exact rfl; exact rfl; exact rfl; assumption; (exact extA); exact rfl; omega; assumption; intro b off h; have hcc := h; first | (obtain ⟨h1, h2, h3, h4, h5, h6, _⟩ := h) | (obtain ⟨h1, h2, h3, _⟩ := h) | (obtain ⟨h1, h2, _⟩ := h) | (obtain ⟨h1, _⟩ := h)))
        | (show Z _ _ _ _ _; first | apply Z.then_normal | apply Z.block_normal)
        | (show W _ _ _ _ _ _; first | apply W.seq | apply W.region | apply W.block | apply W.skip | (apply W.regionD tMix; kernel_rfl)))
      exact Z.again1 ⟨by omega, eq_snoc heq hx hy rfl⟩ ⟨rfl, rfl, rfl, trivial⟩
    · repeat' (first
        | (apply W.condKT; exact rfl; (focus (first | exact dec_true (show ((k : Nat) : Int) < (a.gates.2.2.length : Int) by omega) | exact dec_true (ne_iff enc3_inj hxy); done)))
        | (apply QL.neqS tOk; exact rfl; exact rfl; exact rfl; exact rfl; exact rfl; exact rfl; exact rfl; exact factGt)
        | (show WL _ _ _ _ _ _ _; first | apply WL.nil | (refine WL.au (k := ?_)))
        | (show QL _ _ _ _ _ _ _; first | apply QL.nil | (refine QL.au (k := ?_)) | (apply QL.index tOk; exact rfl; exact rfl; exact rfl; exact rfl; exact rfl; exact rfl; exact rfl; exact rfl; assumption; (exact extA); exact rfl; omega; assumption; intro b off h; have hcc := h; first | (obtain ⟨h1, h2, h3, h4, h5, h6, _⟩ := h) | (obtain ⟨h1, h2, h3, _⟩ := h) | (obtain ⟨h1, h2, _⟩ := h) | (obtain ⟨h1, _⟩ := h)))
        | (show Z _ _ _ _ _; first | apply Z.then_normal | apply Z.then_ret | apply Z.block_ret)
        | (show W _ _ _ _ _ _; first | apply W.seq | apply W.region | apply W.block | apply W.skip | apply W.ret | (apply W.regionD tMix; kernel_rfl)))
      exact Z.body1 Try.results32 rfl fun m => ⟨congrArg Value.bool (dec_false (fun h => ne_at hx hy hxy (congrArg CirT.gates h))).symm, Ext.at (by (exact extA)) m⟩
  have e7 := eq_all heq l1 (by omega)
  repeat' (first
    | (apply W.condKF; exact rfl; (focus (exact dec_false (show ¬ ((k : Nat) : Int) < (a.gates.2.2.length : Int) by omega); done)))
    | (show WL _ _ _ _ _ _ _; first | apply WL.nil | (refine WL.au (k := ?_)))
    | (show Z _ _ _ _ _; first | apply Z.then_normal | apply Z.then_exit | apply Z.block_exit)
    | (show W _ _ _ _ _ _; first | apply W.seq | apply W.region | apply W.block | apply W.exit))
  clear heq hlt hk
  have Ra2 := hCa.syms.row.ext hX
  have Rb2 := hCb.syms.row.ext hX
  have hln2 := Ra2.len
  refine W.loop1 a.syms.2.2.length (fun k => k ≤ a.syms.2.2.length ∧ ∀ i, i < k → a.syms.2.2[i]? = b.syms.2.2[i]?) (fun k => [(2, .pointer (some ⟨gA, 0, none⟩)), (3, .pointer (some ⟨gB, 0, none⟩)), (7, .int .i64 k)]) ⟨by omega, fun i hi => by omega⟩ (fun k h => h.1) ⟨rfl, rfl, rfl, trivial⟩ ?_
  rintro k ⟨hk, heq⟩
  by_cases hlt : k < a.syms.2.2.length
  · obtain ⟨x, hx⟩ := getI a.syms.2.2 hlt
    obtain ⟨y, hy⟩ := getI b.syms.2.2 (show k < b.syms.2.2.length by omega)
    by_cases hxy : x = y
    · subst hxy
      repeat' (first
        | (apply W.condKT; exact rfl; (focus (first | exact dec_true (show ((k : Nat) : Int) < (a.syms.2.2.length : Int) by omega) | exact dec_false (fun h => h rfl); done)))
        | (apply W.condKF; exact rfl; (focus (first | exact dec_true (show ((k : Nat) : Int) < (a.syms.2.2.length : Int) by omega) | exact dec_false (fun h => h rfl); done)))
        | (apply QL.neqS tOk; exact rfl; exact rfl; exact rfl; exact rfl; exact rfl; exact rfl; exact rfl; exact factSy)
        | (show WL _ _ _ _ _ _ _; first | apply WL.nil | (refine WL.au (k := ?_)))
        | (show QL _ _ _ _ _ _ _; first | apply QL.nil | (refine QL.au (k := ?_)) | (apply QL.index tOk; exact rfl; exact rfl; exact rfl; exact rfl; exact rfl; exact rfl; exact rfl; exact rfl; assumption; (exact extA); exact rfl; omega; assumption; intro b off h; have hcc := h; first | (obtain ⟨h1, h2, h3, h4, h5, h6, _⟩ := h) | (obtain ⟨h1, h2, h3, _⟩ := h) | (obtain ⟨h1, h2, _⟩ := h) | (obtain ⟨h1, _⟩ := h)))
        | (show Z _ _ _ _ _; first | apply Z.then_normal | apply Z.block_normal)
        | (show W _ _ _ _ _ _; first | apply W.seq | apply W.region | apply W.block | apply W.skip | (apply W.regionD tMix; kernel_rfl)))
      exact Z.again1 ⟨by omega, eq_snoc heq hx hy rfl⟩ ⟨rfl, rfl, rfl, trivial⟩
    · repeat' (first
        | (apply W.condKT; exact rfl; (focus (first | exact dec_true (show ((k : Nat) : Int) < (a.syms.2.2.length : Int) by omega) | exact dec_true (ne_iff encY_inj hxy); done)))
        | (apply QL.neqS tOk; exact rfl; exact rfl; exact rfl; exact rfl; exact rfl; exact rfl; exact rfl; exact factSy)
        | (show WL _ _ _ _ _ _ _; first | apply WL.nil | (refine WL.au (k := ?_)))
        | (show QL _ _ _ _ _ _ _; first | apply QL.nil | (refine QL.au (k := ?_)) | (apply QL.index tOk; exact rfl; exact rfl; exact rfl; exact rfl; exact rfl; exact rfl; exact rfl; exact rfl; assumption; (exact extA); exact rfl; omega; assumption; intro b off h; have hcc := h; first | (obtain ⟨h1, h2, h3, h4, h5, h6, _⟩ := h) | (obtain ⟨h1, h2, h3, _⟩ := h) | (obtain ⟨h1, h2, _⟩ := h) | (obtain ⟨h1, _⟩ := h)))
        | (show Z _ _ _ _ _; first | apply Z.then_normal | apply Z.then_ret | apply Z.block_ret)
        | (show W _ _ _ _ _ _; first | apply W.seq | apply W.region | apply W.block | apply W.skip | apply W.ret | (apply W.regionD tMix; kernel_rfl)))
      exact Z.body1 Try.results32 rfl fun m => ⟨congrArg Value.bool (dec_false (fun h => ne_at hx hy hxy (congrArg CirT.syms h))).symm, Ext.at (by (exact extA)) m⟩
  have e8 := eq_all heq l2 (by omega)
  repeat' (first
    | (apply W.condKF; exact rfl; (focus (exact dec_false (show ¬ ((k : Nat) : Int) < (a.syms.2.2.length : Int) by omega); done)))
    | (show WL _ _ _ _ _ _ _; first | apply WL.nil | (refine WL.au (k := ?_)))
    | (show Z _ _ _ _ _; first | apply Z.then_normal | apply Z.then_exit | apply Z.block_exit)
    | (show W _ _ _ _ _ _; first | apply W.seq | apply W.region | apply W.ret | apply W.exit))
  clear heq hlt hk
  exact Z.body1 Try.results32 rfl fun m => ⟨congrArg Value.bool (dec_true (show a.t = b.t by unfold Circ.t; rw [e0, e1, e2, e3, e4, e5, e6, e7, e8])).symm, Ext.at (by (exact extA)) m⟩
end Go.Proofs.Ythpnahapiodflaa
namespace Go.Lt
open Go.RowKit
set_option linter.unusedVariables false
theorem Z.invFresh {N : Nat} {α : Type} {s : Nat} {enc : α → List Value} {d el B cap : Nat} {l : List α} {a : Option Addr} {w w' : World} {E : Env} (hx : Ext w w') (hB : B ≤ w.heap.size) (hO : Own s enc el w.heap.size w' a cap l) :
    Z N (postI N d (prRow s enc el B l) w E) .normal ((d, .slice a l.length cap) :: E) w' :=
  Z.invRow hx (hO.base hB) (.inr fun k hk => (hO.blk_lt k hk).1)
end Go.Lt
namespace Go.Proofs.Ythpnahapiodflaa
open Go Go.Lt Go.RowKit
set_option linter.unusedVariables false
set_option linter.unusedSimpArgs false
set_option maxRecDepth 20000

theorem Sep.perm7 {B : Nat} {w : World} {a b c d e f g : Piece} {rest : List Piece} (hS : Lt.Sep B w (a :: b :: c :: d :: e :: f :: g :: rest)) : Lt.Sep B w [d, e, f, a, b, c, g] := by
  refine hS.pick (fun i => if i < 3 then i + 3 else if i < 6 then i - 3 else i) (fun i x h => ?_) (fun i j hi hj hne => ?_)
  · match i, h with
    | 0, h => exact h
    | 1, h => exact h
    | 2, h => exact h
    | 3, h => exact h
    | 4, h => exact h
    | 5, h => exact h
    | 6, h => exact h
  · show (if i < 3 then i + 3 else if i < 6 then i - 3 else i) ≠ (if j < 3 then j + 3 else if j < 6 then j - 3 else j)
    have hi' : i < 7 := hi
    have hj' : j < 7 := hj
    repeat' split
    all_goals omega
set_option maxHeartbeats 16000000 in
theorem circ_Clone (c : Circ) (w : World) (hC : CAt w c) (hz : SzC c.t 100000) (hz2 : c.t.syms.length ≤ 100000) :
    Lt.Spec Try.prog 89 [c.val] w (fun v w' => Ext w w' ∧ ∃ d : Circ, v = d.val ∧ d.t = c.t ∧ OwnC w.heap.size w' d) := by
  have z1 : c.ins.2.2.length ≤ 100000 := hz.1
  have z2 : c.lat.2.2.length ≤ 100000 := hz.2.1
  have z3 : c.outs.2.2.length ≤ 100000 := hz.2.2.1
  have z4 : c.bads.2.2.length ≤ 100000 := hz.2.2.2.1
  have z5 : c.cons.2.2.length ≤ 100000 := hz.2.2.2.2.1
  have z6 : c.gates.2.2.length ≤ 100000 := hz.2.2.2.2.2
  have z7 : c.syms.2.2.length ≤ 100000 := hz2
  have Ri := hC.ins.row
  have Ro := hC.outs.row
  have Rb := hC.bads.row
  have Rn := hC.cons.row
  have Rl := hC.lat.row
  have Rg := hC.gates.row
  have Ry := hC.syms.row
  have ni := hC.ins.none
  have no := hC.outs.none
  have nb := hC.bads.none
  have nn := hC.cons.none
  have nl := hC.lat.none
  have ng := hC.gates.none
  have ny := hC.syms.none
  refine Spec.of _ Try.func89 rfl Try.ntmps89 (by kernel_rfl) rfl ?_
  repeat' (first
    | (apply WL.box; exact rfl; exact rfl; exact rfl; intro gb w' hb hge hc hx; have hcc := hc; (first | (obtain ⟨h1, h2, h3, _⟩ := hc) | (obtain ⟨h1, h2, _⟩ := hc)); (obtain ⟨gc, rfl⟩ : ∃ x, x = gb := ⟨_, rfl⟩; obtain ⟨wc, rfl⟩ : ∃ x, x = w' := ⟨_, rfl⟩; obtain ⟨hxc, rfl⟩ : ∃ x, x = hx := ⟨_, rfl⟩; have hS : Lt.Sep w.heap.size wc [pcell gc c.vals.toArray 28] := Sep.newCell Sep.none' hxc hb hge (Nat.le_refl _)))
    | (apply WL.alloc tOk; exact rfl; exact rfl; exact rfl; intro gb w' hb hge hx; replace hS := Sep.newCell (Sep.ext hS (by (exact extA))) hx hb hge (by (first | exact Nat.le_refl _ | exact Below.size (by (exact extA)))); (try simp only [List.set_cons_zero, List.set_cons_succ] at hS); (try have hR0 := hS.row (i := 0) rfl); (try have hR1 := hS.row (i := 1) rfl); (try have hR2 := hS.row (i := 2) rfl); (try have hR3 := hS.row (i := 3) rfl); (try have hR4 := hS.row (i := 4) rfl); (try have hC0 := hS.cell (i := 0) rfl); (try have hD0 := (cells_heap hC0).1); (try have hE0 := (cells_heap hC0).2.1); (try have hF0 := (cells_heap hC0).2.2.1); (try have hG0 := (cells_heap hC0).2.2.2.1); (try have hC1 := hS.cell (i := 1) rfl); (try have hD1 := (cells_heap hC1).1); (try have hE1 := (cells_heap hC1).2.1); (try have hF1 := (cells_heap hC1).2.2.1); (try have hG1 := (cells_heap hC1).2.2.2.1); (try have hC2 := hS.cell (i := 2) rfl); (try have hD2 := (cells_heap hC2).1); (try have hE2 := (cells_heap hC2).2.1); (try have hF2 := (cells_heap hC2).2.2.1); (try have hG2 := (cells_heap hC2).2.2.2.1); (try have hC3 := hS.cell (i := 3) rfl); (try have hD3 := (cells_heap hC3).1); (try have hE3 := (cells_heap hC3).2.1); (try have hF3 := (cells_heap hC3).2.2.1); (try have hG3 := (cells_heap hC3).2.2.2.1); (try have hC4 := hS.cell (i := 4) rfl); (try have hD4 := (cells_heap hC4).1); (try have hE4 := (cells_heap hC4).2.1); (try have hF4 := (cells_heap hC4).2.2.1); (try have hG4 := (cells_heap hC4).2.2.2.1); (try have hM0 := hS.map (i := 0) rfl); (try have hM1 := hS.map (i := 1) rfl); (try have hM2 := hS.map (i := 2) rfl); (try have hM3 := hS.map (i := 3) rfl); (try have hM4 := hS.map (i := 4) rfl))
    | (show WL _ _ _ _ _ _ _; apply WL.nil)
    | (show Z _ _ _ _ _; apply Z.then_normal)
    | (show W _ _ _ _ _ _; first | apply W.seq | apply W.region))
  obtain ⟨w1, rfl⟩ : ∃ x, x = w' := ⟨_, rfl⟩; obtain ⟨g2, rfl⟩ : ∃ x, x = gb := ⟨_, rfl⟩
  have hX2 : Ext w w1 := (by (exact extA))
  have hw1 : w.heap.size ≤ w1.heap.size := Below.size hX2
  have hgc : w.heap.size ≤ gc := (hS.lt (i := 1) rfl rfl).1
  have hcl := cells_heap (hS.cell (i := 1) rfl)
  obtain ⟨y0, y1, y2, y3, y4, y5, y6, y7, y8, _⟩ := hcl
  repeat' (first
    | (show W _ _ (.region 1 _ _) _ _ _; apply W.regionI 13 [.is (.pointer (some ⟨gc, 0 + 1, none⟩)), .is (rowVal c.ins), prRow 1 encI 3 w1.heap.size c.ins.2.2, .is (.pointer (some ⟨gc, 0 + 1 + 1, none⟩)), .is (rowVal c.lat), prRow 3 enc3 69 w1.heap.size c.lat.2.2, .is (.pointer (some ⟨gc, 0 + 1 + 1 + 1 + 1 + 1 + 1, none⟩)), .is (rowVal c.gates), prRow 3 enc3 106 w1.heap.size c.gates.2.2, .is (.pointer (some ⟨gc, 0 + 1 + 1 + 1 + 1 + 1 + 1 + 1, none⟩)), .is (rowVal c.syms), prRow 3 encY 110 w1.heap.size c.syms.2.2, .is (.pointer (some ⟨gc, 0 + 1, none⟩))] tMix; kernel_rfl; exact rfl; kernel_rfl; kernel_rfl; exact rfl; exact rfl)
    | (show OBL _ _ _ _ _ _ _ _; apply OBL.nil)
    | (show OBL _ _ _ _ _ _ 0 _; apply OBL.cons (ds := []); exact rfl; exact rfl; exact rfl; kernel_rfl; intro w8 hw8 rest8)
    | (show OBL _ _ _ _ _ _ 1 _; apply OBL.cons (ds := [0]); exact rfl; exact rfl; exact rfl; kernel_rfl; intro w8 hw8 rest8)
    | (show OBL _ _ _ _ _ _ 2 _; apply OBL.cons (ds := [1]); exact rfl; exact rfl; exact rfl; kernel_rfl; intro w8 hw8 rest8)
    | (show OBL _ _ _ _ _ _ 3 _; apply OBL.cons (ds := []); exact rfl; exact rfl; exact rfl; kernel_rfl; intro w8 hw8 rest8)
    | (show OBL _ _ _ _ _ _ 4 _; apply OBL.cons (ds := [3]); exact rfl; exact rfl; exact rfl; kernel_rfl; intro w8 hw8 rest8)
    | (show OBL _ _ _ _ _ _ 5 _; apply OBL.cons (ds := [4, 2]); exact rfl; exact rfl; exact rfl; kernel_rfl; intro w8 hw8 rest8)
    | (show OBL _ _ _ _ _ _ 6 _; apply OBL.cons (ds := []); exact rfl; exact rfl; exact rfl; kernel_rfl; intro w8 hw8 rest8)
    | (show OBL _ _ _ _ _ _ 7 _; apply OBL.cons (ds := [6]); exact rfl; exact rfl; exact rfl; kernel_rfl; intro w8 hw8 rest8)
    | (show OBL _ _ _ _ _ _ 8 _; apply OBL.cons (ds := [7, 5]); exact rfl; exact rfl; exact rfl; kernel_rfl; intro w8 hw8 rest8)
    | (show OBL _ _ _ _ _ _ 9 _; apply OBL.cons (ds := []); exact rfl; exact rfl; exact rfl; kernel_rfl; intro w8 hw8 rest8)
    | (show OBL _ _ _ _ _ _ 10 _; apply OBL.cons (ds := [9]); exact rfl; exact rfl; exact rfl; kernel_rfl; intro w8 hw8 rest8)
    | (show OBL _ _ _ _ _ _ 11 _; apply OBL.cons (ds := [10, 8]); exact rfl; exact rfl; exact rfl; kernel_rfl; intro w8 hw8 rest8)
    | (show OBL _ _ _ _ _ _ 12 _; apply OBL.cons (ds := [0, 1, 2, 3, 4, 6, 7, 9, 10]); exact rfl; exact rfl; exact rfl; kernel_rfl; intro w8 hw8 rest8)
    | (show NO _ _ _ _ _ _ _ _ _ _; first | apply NO.nil | (apply NO.is; exact rfl; exact rfl) | (apply NO.ex; exact rfl; exact rfl; (first | (rintro _ ⟨gl, rfl, hlb, hlge⟩) | (rintro _ ⟨ar, cr, rfl, hOr⟩))))
    | (intro w8 hw8; show NF _ _ _ _ _ _ _ _ _)
    | (show NF _ _ _ _ _ _ _ _ _; first | (apply NF.nilT; intro hap; replace hS := Sep.news [prowZ 3 encY 110 w.heap.size ar1_11 cr1_11 c.syms.2.2, prowZ 3 enc3 106 w.heap.size ar1_8 cr1_8 c.gates.2.2, prowZ 3 enc3 69 w.heap.size ar1_5 cr1_5 c.lat.2.2, prowZ 1 encI 3 w.heap.size ar1_2 cr1_2 c.ins.2.2] hS hw8 (by rintro q hq; simp only [List.mem_cons, List.not_mem_nil, or_false] at hq; rcases hq with rfl | rfl | rfl | rfl <;> exact prowZ_new (by assumption) hw1) (apartS hap) hw1; simp only [List.cons_append, List.nil_append] at hS; (try simp only [List.set_cons_zero, List.set_cons_succ] at hS); (try have hR0 := hS.row (i := 0) rfl); (try have hR1 := hS.row (i := 1) rfl); (try have hR2 := hS.row (i := 2) rfl); (try have hR3 := hS.row (i := 3) rfl); (try have hR4 := hS.row (i := 4) rfl); (try have hC0 := hS.cell (i := 0) rfl); (try have hD0 := (cells_heap hC0).1); (try have hE0 := (cells_heap hC0).2.1); (try have hF0 := (cells_heap hC0).2.2.1); (try have hG0 := (cells_heap hC0).2.2.2.1); (try have hC1 := hS.cell (i := 1) rfl); (try have hD1 := (cells_heap hC1).1); (try have hE1 := (cells_heap hC1).2.1); (try have hF1 := (cells_heap hC1).2.2.1); (try have hG1 := (cells_heap hC1).2.2.2.1); (try have hC2 := hS.cell (i := 2) rfl); (try have hD2 := (cells_heap hC2).1); (try have hE2 := (cells_heap hC2).2.1); (try have hF2 := (cells_heap hC2).2.2.1); (try have hG2 := (cells_heap hC2).2.2.2.1); (try have hC3 := hS.cell (i := 3) rfl); (try have hD3 := (cells_heap hC3).1); (try have hE3 := (cells_heap hC3).2.1); (try have hF3 := (cells_heap hC3).2.2.1); (try have hG3 := (cells_heap hC3).2.2.2.1); (try have hC4 := hS.cell (i := 4) rfl); (try have hD4 := (cells_heap hC4).1); (try have hE4 := (cells_heap hC4).2.1); (try have hF4 := (cells_heap hC4).2.2.1); (try have hG4 := (cells_heap hC4).2.2.2.1); (try have hM0 := hS.map (i := 0) rfl); (try have hM1 := hS.map (i := 1) rfl); (try have hM2 := hS.map (i := 2) rfl); (try have hM3 := hS.map (i := 3) rfl); (try have hM4 := hS.map (i := 4) rfl) ; have hC5 := hS.cell (i := 5) rfl) | (apply NF.is; exact rfl; exact rfl))
    | (show NF _ _ _ _ _ _ (2 :: _) _ _; apply NF.ex; exact rfl; exact rfl; rintro _ ⟨ar1_2, cr1_2, rfl, hOr1_2⟩)
    | (show NF _ _ _ _ _ _ (5 :: _) _ _; apply NF.ex; exact rfl; exact rfl; rintro _ ⟨ar1_5, cr1_5, rfl, hOr1_5⟩)
    | (show NF _ _ _ _ _ _ (8 :: _) _ _; apply NF.ex; exact rfl; exact rfl; rintro _ ⟨ar1_8, cr1_8, rfl, hOr1_8⟩)
    | (show NF _ _ _ _ _ _ (11 :: _) _ _; apply NF.ex; exact rfl; exact rfl; rintro _ ⟨ar1_11, cr1_11, rfl, hOr1_11⟩)
    | (show Z _ _ _ _ _; first | (apply Z.invIs; (exact extA)) | (apply Z.invFresh; (exact extA); (first | omega | exact Below.size (by (exact extA))); assumption))
    | ((show WL _ _ _ (⟨_, .call ⟨.value (.func 139), _, _⟩, _, _, _, _⟩ :: _) _ _ _); apply WL.call; exact rfl; exact rfl; exact rfl; exact rfl; exact slices_CloneI _ _ c.ins.2.2 _ (Ri.ext (by (exact extA))) ni (by omega); rintro v' w' ⟨hx, a', cap', rfl, hO⟩)
    | ((show WL _ _ _ (⟨_, .call ⟨.value (.func 140), _, _⟩, _, _, _, _⟩ :: _) _ _ _); apply WL.call; exact rfl; exact rfl; exact rfl; exact rfl; exact clone_L _ _ c.lat.2.2 _ (Rl.ext (by (exact extA))) nl (by omega); rintro v' w' ⟨hx, a', cap', rfl, hO⟩)
    | ((show WL _ _ _ (⟨_, .call ⟨.value (.func 141), _, _⟩, _, _, _, _⟩ :: _) _ _ _); apply WL.call; exact rfl; exact rfl; exact rfl; exact rfl; exact clone_G _ _ c.gates.2.2 _ (Rg.ext (by (exact extA))) ng (by omega); rintro v' w' ⟨hx, a', cap', rfl, hO⟩)
    | ((show WL _ _ _ (⟨_, .call ⟨.value (.func 142), _, _⟩, _, _, _, _⟩ :: _) _ _ _); apply WL.call; exact rfl; exact rfl; exact rfl; exact rfl; exact clone_Y _ _ c.syms.2.2 _ (Ry.ext (by (exact extA))) ny (by omega); rintro v' w' ⟨hx, a', cap', rfl, hO⟩)
    | (apply WL.storeF (w0 := w) tOk; exact rfl; exact rfl; exact rfl; exact rfl; assumption; (exact extA); exact rfl; exact rfl; exact rfl; exact rfl; (exact extA); (first | assumption | omega | (focus (apply Nat.le_trans; rotate_left; assumption; exact Below.size (by (exact extA))))); intro w' hb hX' hU; replace hS := Sep.updCell (i := 5) rfl hU hb hS (by (exact extA)) (by (first | exact Nat.le_refl _ | exact Below.size (by (exact extA)))); (try simp only [List.set_cons_zero, List.set_cons_succ] at hS); (try have hR0 := hS.row (i := 0) rfl); (try have hR1 := hS.row (i := 1) rfl); (try have hR2 := hS.row (i := 2) rfl); (try have hR3 := hS.row (i := 3) rfl); (try have hR4 := hS.row (i := 4) rfl); (try have hC0 := hS.cell (i := 0) rfl); (try have hD0 := (cells_heap hC0).1); (try have hE0 := (cells_heap hC0).2.1); (try have hF0 := (cells_heap hC0).2.2.1); (try have hG0 := (cells_heap hC0).2.2.2.1); (try have hC1 := hS.cell (i := 1) rfl); (try have hD1 := (cells_heap hC1).1); (try have hE1 := (cells_heap hC1).2.1); (try have hF1 := (cells_heap hC1).2.2.1); (try have hG1 := (cells_heap hC1).2.2.2.1); (try have hC2 := hS.cell (i := 2) rfl); (try have hD2 := (cells_heap hC2).1); (try have hE2 := (cells_heap hC2).2.1); (try have hF2 := (cells_heap hC2).2.2.1); (try have hG2 := (cells_heap hC2).2.2.2.1); (try have hC3 := hS.cell (i := 3) rfl); (try have hD3 := (cells_heap hC3).1); (try have hE3 := (cells_heap hC3).2.1); (try have hF3 := (cells_heap hC3).2.2.1); (try have hG3 := (cells_heap hC3).2.2.2.1); (try have hC4 := hS.cell (i := 4) rfl); (try have hD4 := (cells_heap hC4).1); (try have hE4 := (cells_heap hC4).2.1); (try have hF4 := (cells_heap hC4).2.2.1); (try have hG4 := (cells_heap hC4).2.2.2.1); (try have hM0 := hS.map (i := 0) rfl); (try have hM1 := hS.map (i := 1) rfl); (try have hM2 := hS.map (i := 2) rfl); (try have hM3 := hS.map (i := 3) rfl); (try have hM4 := hS.map (i := 4) rfl))
    | (show WL _ _ _ _ _ _ _; first | apply WL.nil | (refine WL.au (k := ?_)))
    | (show Z _ _ _ _ _; apply Z.then_normal)
    | (show W _ _ _ _ _ _; apply W.seq))
  obtain ⟨w2, rfl⟩ : ∃ x, x = w' := ⟨_, rfl⟩
  have hX3 : Ext w w2 := (by (exact extA))
  have hw2 : w.heap.size ≤ w2.heap.size := Below.size hX3
  replace hS : Lt.Sep w.heap.size w2 [prowZ 3 encY 110 w.heap.size ar1_11 cr1_11 c.syms.2.2, prowZ 3 enc3 106 w.heap.size ar1_8 cr1_8 c.gates.2.2, prowZ 3 enc3 69 w.heap.size ar1_5 cr1_5 c.lat.2.2, prowZ 1 encI 3 w.heap.size ar1_2 cr1_2 c.ins.2.2, pcell g2 (Value.cells (.agg #[.int .i64 0, .slice none 0 0, .slice none 0 0, .slice none 0 0, .slice none 0 0, .slice none 0 0, .slice none 0 0, .slice none 0 0, .string ⟨#[]⟩])) 28, pcell gc ([.int .i64 c.max, .slice ar1_2 c.ins.2.2.length cr1_2, .slice ar1_5 c.lat.2.2.length cr1_5, rowVal c.outs, rowVal c.bads, rowVal c.cons, .slice ar1_8 c.gates.2.2.length cr1_8, .slice ar1_11 c.syms.2.2.length cr1_11, .string c.com] : List Value).toArray 28] := hS
  have hcl := cells_heap (hS.cell (i := 5) rfl)
  clear y0 y1 y2 y3 y4 y5 y6 y7 y8
  obtain ⟨y0, y1, y2, y3, y4, y5, y6, y7, y8, _⟩ := hcl
  repeat' (first
    | (show W _ _ (.region 2 _ _) _ _ _; apply W.regionI 10 [.is (.pointer (some ⟨gc, 0 + 1 + 1 + 1, none⟩)), .is (rowVal c.outs), prRow 1 encI 3 w2.heap.size c.outs.2.2, .is (.pointer (some ⟨gc, 0 + 1 + 1 + 1 + 1, none⟩)), .is (rowVal c.bads), prRow 1 encI 3 w2.heap.size c.bads.2.2, .is (.pointer (some ⟨gc, 0 + 1 + 1 + 1 + 1 + 1, none⟩)), .is (rowVal c.cons), prRow 1 encI 3 w2.heap.size c.cons.2.2, .is (.pointer (some ⟨gc, 0 + 1 + 1 + 1, none⟩))] tMix; kernel_rfl; exact rfl; kernel_rfl; kernel_rfl; exact rfl; exact rfl)
    | (show OBL _ _ _ _ _ _ _ _; apply OBL.nil)
    | (show OBL _ _ _ _ _ _ 0 _; apply OBL.cons (ds := []); exact rfl; exact rfl; exact rfl; kernel_rfl; intro w8 hw8 rest8)
    | (show OBL _ _ _ _ _ _ 1 _; apply OBL.cons (ds := [0]); exact rfl; exact rfl; exact rfl; kernel_rfl; intro w8 hw8 rest8)
    | (show OBL _ _ _ _ _ _ 2 _; apply OBL.cons (ds := [1]); exact rfl; exact rfl; exact rfl; kernel_rfl; intro w8 hw8 rest8)
    | (show OBL _ _ _ _ _ _ 3 _; apply OBL.cons (ds := []); exact rfl; exact rfl; exact rfl; kernel_rfl; intro w8 hw8 rest8)
    | (show OBL _ _ _ _ _ _ 4 _; apply OBL.cons (ds := [3]); exact rfl; exact rfl; exact rfl; kernel_rfl; intro w8 hw8 rest8)
    | (show OBL _ _ _ _ _ _ 5 _; apply OBL.cons (ds := [4, 2]); exact rfl; exact rfl; exact rfl; kernel_rfl; intro w8 hw8 rest8)
    | (show OBL _ _ _ _ _ _ 6 _; apply OBL.cons (ds := []); exact rfl; exact rfl; exact rfl; kernel_rfl; intro w8 hw8 rest8)
    | (show OBL _ _ _ _ _ _ 7 _; apply OBL.cons (ds := [6]); exact rfl; exact rfl; exact rfl; kernel_rfl; intro w8 hw8 rest8)
    | (show OBL _ _ _ _ _ _ 8 _; apply OBL.cons (ds := [7, 5]); exact rfl; exact rfl; exact rfl; kernel_rfl; intro w8 hw8 rest8)
    | (show OBL _ _ _ _ _ _ 9 _; apply OBL.cons (ds := [0, 1, 2, 3, 4, 6, 7]); exact rfl; exact rfl; exact rfl; kernel_rfl; intro w8 hw8 rest8)
    | (show NO _ _ _ _ _ _ _ _ _ _; first | apply NO.nil | (apply NO.is; exact rfl; exact rfl) | (apply NO.ex; exact rfl; exact rfl; (first | (rintro _ ⟨gl, rfl, hlb, hlge⟩) | (rintro _ ⟨ar, cr, rfl, hOr⟩))))
    | (intro w8 hw8; show NF _ _ _ _ _ _ _ _ _)
    | (show NF _ _ _ _ _ _ _ _ _; first | (apply NF.nilT; intro hap; replace hS := Sep.news [prowZ 1 encI 3 w.heap.size ar2_8 cr2_8 c.cons.2.2, prowZ 1 encI 3 w.heap.size ar2_5 cr2_5 c.bads.2.2, prowZ 1 encI 3 w.heap.size ar2_2 cr2_2 c.outs.2.2] hS hw8 (by rintro q hq; simp only [List.mem_cons, List.not_mem_nil, or_false] at hq; rcases hq with rfl | rfl | rfl <;> exact prowZ_new (by assumption) hw2) (apartS hap) hw2; simp only [List.cons_append, List.nil_append] at hS; have hC8 := hS.cell (i := 8) rfl) | (apply NF.is; exact rfl; exact rfl))
    | (show NF _ _ _ _ _ _ (2 :: _) _ _; apply NF.ex; exact rfl; exact rfl; rintro _ ⟨ar2_2, cr2_2, rfl, hOr2_2⟩)
    | (show NF _ _ _ _ _ _ (5 :: _) _ _; apply NF.ex; exact rfl; exact rfl; rintro _ ⟨ar2_5, cr2_5, rfl, hOr2_5⟩)
    | (show NF _ _ _ _ _ _ (8 :: _) _ _; apply NF.ex; exact rfl; exact rfl; rintro _ ⟨ar2_8, cr2_8, rfl, hOr2_8⟩)
    | (show Z _ _ _ _ _; first | (apply Z.invIs; (exact extA)) | (apply Z.invFresh; (exact extA); (first | omega | exact Below.size (by (exact extA))); assumption))
    | ((show WL _ _ _ (⟨_, .call ⟨.value (.func 139), _, _⟩, _, _, _, _⟩ :: _) _ _ _); apply WL.call; exact rfl; exact rfl; exact rfl; exact rfl; exact slices_CloneI _ _ c.outs.2.2 _ (Ro.ext (by (exact extA))) no (by omega); rintro v' w' ⟨hx, a', cap', rfl, hO⟩)
    | ((show WL _ _ _ (⟨_, .call ⟨.value (.func 139), _, _⟩, _, _, _, _⟩ :: _) _ _ _); apply WL.call; exact rfl; exact rfl; exact rfl; exact rfl; exact slices_CloneI _ _ c.bads.2.2 _ (Rb.ext (by (exact extA))) nb (by omega); rintro v' w' ⟨hx, a', cap', rfl, hO⟩)
    | ((show WL _ _ _ (⟨_, .call ⟨.value (.func 139), _, _⟩, _, _, _, _⟩ :: _) _ _ _); apply WL.call; exact rfl; exact rfl; exact rfl; exact rfl; exact slices_CloneI _ _ c.cons.2.2 _ (Rn.ext (by (exact extA))) nn (by omega); rintro v' w' ⟨hx, a', cap', rfl, hO⟩)
    | (apply WL.storeF (w0 := w) tOk; exact rfl; exact rfl; exact rfl; exact rfl; assumption; (exact extA); exact rfl; exact rfl; exact rfl; exact rfl; (exact extA); (first | assumption | omega | (focus (apply Nat.le_trans; rotate_left; assumption; exact Below.size (by (exact extA))))); intro w' hb hX' hU; replace hS := Sep.updCell (i := 8) rfl hU hb hS (by (exact extA)) (by (first | exact Nat.le_refl _ | exact Below.size (by (exact extA)))); (try simp only [List.set_cons_zero, List.set_cons_succ] at hS); (try have hR0 := hS.row (i := 0) rfl); (try have hR1 := hS.row (i := 1) rfl); (try have hR2 := hS.row (i := 2) rfl); (try have hR3 := hS.row (i := 3) rfl); (try have hR4 := hS.row (i := 4) rfl); (try have hC0 := hS.cell (i := 0) rfl); (try have hD0 := (cells_heap hC0).1); (try have hE0 := (cells_heap hC0).2.1); (try have hF0 := (cells_heap hC0).2.2.1); (try have hG0 := (cells_heap hC0).2.2.2.1); (try have hC1 := hS.cell (i := 1) rfl); (try have hD1 := (cells_heap hC1).1); (try have hE1 := (cells_heap hC1).2.1); (try have hF1 := (cells_heap hC1).2.2.1); (try have hG1 := (cells_heap hC1).2.2.2.1); (try have hC2 := hS.cell (i := 2) rfl); (try have hD2 := (cells_heap hC2).1); (try have hE2 := (cells_heap hC2).2.1); (try have hF2 := (cells_heap hC2).2.2.1); (try have hG2 := (cells_heap hC2).2.2.2.1); (try have hC3 := hS.cell (i := 3) rfl); (try have hD3 := (cells_heap hC3).1); (try have hE3 := (cells_heap hC3).2.1); (try have hF3 := (cells_heap hC3).2.2.1); (try have hG3 := (cells_heap hC3).2.2.2.1); (try have hC4 := hS.cell (i := 4) rfl); (try have hD4 := (cells_heap hC4).1); (try have hE4 := (cells_heap hC4).2.1); (try have hF4 := (cells_heap hC4).2.2.1); (try have hG4 := (cells_heap hC4).2.2.2.1); (try have hM0 := hS.map (i := 0) rfl); (try have hM1 := hS.map (i := 1) rfl); (try have hM2 := hS.map (i := 2) rfl); (try have hM3 := hS.map (i := 3) rfl); (try have hM4 := hS.map (i := 4) rfl))
    | (show WL _ _ _ _ _ _ _; first | apply WL.nil | (refine WL.au (k := ?_)))
    | (show Z _ _ _ _ _; apply Z.then_normal)
    | (show W _ _ _ _ _ _; first | apply W.seq | apply W.region))
  obtain ⟨w3, rfl⟩ : ∃ x, x = w' := ⟨_, rfl⟩
  obtain ⟨d, hd⟩ : ∃ d : Circ, d = ⟨c.max, (ar1_2, cr1_2, c.ins.2.2), (ar1_5, cr1_5, c.lat.2.2), (ar2_2, cr2_2, c.outs.2.2), (ar2_5, cr2_5, c.bads.2.2), (ar2_8, cr2_8, c.cons.2.2), (ar1_8, cr1_8, c.gates.2.2), (ar1_11, cr1_11, c.syms.2.2), c.com⟩ := ⟨_, rfl⟩
  have hS' : Lt.Sep w.heap.size w3 ([prowZ 1 encI 3 w.heap.size ar2_8 cr2_8 c.cons.2.2, prowZ 1 encI 3 w.heap.size ar2_5 cr2_5 c.bads.2.2, prowZ 1 encI 3 w.heap.size ar2_2 cr2_2 c.outs.2.2, prowZ 3 encY 110 w.heap.size ar1_11 cr1_11 c.syms.2.2, prowZ 3 enc3 106 w.heap.size ar1_8 cr1_8 c.gates.2.2, prowZ 3 enc3 69 w.heap.size ar1_5 cr1_5 c.lat.2.2, prowZ 1 encI 3 w.heap.size ar1_2 cr1_2 c.ins.2.2, pcell g2 (Value.cells (.agg #[.int .i64 0, .slice none 0 0, .slice none 0 0, .slice none 0 0, .slice none 0 0, .slice none 0 0, .slice none 0 0, .slice none 0 0, .string ⟨#[]⟩])) 28, pcell gc d.vals.toArray 28]) := by rw [hd]; exact hS
  have hps : d.ps w.heap.size = [prowZ 3 encY 110 w.heap.size ar1_11 cr1_11 c.syms.2.2, prowZ 3 enc3 106 w.heap.size ar1_8 cr1_8 c.gates.2.2, prowZ 3 enc3 69 w.heap.size ar1_5 cr1_5 c.lat.2.2, prowZ 1 encI 3 w.heap.size ar2_8 cr2_8 c.cons.2.2, prowZ 1 encI 3 w.heap.size ar2_5 cr2_5 c.bads.2.2, prowZ 1 encI 3 w.heap.size ar2_2 cr2_2 c.outs.2.2, prowZ 1 encI 3 w.heap.size ar1_2 cr1_2 c.ins.2.2] := by rw [hd]; rfl
  have hcap : CapC d := by
    rw [hd]
    exact ⟨⟨hOr1_2.capLe, hOr1_2.noneCap⟩, ⟨hOr1_5.capLe, hOr1_5.noneCap⟩, ⟨hOr2_2.capLe, hOr2_2.noneCap⟩, ⟨hOr2_5.capLe, hOr2_5.noneCap⟩, ⟨hOr2_8.capLe, hOr2_8.noneCap⟩, ⟨hOr1_8.capLe, hOr1_8.noneCap⟩, ⟨hOr1_11.capLe, hOr1_11.noneCap⟩⟩
  have hdt : d.t = c.t := by rw [hd]
  have hcd : Cells w3 gc 0 d.vals := cells_heap (hS'.cell (i := 8) rfl)
  have hc7 := hS'.cell (i := 7) rfl
  have hg2 : w.heap.size ≤ g2 := (hS'.lt (i := 7) rfl rfl).1
  have hX4 : Ext w w3 := (by (exact extA))
  clear hd
  repeat' (first
    | (apply WL.storeB (w0 := w) tOk; exact rfl; exact rfl; exact rfl; exact rfl; assumption; (exact extA); exact rfl; exact rfl; exact rfl; (exact extA); (first | assumption | omega | (focus (apply Nat.le_trans; rotate_left; assumption; exact Below.size (by (exact extA)); done))); intro w' hb hc hX' hU; have hcc := hc; obtain ⟨h1, h2, _⟩ := hc)
    | (show WL _ _ _ _ _ _ _; first | apply WL.nil | (refine WL.au (k := ?_)))
    | (show Z _ _ _ _ _; apply Z.then_normal)
    | (show W _ _ _ _ _ _; apply W.ret))
  refine Z.bodyC tOk Try.results89 rfl rfl rfl rfl (cells_heap hb) fun m => ⟨Ext.at (by (exact extA)) m, d, rfl, hdt, ⟨?_, hcap⟩⟩
  have hS5 := hS'.updCell (i := 7) rfl hU hb (Ext.refl _) (Below.size hX4)
  rw [hps]
  exact (Sep.perm7 hS5).ext ((Ext.refl _).at m)
end Go.Proofs.Ythpnahapiodflaa
namespace Go.Lt
open Go.RowKit
set_option linter.unusedVariables false
set_option linter.unusedSimpArgs false
section
variable {P : Program} {T : Tab} {N : Nat} {e : Env} {w : World} {Q : Exit → Act → World → Prop} {ops : List Oper} {l : List Oper}
  {tt t el : TypeId} {ps : String} {af : Array Edge} {g : Option (Nat × Bool)} {α : Type} {s : Nat} {enc : α → List Value} {B : Nat} {ei : TI}
theorem take_set_le {β : Type} (L : List β) (k M : Nat) (v : β) (h : k < M) : (L.set k v).take M = (L.take M).set k v := by
  apply List.ext_getElem?
  intro i
  simp only [List.getElem?_take, List.getElem?_set, List.length_take]
  split <;> split <;> (try split) <;> (try rfl) <;> (try omega) <;> simp_all <;> omega
theorem WL.storeOF {x y : Operand} {gb q i cap : Nat} {v u : Value} {xs : List α} {z z' : α} {wo w0 : World} (p r : List Value) (hT : OkTab P T) (hg : gate ops e g = some true)
    (hx : ev e x = some (.pointer (some ⟨gb, q, none⟩))) (hy : ev e y = some v) (ht : tget T t = some ei)
    (ho : Own s enc el B wo (some ⟨gb, 0, none⟩) cap xs) (hwo : Ext wo w) (hq : q = i * s + p.length) (hzo : enc z = p ++ u :: r) (hzn : enc z' = p ++ v :: r) (hv : v.cells.toList = [v]) (hs : ei.size = 1) (hE : Enc s enc) (hz : xs[i]? = some z) (hB : w0.heap.size = B) (hX : Ext w0 w)
    (k : ∀ w', Own s enc el B w' (some ⟨gb, 0, none⟩) cap (xs.set i z') → Ext w0 w' → Upd B (some ⟨gb, 0, none⟩) w w' → WL P N ops.toArray l e w' Q) :
    WL P N ops.toArray (⟨none, .store t x y, tt, ps, af, g⟩ :: l) e w Q := by
  subst hq
  have hi : i < xs.length := (List.getElem?_eq_some_iff.1 hz).1
  have ho' := ho.ext hwo
  have hO := ho'
  rcases ho'.2 with ⟨h1, _⟩ | ⟨g', c', cur, h1, h2, h3, h4, h5, h6, h7⟩
  · simp at h1
  simp only [Value.slice.injEq, Option.some.injEq, Addr.mk.injEq, and_true, true_and] at h1
  obtain ⟨rfl, rfl⟩ := h1
  have hps : p.length < s := by have := hE.len z; rw [hzo] at this; simp at this; omega
  have hvs : v.cells.size = 1 := by have := congrArg List.length hv; simpa using this
  have hle : i * s + s ≤ xs.length * s := by rw [← Nat.succ_mul]; exact Nat.mul_le_mul_right s hi
  have hle2 : xs.length * s ≤ cap * s := Nat.mul_le_mul_right s h4
  have hone : ∀ u ∈ v.cells.toList, u.oneCell' = true := fun u hu => hE.one z' u (by rw [hv] at hu; rw [hzn]; simp at hu; subst hu; simp)
  refine WL.effN (w' := fun m => (at' w m).setRow gb (cur.toList.take (i * s + p.length) ++ v.cells.toList ++ cur.toList.drop (i * s + p.length + v.cells.size)).toArray) hg ?_ (fun m => ?_)
  · intro ρ hρ m
    have hr := run_storeVar' (hT.at ht) gb (i * s + p.length) el cur (at' w m) v h3 (hvs.trans hs.symm) (by rw [hvs, h6]; omega) hone
    simp [execOp, hρ _ _ hx, hρ _ _ hy, Instr.storeAt, Instr.sureAddr, hr]
  · have hU : Upd B (some ⟨gb, 0, none⟩) w ((at' w m).setRow gb (cur.toList.take (i * s + p.length) ++ v.cells.toList ++ cur.toList.drop (i * s + p.length + v.cells.size)).toArray) :=
      ⟨⟨rfl, rfl, rfl, by simp [World.setRow], fun k hk hne => setRow_other (at' w m) gb k _ (fun hh => hne (by rw [hh]; rfl))⟩, fun k hk => (hO.blk_lt k hk).1⟩
    refine k _ ?_ (hU.ext hX (Nat.le_of_eq hB)) hU
    have h8 : cur.toList.length = cap * s := by simpa using h6
    have hcl : i * s + p.length < cur.toList.length := by omega
    have hset : cur.toList.take (i * s + p.length) ++ v.cells.toList ++ cur.toList.drop (i * s + p.length + v.cells.size) = cur.toList.set (i * s + p.length) v := by
      rw [hv, hvs, List.set_eq_take_append_cons_drop, if_pos hcl]; simp
    refine ⟨by rw [length_flatMap' hE.len], .inr ⟨gb, cap, _, rfl, h2, setRow_heap (at' w m) gb cur _ el _ h3, by simpa using h4, h5, ?_, ?_⟩⟩
    · rw [hset]; simp [h6]
    · simp only [List.length_set]
      rw [hset, take_set_le _ _ _ _ (by omega), h7]
      exact set_flatMap' hE.len xs i z z' hz p r u v hzo hzn
end
end Go.Lt
namespace Go.Proofs.Ythpnahapiodflaa
open Go Go.Lt Go.RowKit
set_option linter.unusedVariables false
set_option linter.unusedSimpArgs false
set_option maxRecDepth 20000

theorem Sep.updRowZ {α : Type} {s : Nat} {enc : α → List Value} {el B i cap cap' : Nat} {a a' : Option Addr} {l l' : List α} {w w' w1 : World} {ps : List Piece} (hi : ps[i]? = some (prowZ s enc el B a cap l)) (hl : l ≠ []) (hl' : l' ≠ []) (hU : Upd B a w w') (hO : Own s enc el B w' a' cap' l') (hF : blk a' = blk a ∨ ∃ k, blk a' = some k ∧ w.heap.size ≤ k) (hS : Lt.Sep B w1 ps) (hx : Ext w1 w) (hB : B ≤ w.heap.size) :
    Lt.Sep B w' (ps.set i (prowZ s enc el B a' cap' l')) := by
  refine (hS.ext hx).upd hi (by rw [prowZ_b hl]; exact hU.grown) (fun _ => hO) ?_ hB
  rw [prowZ_b hl, prowZ_b hl']
  exact hF.imp id fun ⟨k, hk, hle⟩ => ⟨k, hk, hle, (hO.blk_lt k hk).2⟩
theorem set_ne {α : Type} {l : List α} {i : Nat} {x : α} (h : l ≠ []) : l.set i x ≠ [] := fun he => h (by have := congrArg List.length he; rw [List.length_set] at this; exact List.eq_nil_of_length_eq_zero this)
theorem rowZ_row2 {α : Type} {s : Nat} {enc : α → List Value} {el B C cap i : Nat} {a : Option Addr} {l : List α} {w : World} {ps : List Piece} (hE : Enc s enc) (hS : Lt.Sep B w ps) (h : ps[i]? = some (prowZ s enc el C a cap l)) : Row s enc w a l := by
  by_cases hl : l = []
  · subst hl; exact Row.nil s enc w a
  · exact ((hS.holds i _ h).1 hl).row hE
end Go.Proofs.Ythpnahapiodflaa
namespace Go.Proofs.Ythpnahapiodflaa
open Go Go.Lt Go.RowKit
set_option linter.unusedVariables false
set_option linter.unusedSimpArgs false
set_option maxRecDepth 20000

noncomputable def addK : List Int → List Int → List Int
  | ks, [] => ks
  | ks, a :: l => addK (bif dec (a ∈ ks) then ks else ks ++ [a]) l
theorem addK_mem : ∀ (l ks : List Int) (x : Int), x ∈ addK ks l ↔ x ∈ ks ∨ x ∈ l
  | [], ks, x => by simp [addK]
  | a :: l, ks, x => by
    rw [addK, addK_mem l]
    by_cases h : a ∈ ks
    · rw [dec_true h]
      simp only [cond_true, List.mem_cons]
      constructor
      · rintro (h1 | h1)
        · exact .inl h1
        · exact .inr (.inr h1)
      · rintro (h1 | rfl | h1)
        · exact .inl h1
        · exact .inl h
        · exact .inr h1
    · rw [dec_false h]
      simp only [cond_false, List.mem_cons, List.mem_append, List.mem_singleton, List.not_mem_nil, or_false]
      constructor
      · rintro ((h1 | h1) | h1)
        · exact .inl h1
        · exact .inr (.inl h1)
        · exact .inr (.inr h1)
      · rintro (h1 | h1 | h1)
        · exact .inl (.inl h1)
        · exact .inl (.inr h1)
        · exact .inr h1
theorem addK_snoc : ∀ (l ks : List Int) (a : Int), addK ks (l ++ [a]) = bif dec (a ∈ addK ks l) then addK ks l else addK ks l ++ [a]
  | [], ks, a => rfl
  | b :: l, ks, a => by
    show addK _ (l ++ [a]) = _
    rw [addK_snoc l]; rfl
theorem mset_keys (a : Int) : ∀ ks : List Int, a ∈ ks → mset a true (keysL true ks) = keysL true ks
  | [], h => by cases h
  | x :: ks, h => by
    show mset a true ((x, true) :: keysL true ks) = _
    unfold mset
    by_cases hx : a = x
    · rw [dec_true (show a = (x, true).1 from hx)]; rfl
    · rw [dec_false (show ¬ a = (x, true).1 from hx), cond_false, mset_keys a ks ((List.mem_cons.1 h).resolve_left hx)]; rfl
set_option maxHeartbeats 4000000 in
theorem renum_Trim1 (w : World) (g3 r : Nat) (ks L : List Int) (a : Option Addr) (cap : Nat) (hc : w.cell? ⟨g3, 0, none⟩ = some (.map (some r))) (hne : g3 ≠ r) (hM : MapIs encK isB w r (keysL true ks)) (R : Row 1 encI w a L) (hRr : L ≠ [] → ∀ k, blk a = some k → some r ≠ some k) (hL : ∀ x ∈ L, 0 ≤ x ∧ x ≤ 100000000) :
    Lt.Spec Try.prog 110 [.slice a L.length cap, .pointer (some ⟨g3, 0, none⟩)] w (fun v w' => v = .tuple #[] ∧ But w (some r) w' ∧ MapIs encK isB w' r (keysL true (addK ks (L.map (· / 2))))) := by
  have hl := R.len
  refine Spec.of _ Try.func110 rfl Try.ntmps110 (by kernel_rfl) rfl ?_
  repeat' (first
    | (show WL _ _ _ _ _ _ _; first | apply WL.nil | (refine WL.au (k := ?_)))
    | (show Z _ _ _ _ _; apply Z.then_normal)
    | (show W _ _ _ _ _ _; first | apply W.seq | apply W.region | apply W.block))
  refine W.loopW L.length (fun k w' => k ≤ L.length ∧ But w (some r) w' ∧ MapIs encK isB w' r (keysL true (addK ks ((L.take k).map (· / 2))))) (fun k => [(1, .pointer (some ⟨g3, 0, none⟩)), (5, .slice a L.length cap), (6, .int .i64 (L.length : Nat)), (7, .int .i64 k)]) ⟨Nat.zero_le _, But.at w _ _, hM⟩ (fun k w' h => h.1) ⟨rfl, rfl, rfl, rfl, trivial⟩ ?_
  rintro k w1 ⟨hk, hB, hM1⟩
  have R1 := Row.but encI_ok R hB hRr
  have hc1 := hB.cell hc (fun he => hne (by have h9 := Option.some.inj he; simp only at h9; omega))
  have hXe := emp_ext w1
  have hem := emp_size w1 r
  by_cases hlt : k < L.length
  · obtain ⟨x, hx⟩ := getI L hlt
    have h0 := hL x (List.mem_of_getElem? hx)
    have e1 : addK ks ((L.take (k + 1)).map (· / 2)) = bif dec (x / 2 ∈ addK ks ((L.take k).map (· / 2))) then addK ks ((L.take k).map (· / 2)) else addK ks ((L.take k).map (· / 2)) ++ [x / 2] := by
      rw [take_succ' hx, List.map_append]; exact addK_snoc _ _ _
    generalize addK ks ((L.take k).map (· / 2)) = K at hM1 e1
    repeat' (first
      | (show WL _ _ _ _ _ _ _; first | apply WL.nil | (refine WL.au (k := ?_)))
      | (show Z _ _ _ _ _; apply Z.then_normal)
      | (show W _ _ _ _ _ _; first | apply W.seq | apply W.region))
    refine W.condKT rfl (dec_true (by omega)) ?_
    repeat' (first
      | ((apply WL.mapPutF (B := 0) (w0 := emp w1) (v := true) (vv := isB) tOk keyI; exact rfl; exact rfl; exact rfl; exact rfl; exact rfl; exact rfl; exact hM1; exact (by (exact extA)); exact hem; intro w' hM' hX' hU))
      | (show WL _ _ _ _ _ _ _; first | apply WL.nil | (refine WL.au (k := ?_)) | (apply WL.index tOk; exact rfl; exact rfl; exact rfl; exact rfl; exact rfl; exact rfl; exact rfl; exact rfl; assumption; (exact extA); exact rfl; omega; assumption; intro b off h; have hcc := h; first | (obtain ⟨h1, h2, h3, h4, h5, h6, _⟩ := h) | (obtain ⟨h1, h2, h3, _⟩ := h) | (obtain ⟨h1, h2, _⟩ := h) | (obtain ⟨h1, _⟩ := h)))
      | (show Z _ _ _ _ _; first | apply Z.then_normal | apply Z.block_normal)
      | (show W _ _ _ _ _ _; first | apply W.seq | apply W.region | apply W.block | apply W.skip))
    have hM2 : MapIs encK isB w' r (keysL true (bif dec (x / 2 ∈ K) then K else K ++ [x / 2])) := by
      rw [mget_keys] at hM'
      by_cases h : x / 2 ∈ K
      · rw [dec_true h] at hM' ⊢
        have h9 : MapIs encK isB w' r (mset (x / 2) true (keysL true K)) := hM'
        rw [mset_keys _ _ h] at h9; exact h9
      · rw [dec_false h] at hM' ⊢
        show MapIs encK isB w' r (keysL true (K ++ [x / 2]))
        rw [keysL_snoc]; exact hM'
    exact Z.againW ⟨by omega, hB.trans (But.upd hU), by rw [e1]; exact hM2⟩ ⟨rfl, rfl, rfl, rfl, trivial⟩
  · obtain rfl : k = L.length := by omega
    rw [List.take_length] at hM1
    repeat' (first
      | (show WL _ _ _ _ _ _ _; first | apply WL.nil | (refine WL.au (k := ?_)))
      | (show Z _ _ _ _ _; apply Z.then_normal)
      | (show W _ _ _ _ _ _; first | apply W.seq | apply W.region))
    refine W.condKF rfl (dec_false (by omega)) ?_
    repeat' (first
      | (show Z _ _ _ _ _; first | apply Z.then_exit | apply Z.block_exit)
      | (show W _ _ _ _ _ _; apply W.exit))
    exact Z.body0n Try.results110 fun m => ⟨rfl, hB.of_at m, hM1.ext ((Ext.refl _).at m)⟩
theorem renum_Trim2 (w : World) (g3 r : Nat) (ks : List Int) (g : T3) (hc : w.cell? ⟨g3, 0, none⟩ = some (.map (some r))) (hM : MapIs encK isB w r (keysL true ks)) (h0 : 0 ≤ g.1 ∧ g.1 ≤ 100000000) :
    Pure Try.prog 114 [.agg #[.int .i64 g.1, .int .i64 g.2.1, .int .i64 g.2.2], .pointer (some ⟨g3, 0, none⟩)] w (.bool (!dec (g.1 / 2 ∈ ks))) := by
  refine Spec.of _ Try.func114 rfl Try.ntmps114 (by kernel_rfl) rfl ?_
  repeat' (first
    | (apply WL.box; exact rfl; exact rfl; exact rfl; intro gb w' hb hge hc hx; have hcc := hc; (first | (obtain ⟨h1, h2, h3, _⟩ := hc) | (obtain ⟨h1, h2, _⟩ := hc)))
    | ((apply WL.lookKeys tOk keyI; exact rfl; exact rfl; exact rfl; exact rfl; exact rfl; exact rfl; exact rfl; exact rfl; (first | exact hM | exact MapIs.ext hM (by (exact extA)))))
    | (show WL _ _ _ _ _ _ _; first | apply WL.nil | (refine WL.au (k := ?_)))
    | (show Z _ _ _ _ _; apply Z.then_normal)
    | (show W _ _ _ _ _ _; first | apply W.seq | apply W.region | apply W.ret))
  exact Z.body1 Try.results114 rfl fun m => ⟨rfl, Ext.at (by (exact extA)) m⟩
end Go.Proofs.Ythpnahapiodflaa
namespace Go.Proofs.Ythpnahapiodflaa
open Go Go.Lt Go.RowKit
set_option linter.unusedVariables false
set_option linter.unusedSimpArgs false
set_option maxRecDepth 20000

def RevAt (L M : List Int) (i : Nat) : Prop := M.length = L.length ∧ ∀ p, p < L.length → M[p]? = if p < i ∨ L.length - i ≤ p then L[L.length - 1 - p]? else L[p]?
theorem RevAt.start (L : List Int) : RevAt L L 0 := ⟨rfl, fun p hp => by rw [if_neg (by omega)]⟩
theorem RevAt.step {L M : List Int} {i : Nat} {x y : Int} (h : RevAt L M i) (hi : 2 * i + 1 < L.length) (hx : M[i]? = some x) (hy : M[L.length - 1 - i]? = some y) : RevAt L (swp M i (L.length - 1 - i) x y) (i + 1) := by
  have hl := h.1
  have hL1 : L[i]? = some x := by rw [← hx, h.2 i (by omega), if_neg (by omega)]
  have hL2 : L[L.length - 1 - i]? = some y := by rw [← hy, h.2 _ (by omega), if_neg (by omega)]
  refine ⟨by unfold swp; rw [List.length_set, List.length_set]; exact hl, fun p hp => ?_⟩
  rw [swp_get hx hy]
  by_cases e1 : p = L.length - 1 - i
  · rw [if_pos e1, if_pos (by omega), e1, show L.length - 1 - (L.length - 1 - i) = i by omega]; exact hL1.symm
  · rw [if_neg e1]
    by_cases e2 : p = i
    · rw [if_pos e2, if_pos (by omega), e2]; exact hL2.symm
    · rw [if_neg e2, h.2 p hp]
      by_cases e3 : p < i ∨ L.length - i ≤ p
      · rw [if_pos e3, if_pos (by omega)]
      · rw [if_neg e3, if_neg (by omega)]
theorem RevAt.all {L M : List Int} {i : Nat} (h : RevAt L M i) (hi : L.length ≤ 2 * i + 1) : M = L.reverse := by
  apply List.ext_getElem?
  intro p
  by_cases hp : p < L.length
  · rw [h.2 p hp, List.getElem?_reverse hp]
    by_cases e : p < i ∨ L.length - i ≤ p
    · rw [if_pos e]
    · rw [if_neg e, show L.length - 1 - p = p by omega]
  · rw [List.getElem?_eq_none (by rw [h.1]; omega), List.getElem?_eq_none (by rw [List.length_reverse]; omega)]
set_option maxHeartbeats 4000000 in
theorem slices_Reverse (w0 w : World) (a : Option Addr) (cap : Nat) (L : List Int) (hX : Ext w0 w) (hO : Own 1 encI 3 w0.heap.size w a cap L) (hl : L.length ≤ 100000) :
    Lt.Spec Try.prog 112 [.slice a L.length cap] w (fun v w' => v = .tuple #[] ∧ Own 1 encI 3 w0.heap.size w' a cap L.reverse ∧ But w (blk a) w' ∧ Ext w0 w') := by
  refine Spec.of _ Try.func112 rfl Try.ntmps112 (by kernel_rfl) rfl ?_
  repeat' (first
    | (show WL _ _ _ _ _ _ _; first | apply WL.nil | (refine WL.au (k := ?_)))
    | (show Z _ _ _ _ _; apply Z.then_normal)
    | (show W _ _ _ _ _ _; first | apply W.seq | apply W.region | apply W.block))
  refine W.loop (σ := (Nat × List Int) × World) (fun s => s.1.1 ≤ L.length ∧ RevAt L s.1.2 s.1.1 ∧ Ext w0 s.2 ∧ But w (blk a) s.2 ∧ Own 1 encI 3 w0.heap.size s.2 a cap s.1.2 ∧ 2 * s.1.1 ≤ L.length + 1) (fun s => [(0, .slice a L.length cap), (2, .int .i64 s.1.1), (3, .int .i64 ((L.length : Int) - 1 - s.1.1))]) (fun s => s.2) (fun s => L.length - s.1.1) ((0, L), w) ⟨Nat.zero_le _, RevAt.start L, hX, But.at w _ _, hO, Nat.zero_le _⟩ ⟨rfl, rfl, by show some (Value.int .i64 _) = some (Value.int .i64 _); congr 2; dsimp only; omega, trivial⟩ rfl ?_
  rintro ⟨⟨i, M⟩, w1⟩ ⟨hi, hR, hX1, hB1, hO1, h2i⟩
  dsimp only at hi hR hX1 hB1 hO1 h2i ⊢
  have hM := hR.1
  by_cases hlt : 2 * i + 1 < L.length
  · obtain ⟨x, hx⟩ := getI M (show i < M.length by omega)
    obtain ⟨y, hy⟩ := getI M (show L.length - 1 - i < M.length by omega)
    have hx' : M[((i : Nat) : Int).toNat]? = some x := by rw [Int.toNat_natCast]; exact hx
    have ej : ((L.length : Int) - 1 - (i : Int)).toNat = L.length - 1 - i := by omega
    have hy' : M[((L.length : Int) - 1 - (i : Int)).toNat]? = some y := by rw [ej]; exact hy
    have hy2 : (M.set ((i : Nat) : Int).toNat y)[((L.length : Int) - 1 - (i : Int)).toNat]? = some y := by
      rw [ej, Int.toNat_natCast, List.getElem?_set_ne (by omega)]; exact hy
    have hset : ∀ (k : Nat) (z : Int), (M.set k z).length = L.length := fun k z => by rw [List.length_set]; exact hM
    repeat' (first
      | (show WL _ _ _ _ _ _ _; first | apply WL.nil | (refine WL.au (k := ?_)))
      | (show Z _ _ _ _ _; apply Z.then_normal)
      | (show W _ _ _ _ _ _; first | apply W.seq | apply W.region))
    refine W.condKT rfl (dec_true (by omega)) ?_
    repeat' (first
      | (show W _ _ (.region 3 _ _) _ _ _; apply W.regionGB (.fl true 0 (.fl true 1 (.fl true 2 (.fl true 3 (.fl true 4 (.fl true 5 (.fl true 6 (.fl true 8 (.fl true 9 (.fl true 10 (.fl false 7 (.fl false 11 (.fl true 12 (.br 13 (.fl true 14 (.br 15 .done .stop)) .stop)))))))))))))) [11] (none) tMix; kernel_rfl)
      | (apply FL.indexO tOk; exact rfl; exact rfl; exact rfl; exact rfl; exact rfl; exact rfl; exact rfl; exact rfl; assumption; (exact extA); exact encI_ok; (first | exact rfl | (focus (simp only [List.length_set]; done)) | (focus (simp; done)) | (focus (simp [*]; done)) | omega | (focus (simp only [List.length_set]; omega))); omega; assumption; intro gb ha hc; cases ha; have hcc := hc; first | (obtain ⟨h1, h2, h3, _⟩ := hc) | (obtain ⟨h1, h2, _⟩ := hc) | (obtain ⟨h1, _⟩ := hc))
      | (apply WL.storeO tOk; exact rfl; exact rfl; exact rfl; exact rfl; assumption; (exact extA); exact rfl; exact rfl; exact rfl; exact encI_ok; assumption; exact rfl; (exact extA); intro w' hO hX' hU; (first | (have h_0 := hU1; clear h_0; obtain ⟨hU2, rfl⟩ : ∃ x, x = hU := ⟨_, rfl⟩) | (obtain ⟨hU1, rfl⟩ : ∃ x, x = hU := ⟨_, rfl⟩)))
      | (show WL _ _ _ _ _ _ _; first | apply WL.nil | (refine WL.au (k := ?_)))
      | (show SG _ _ _ _ _ _ _ _ _; first | apply SG.done | (apply SG.fl0; exact rfl) | (apply SG.fl1; exact rfl; (focus ((intro m; first | assumption | (apply Ext.at; (exact extA)) | apply But.of_at; first | exact But.upd (by assumption) | exact But.ext (by (exact extA)) | (refine But.trans ?_ (But.upd (by assumption)); exact But.ext (by (exact extA))) | exact But.at _ _ _); done))) | (apply SG.br1; exact rfl))
      | (show FL _ _ _ _ _ _ _ _; first | apply FL.nilS | (refine FL.au (k := ?_)) | (apply FL.loadG tOk; exact rfl; exact rfl; exact rfl; exact rfl; exact rfl; (first | assumption | (focus (apply Ext.cell; rotate_left; assumption; (exact extA); done))); (first | (focus (intro h; cases h; done)) | (focus (intro h; have h9 := hBC _ h; (try simp only at h9); omega)) | assumption | (focus (intro h; simp only [blk, Option.map_some, Option.some.injEq] at h; omega)))))
      | (show Z _ _ _ _ _; (apply Z.sgL; exact rfl))
      | (show Z _ _ _ _ _; first | apply Z.then_normal | apply Z.block_normal)
      | (show W _ _ _ _ _ _; first | apply W.seq | apply W.region | apply W.block | apply W.skip))
    have hRs := hR.step hlt hx hy
    have eM : (M.set ((i : Nat) : Int).toNat y).set ((L.length : Int) - 1 - (i : Int)).toNat x = swp M i (L.length - 1 - i) x y := by rw [ej, Int.toNat_natCast]; try rfl
    rw [eM] at hO
    exact Z.again ((i + 1, _), w') ⟨by dsimp only; omega, hRs, hX', (hB1.trans (But.upd hU1)).trans (But.upd hU2), hO, by dsimp only; omega⟩ (by dsimp only; omega) ⟨rfl, rfl, by show some (Value.int .i64 _) = some (Value.int .i64 _); congr 2; dsimp only; omega, trivial⟩ rfl
  · repeat' (first
      | (show WL _ _ _ _ _ _ _; first | apply WL.nil | (refine WL.au (k := ?_)))
      | (show Z _ _ _ _ _; apply Z.then_normal)
      | (show W _ _ _ _ _ _; first | apply W.seq | apply W.region))
    refine W.condKF rfl (dec_false (by omega)) ?_
    repeat' (first
      | (show Z _ _ _ _ _; first | apply Z.then_exit | apply Z.block_exit)
      | (show W _ _ _ _ _ _; apply W.exit))
    have hMr := hR.all (by omega)
    subst hMr
    exact Z.body0n Try.results112 fun m => ⟨rfl, hO1.ext ((Ext.refl _).at m), hB1.of_at m, hX1.at m⟩

/-- A gate's value. -/
abbrev gV (g : T3) : Value := .agg #[.int .i64 g.1, .int .i64 g.2.1, .int .i64 g.2.2]
set_option maxHeartbeats 4000000 in
theorem slices_IndexFuncG (a : Option Addr) (cap : Nat) (L : List T3) (f : Nat) (us : List Value) (p : T3 → Bool) (w : World) (R : Row 3 enc3 w a L) (hl : L.length ≤ 100000)
    (hf : ∀ x ∈ L, ∀ w1, Ext w w1 → Pure Try.prog f ([gV x] ++ us) w1 (.bool (p x))) :
    Lt.Spec Try.prog 153 [.slice a L.length cap, .func (.func f) #[] us.toArray] w (fun v w' => Ext w w' ∧ ((v = .int .i64 (-1) ∧ ∀ x ∈ L, p x = false) ∨ ∃ (i : Nat) (x : T3), v = .int .i64 i ∧ L[i]? = some x ∧ p x = true ∧ ∀ y ∈ L.take i, p y = false)) := by
  refine Spec.of _ Try.func153 rfl Try.ntmps153 (by kernel_rfl) rfl ?_
  repeat' (first
    | (show WL _ _ _ _ _ _ _; first | apply WL.nil | (refine WL.au (k := ?_)))
    | (show Z _ _ _ _ _; apply Z.then_normal)
    | (show W _ _ _ _ _ _; first | apply W.seq | apply W.region | apply W.block))
  refine W.loopW L.length (fun k w' => k ≤ L.length ∧ Ext w w' ∧ ∀ y ∈ L.take k, p y = false) (fun k => [(0, .slice a L.length cap), (1, .func (.func f) #[] us.toArray), (6, .slice a L.length cap), (7, .int .i64 L.length), (8, .int .i64 k)]) ⟨Nat.zero_le _, Ext.refl _, fun y hy => by simp at hy⟩ (fun k w' h => h.1) ⟨rfl, rfl, rfl, rfl, rfl, trivial⟩ ?_
  rintro k w1 ⟨hk, hX1, hno⟩
  have R1 := R.ext hX1
  by_cases hlt : k < L.length
  · obtain ⟨x, hx⟩ := getI L hlt
    have hfx := hf x (List.mem_of_getElem? hx)
    obtain ⟨bb, hbb⟩ : ∃ bb, p x = bb := ⟨_, rfl⟩
    rw [hbb] at hfx
    cases bb with
    | true =>
      repeat' (first
        | (apply W.condKT; exact rfl; (focus (exact dec_true (by omega); done)))
        | ((show WL _ _ _ (⟨_, .call ⟨.value (.tmp _), _, _⟩, _, _, _, _⟩ :: _) _ _ _; apply WL.callP; exact rfl; exact rfl; exact rfl; exact rfl; exact hfx _ (by (exact extA)); intro w' hx'))
        | (show WL _ _ _ _ _ _ _; first | apply WL.nil | (refine WL.au (k := ?_)) | (apply WL.index tOk; exact rfl; exact rfl; exact rfl; exact rfl; exact rfl; exact rfl; exact rfl; exact rfl; assumption; (exact extA); exact rfl; omega; assumption; intro b off h; have hcc := h; first | (obtain ⟨h1, h2, h3, h4, h5, h6, _⟩ := h) | (obtain ⟨h1, h2, h3, _⟩ := h) | (obtain ⟨h1, h2, _⟩ := h) | (obtain ⟨h1, _⟩ := h)))
        | (show Z _ _ _ _ _; first | apply Z.then_normal | apply Z.then_ret | apply Z.block_ret)
        | (show W _ _ _ _ _ _; first | apply W.seq | apply W.region | apply W.block | apply W.skip | apply W.ret | (apply W.condT; exact rfl)))
      exact Z.body1 Try.results153 rfl fun m => ⟨Ext.at (by (exact extA)) m, .inr ⟨k, x, rfl, hx, hbb, hno⟩⟩
    | false =>
      repeat' (first
        | (apply W.condKT; exact rfl; (focus (exact dec_true (by omega); done)))
        | ((show WL _ _ _ (⟨_, .call ⟨.value (.tmp _), _, _⟩, _, _, _, _⟩ :: _) _ _ _; apply WL.callP; exact rfl; exact rfl; exact rfl; exact rfl; exact hfx _ (by (exact extA)); intro w' hx'))
        | (show WL _ _ _ _ _ _ _; first | apply WL.nil | (refine WL.au (k := ?_)) | (apply WL.index tOk; exact rfl; exact rfl; exact rfl; exact rfl; exact rfl; exact rfl; exact rfl; exact rfl; assumption; (exact extA); exact rfl; omega; assumption; intro b off h; have hcc := h; first | (obtain ⟨h1, h2, h3, h4, h5, h6, _⟩ := h) | (obtain ⟨h1, h2, h3, _⟩ := h) | (obtain ⟨h1, h2, _⟩ := h) | (obtain ⟨h1, _⟩ := h)))
        | (show Z _ _ _ _ _; first | apply Z.then_normal | apply Z.block_normal)
        | (show W _ _ _ _ _ _; first | apply W.seq | apply W.region | apply W.block | apply W.skip | (apply W.condF; exact rfl)))
      exact Z.againW ⟨by omega, (by (exact extA)), fun y hy => by
        rw [take_succ' hx] at hy
        rcases List.mem_append.1 hy with hy | hy
        · exact hno y hy
        · rw [List.mem_singleton.1 hy]; exact hbb⟩ ⟨rfl, rfl, rfl, rfl, rfl, trivial⟩
  · obtain rfl : k = L.length := by omega
    rw [List.take_length] at hno
    repeat' (first
      | (apply W.condKF; exact rfl; (focus (exact dec_false (by omega); done)))
      | (show WL _ _ _ _ _ _ _; first | apply WL.nil | (refine WL.au (k := ?_)))
      | (show Z _ _ _ _ _; first | apply Z.then_normal | apply Z.then_exit | apply Z.block_exit)
      | (show W _ _ _ _ _ _; first | apply W.seq | apply W.region | apply W.ret | apply W.exit))
    exact Z.body1 Try.results153 rfl fun m => ⟨Ext.at (by (exact extA)) m, .inl ⟨rfl, hno⟩⟩
/-- The first ones are dropped, the others are as they were. -/
def DelAt (keep : T3 → Bool) (L M : List T3) (i j : Nat) : Prop := M.length = L.length ∧ i < j ∧ j ≤ L.length ∧ M.take i = (L.take j).filter keep ∧ M.drop j = L.drop j
theorem DelAt.skip {keep : T3 → Bool} {L M : List T3} {i j : Nat} {x : T3} (h : DelAt keep L M i j) (hx : L[j]? = some x) (hk : keep x = false) : DelAt keep L M i (j + 1) := by
  obtain ⟨h1, h2, h3, h4, h5⟩ := h
  have hlt := lt_of_get hx
  refine ⟨h1, by omega, by omega, ?_, ?_⟩
  · rw [take_succ' hx, List.filter_append, h4]; simp [hk]
  · rw [← List.drop_drop, ← List.drop_drop, h5]
theorem DelAt.keep {keep : T3 → Bool} {L M : List T3} {i j : Nat} {x : T3} (h : DelAt keep L M i j) (hx : L[j]? = some x) (hk : keep x = true) : DelAt keep L (M.set i x) (i + 1) (j + 1) := by
  obtain ⟨h1, h2, h3, h4, h5⟩ := h
  have hlt := lt_of_get hx
  refine ⟨by rw [List.length_set]; exact h1, by omega, by omega, ?_, ?_⟩
  · have hs : (M.set i x)[i]? = some x := List.getElem?_set_self (by omega)
    rw [take_succ' hs, take_succ' hx, List.filter_append, ← h4, List.take_set_of_le (Nat.le_refl _)]
    simp [hk]
  · rw [List.drop_set_of_lt (by omega), ← List.drop_drop, ← List.drop_drop, h5]
theorem DelAt.get {keep : T3 → Bool} {L M : List T3} {i j : Nat} {x : T3} (h : DelAt keep L M i j) (hx : L[j]? = some x) : M[j]? = some x := by
  have h5 := h.2.2.2.2
  have e1 : (M.drop j)[0]? = M[j]? := by rw [List.getElem?_drop, Nat.add_zero]
  have e2 : (L.drop j)[0]? = L[j]? := by rw [List.getElem?_drop, Nat.add_zero]
  rw [← e1, h5, e2, hx]
set_option maxHeartbeats 8000000 in
theorem slices_DeleteFuncG (w0 w : World) (a : Option Addr) (cap : Nat) (L : List T3) (f : Nat) (us : List Value) (p keep : T3 → Bool) (hX : Ext w0 w) (hO : Own 3 enc3 106 w0.heap.size w a cap L) (hl : L.length ≤ 100000) (hpk : ∀ x ∈ L, p x = !keep x)
    (hf : ∀ x ∈ L, ∀ w1, But w (blk a) w1 → Pure Try.prog f ([gV x] ++ us) w1 (.bool (p x))) :
    Lt.Spec Try.prog 113 [.slice a L.length cap, .func (.func f) #[] us.toArray] w (fun v w' => v = .slice a (L.filter keep).length cap ∧ Own 3 enc3 106 w0.heap.size w' a cap (L.filter keep) ∧ But w (blk a) w' ∧ Ext w0 w') := by
  have hff : ∀ x ∈ L, ∀ w1, Ext w w1 → Pure Try.prog f ([gV x] ++ us) w1 (.bool (p x)) := fun x hx w1 h1 => hf x hx w1 (But.ext h1)
  refine Spec.of _ Try.func113 rfl Try.ntmps113 (by kernel_rfl) rfl ?_
  repeat' (first
    | (((show WL _ _ _ (⟨_, .call ⟨.value (.func 153), _, _⟩, _, _, _, _⟩ :: _) _ _ _); apply WL.call; exact rfl; exact rfl; exact rfl; exact rfl; exact slices_IndexFuncG a cap L f us p _ (hO.row enc3_ok) hl hff; rintro v' w1 ⟨hx1, ⟨rfl, hno⟩ | ⟨i, x, rfl, hix, hpx, hno⟩⟩))
    | (show WL _ _ _ _ _ _ _; first | apply WL.nil | (refine WL.au (k := ?_)))
    | (show Z _ _ _ _ _; apply Z.then_normal)
    | (show W _ _ _ _ _ _; first | apply W.seq | apply W.region))
  · refine W.condKT rfl (dec_true rfl) ?_
    repeat' (first
      | (show WL _ _ _ _ _ _ _; first | apply WL.nil | (refine WL.au (k := ?_)))
      | (show Z _ _ _ _ _; first | apply Z.then_normal | apply Z.then_ret)
      | (show W _ _ _ _ _ _; first | apply W.seq | apply W.region | apply W.ret))
    have e : L.filter keep = L := List.filter_eq_self.2 fun x hx => by
      have h1 := hpk x hx
      rw [hno x hx] at h1
      cases hk : keep x
      · rw [hk] at h1; cases h1
      · rfl
    exact Z.body1 Try.results113 rfl fun m => ⟨by rw [e], by rw [e]; exact hO.ext (Ext.at hx1 m), (But.ext hx1).of_at m, (hX.trans hx1).at m⟩
  · have hil := lt_of_get hix
    refine W.condKF rfl (dec_false (by omega)) ?_
    repeat' (first
      | (show WL _ _ _ _ _ _ _; first | apply WL.nil | (refine WL.au (k := ?_)))
      | (show Z _ _ _ _ _; apply Z.then_normal)
      | (show W _ _ _ _ _ _; first | apply W.seq | apply W.region | apply W.block | apply W.skip))
    have hD0 : DelAt keep L L i (i + 1) := by
      refine ⟨rfl, by omega, by omega, ?_, rfl⟩
      have h1 := hpk x (List.mem_of_getElem? hix)
      rw [hpx] at h1
      have hkx : keep x = false := by cases hk : keep x; rfl; rw [hk] at h1; cases h1
      rw [take_succ' hix, List.filter_append]
      have e : (L.take i).filter keep = L.take i := List.filter_eq_self.2 fun y hy => by
        have h1 := hpk y (List.mem_of_mem_take hy)
        rw [hno y hy] at h1
        cases hk : keep y
        · rw [hk] at h1; cases h1
        · rfl
      rw [e]; simp [hkx]
    refine W.loop (σ := (Nat × Nat × List T3) × World) (fun s => DelAt keep L s.1.2.2 s.1.1 s.1.2.1 ∧ Ext w0 s.2 ∧ But w (blk a) s.2 ∧ Own 3 enc3 106 w0.heap.size s.2 a cap s.1.2.2) (fun s => [(0, .slice a L.length cap), (1, .func (.func f) #[] us.toArray), (5, .int .i64 s.1.1), (6, .int .i64 s.1.2.1)]) (fun s => s.2) (fun s => L.length - s.1.2.1) ((i, i + 1, L), w1) ⟨hD0, hX.trans hx1, But.ext hx1, hO.ext hx1⟩ ⟨rfl, rfl, rfl, rfl, trivial⟩ rfl ?_
    clear hD0 hx1 hix hil hpx hno hO
    rintro ⟨⟨i, j, M⟩, w1⟩ ⟨hD, hX1, hB1, hO⟩
    dsimp only at hD hX1 hB1 hO ⊢
    have hM := hD.1
    have hij := hD.2.1
    have hjl := hD.2.2.1
    by_cases hlt : j < L.length
    · obtain ⟨x, hx⟩ := getI L hlt
      have hxM : M[((j : Nat) : Int).toNat]? = some x := by rw [Int.toNat_natCast]; exact hD.get hx
      have hfx := fun (w9 : World) (h9 : Ext w1 w9) => hf x (List.mem_of_getElem? hx) w9 (hB1.trans (But.ext h9))
      rw [hpk x (List.mem_of_getElem? hx)] at hfx
      cases hk : keep x with
      | false =>
        rw [hk] at hfx
        have hD2 := hD.skip hx hk
        repeat' (first
          | (show WL _ _ _ _ _ _ _; first | apply WL.nil | (refine WL.au (k := ?_)))
          | (show Z _ _ _ _ _; apply Z.then_normal)
          | (show W _ _ _ _ _ _; first | apply W.seq | apply W.region))
        refine W.condKT rfl (dec_true (by omega)) ?_
        repeat' (first
          | (apply WL.indexO tOk; exact rfl; exact rfl; exact rfl; exact rfl; exact rfl; exact rfl; exact rfl; exact rfl; assumption; (exact extA); exact enc3_ok; (first | exact rfl | (focus (simp only [List.length_set]; done)) | (focus (simp; done)) | (focus (simp [*]; done)) | omega | (focus (simp only [List.length_set]; omega))); omega; assumption; intro gb ha hc; cases ha; have hcc := hc; first | (obtain ⟨h1, h2, h3, _⟩ := hc) | (obtain ⟨h1, h2, _⟩ := hc) | (obtain ⟨h1, _⟩ := hc))
          | (apply WL.alloc tOk; exact rfl; exact rfl; exact rfl; intro gb w' hb hge hx; (obtain ⟨g7, rfl⟩ : ∃ x, x = gb := ⟨_, rfl⟩; obtain ⟨hge7, rfl⟩ : ∃ x, x = hge := ⟨_, rfl⟩))
          | (apply WL.storeB (w0 := w1) tOk; exact rfl; exact rfl; exact rfl; exact rfl; assumption; (exact extA); exact rfl; exact rfl; exact rfl; (exact extA); (first | assumption | omega | (focus (apply Nat.le_trans; rotate_left; assumption; exact Below.size (by (exact extA)); done))); intro w' hb hc hX' hU; have hcc := hc; obtain ⟨h1, h2, _⟩ := hc; (obtain ⟨w2, rfl⟩ : ∃ x, x = w' := ⟨_, rfl⟩; obtain ⟨hb7, rfl⟩ : ∃ x, x = hb := ⟨_, rfl⟩; obtain ⟨hX7, rfl⟩ : ∃ x, x = hX' := ⟨_, rfl⟩; have hC7 := cells_heap hb7))
          | ((show WL _ _ _ (⟨_, .call ⟨.value (.tmp _), _, _⟩, _, _, _, _⟩ :: _) _ _ _; apply WL.callP; exact rfl; exact rfl; exact rfl; exact rfl; exact hfx _ (by (exact extA)); intro w' hx'))
          | (show WL _ _ _ _ _ _ _; first | apply WL.nil | (refine WL.au (k := ?_)))
          | (show Z _ _ _ _ _; apply Z.then_normal)
          | (show W _ _ _ _ _ _; first | apply W.seq | apply W.region | apply W.block | apply W.skip))
        refine W.condKF rfl rfl ?_
        repeat' (first
          | (show WL _ _ _ _ _ _ _; first | apply WL.nil | (refine WL.au (k := ?_)))
          | (show Z _ _ _ _ _; first | apply Z.then_normal | apply Z.block_normal)
          | (show W _ _ _ _ _ _; first | apply W.region | apply W.skip))
        have hX2 : Ext w1 w' := (by (exact extA))
        exact Z.again ((i, j + 1, M), w') ⟨hD2, hX1.trans hX2, hB1.trans (But.ext hX2), hO.ext hX2⟩ (by dsimp only; omega) ⟨rfl, rfl, rfl, rfl, trivial⟩ rfl
      | true =>
        rw [hk] at hfx
        have hD2 := hD.keep hx hk
        repeat' (first
          | (show WL _ _ _ _ _ _ _; first | apply WL.nil | (refine WL.au (k := ?_)))
          | (show Z _ _ _ _ _; apply Z.then_normal)
          | (show W _ _ _ _ _ _; first | apply W.seq | apply W.region))
        refine W.condKT rfl (dec_true (by omega)) ?_
        repeat' (first
          | (apply WL.indexO tOk; exact rfl; exact rfl; exact rfl; exact rfl; exact rfl; exact rfl; exact rfl; exact rfl; assumption; (exact extA); exact enc3_ok; (first | exact rfl | (focus (simp only [List.length_set]; done)) | (focus (simp; done)) | (focus (simp [*]; done)) | omega | (focus (simp only [List.length_set]; omega))); omega; assumption; intro gb ha hc; cases ha; have hcc := hc; first | (obtain ⟨h1, h2, h3, _⟩ := hc) | (obtain ⟨h1, h2, _⟩ := hc) | (obtain ⟨h1, _⟩ := hc))
          | (apply WL.alloc tOk; exact rfl; exact rfl; exact rfl; intro gb w' hb hge hx; (obtain ⟨g7, rfl⟩ : ∃ x, x = gb := ⟨_, rfl⟩; obtain ⟨hge7, rfl⟩ : ∃ x, x = hge := ⟨_, rfl⟩))
          | (apply WL.storeB (w0 := w1) tOk; exact rfl; exact rfl; exact rfl; exact rfl; assumption; (exact extA); exact rfl; exact rfl; exact rfl; (exact extA); (first | assumption | omega | (focus (apply Nat.le_trans; rotate_left; assumption; exact Below.size (by (exact extA)); done))); intro w' hb hc hX' hU; have hcc := hc; obtain ⟨h1, h2, _⟩ := hc; (obtain ⟨w2, rfl⟩ : ∃ x, x = w' := ⟨_, rfl⟩; obtain ⟨hb7, rfl⟩ : ∃ x, x = hb := ⟨_, rfl⟩; obtain ⟨hX7, rfl⟩ : ∃ x, x = hX' := ⟨_, rfl⟩; have hC7 := cells_heap hb7))
          | ((show WL _ _ _ (⟨_, .call ⟨.value (.tmp _), _, _⟩, _, _, _, _⟩ :: _) _ _ _; apply WL.callP; exact rfl; exact rfl; exact rfl; exact rfl; exact hfx _ (by (exact extA)); intro w' hx'))
          | (show WL _ _ _ _ _ _ _; first | apply WL.nil | (refine WL.au (k := ?_)))
          | (show Z _ _ _ _ _; apply Z.then_normal)
          | (show W _ _ _ _ _ _; first | apply W.seq | apply W.region | apply W.block | apply W.skip))
        refine W.condKT rfl rfl ?_
        have hX2 : Ext w1 w' := (by (exact extA))
        have hX3 : Ext w0 w' := hX1.trans hX2
        have hC9 : Cells w' g7 0 (enc3 x) := Cells.ext (show Ext w2 w' from (by (exact extA))) hC7
        have hO9 := hO.ext hX2
        obtain ⟨y, hy⟩ := getI M (show i < M.length by omega)
        have hyM : M[((i : Nat) : Int).toNat]? = some y := by rw [Int.toNat_natCast]; exact hy
        obtain ⟨w4, rfl⟩ : ∃ x, x = w' := ⟨_, rfl⟩
        clear hC7 hcc hO h1 h2
        repeat' (first
          | (apply WL.indexO tOk; exact rfl; exact rfl; exact rfl; exact rfl; exact rfl; exact rfl; exact rfl; exact rfl; assumption; (exact extA); exact enc3_ok; (first | exact rfl | (focus (simp only [List.length_set]; done)) | (focus (simp; done)) | (focus (simp [*]; done)) | omega | (focus (simp only [List.length_set]; omega))); omega; assumption; intro gb ha hc; cases ha; have hcc := hc; first | (obtain ⟨h1, h2, h3, _⟩ := hc) | (obtain ⟨h1, h2, _⟩ := hc) | (obtain ⟨h1, _⟩ := hc))
          | (apply WL.storeO (z' := (x)) tOk; exact rfl; exact rfl; exact rfl; exact rfl; assumption; (exact extA); exact rfl; exact rfl; exact rfl; exact enc3_ok; assumption; exact rfl; (exact extA); intro w' hO hX' hU)
          | (show WL _ _ _ _ _ _ _; first | apply WL.nil | (refine WL.au (k := ?_)))
          | (show Z _ _ _ _ _; first | apply Z.then_normal | apply Z.block_normal)
          | (show W _ _ _ _ _ _; first | apply W.seq | apply W.region))
        rw [Int.toNat_natCast] at hO
        exact Z.again ((i + 1, j + 1, _), w') ⟨hD2, hX', (hB1.trans (But.ext hX2)).trans (But.upd hU), hO⟩ (by dsimp only; omega) ⟨rfl, rfl, rfl, rfl, trivial⟩ rfl
    · obtain rfl : j = L.length := by omega
      have hfin : M.take i = L.filter keep := by have := hD.2.2.2.1; rwa [List.take_length] at this
      repeat' (first
        | (show WL _ _ _ _ _ _ _; first | apply WL.nil | (refine WL.au (k := ?_)))
        | (show Z _ _ _ _ _; apply Z.then_normal)
        | (show W _ _ _ _ _ _; first | apply W.seq | apply W.region))
      refine W.condKF rfl (dec_false (by omega)) ?_
      have hcl : (M.take ((i : Nat) : Int).toNat ++ List.replicate (L.length - ((i : Nat) : Int).toNat) ((0, 0, 0) : T3)).length = L.length := by rw [List.length_append, List.length_take, List.length_replicate]; omega
      repeat' (first
        | (apply WL.sliceLO (s := 3) tOk; exact rfl; exact rfl; exact rfl; exact rfl; exact rfl; exact rfl; exact rfl; exact rfl; omega)
        | ((apply WL.clearT (z := ((0, 0, 0) : T3)) tOk enc3_ok; exact rfl; exact rfl; exact rfl; exact rfl; exact rfl; exact rfl; exact rfl; exact hO; exact (by (exact extA)); exact hM; omega; exact rfl; exact hX1; intro w' hO2 hX' hU))
        | ((apply WL.sliceHO tOk enc3_ok; exact rfl; exact rfl; exact rfl; exact rfl; exact rfl; exact rfl; exact rfl; exact hO2; exact (by (exact extA)); exact hcl; (rw [hcl]; omega); intro hO3))
        | (show WL _ _ _ _ _ _ _; first | apply WL.nil | (refine WL.au (k := ?_)))
        | (show Z _ _ _ _ _; first | apply Z.then_normal | apply Z.then_exit | apply Z.block_exit)
        | (show W _ _ _ _ _ _; first | apply W.seq | apply W.region | apply W.ret | apply W.exit))
      have e : (M.take ((i : Nat) : Int).toNat ++ List.replicate (L.length - ((i : Nat) : Int).toNat) ((0, 0, 0) : T3)).take ((i : Nat) : Int).toNat = L.filter keep := by
        rw [Int.toNat_natCast, List.take_append_of_le_length (by rw [List.length_take]; omega), List.take_take, Nat.min_self, hfin]
      rw [e] at hO3
      exact Z.body1 Try.results113 rfl fun m => ⟨by rw [e], hO3.ext ((Ext.refl _).at m), (hB1.trans (But.upd hU)).of_at m, hX'.at m⟩
end Go.Proofs.Ythpnahapiodflaa
namespace Go.Proofs.Ythpnahapiodflaa
open Go Go.Lt Go.RowKit
set_option linter.unusedVariables false
set_option linter.unusedSimpArgs false
set_option maxRecDepth 20000

theorem addK_app : ∀ (l ks m : List Int), addK (addK ks l) m = addK ks (l ++ m)
  | [], ks, m => rfl
  | a :: l, ks, m => by
    show addK (addK _ l) m = addK _ (l ++ m)
    exact addK_app l _ m
/-- What is needed so far: all but by gates that stand ahead. -/
structure KInv (c : CirT) (ks : List Int) (k : Nat) : Prop where
  sound : ∀ v ∈ ks, NeedC c v
  full : ∀ v, NeedC c v → (∀ (p j : Nat) (g : T3), (ordL c.gates)[p]? = some j → c.gates[j]? = some g → NeedC c (g.1 / 2) → (g.2.1 / 2 = v ∨ g.2.2 / 2 = v) → k ≤ p) → v ∈ ks
theorem KInv.start {c : CirT} (h : GoodC' c) {ks : List Int} (hk : ∀ v, v ∈ ks ↔ v ∈ c.roots.map (· / 2)) : KInv c ks (ordL c.gates).length := by
  refine ⟨fun v hv => ?_, fun v hv hp => ?_⟩
  · obtain ⟨l, hl, rfl⟩ := List.mem_map.1 ((hk v).1 hv)
    exact .root hl
  · have key : ∀ g ∈ c.gates, NeedC c (g.1 / 2) → (g.2.1 / 2 = v ∨ g.2.2 / 2 = v) → False := fun g hg hn hc => by
      obtain ⟨i, hi⟩ := List.mem_iff_getElem?.1 hg
      obtain ⟨p, hpp⟩ := List.mem_iff_getElem?.1 (ord_all h (lt_of_get hi))
      have h1 := hp p i g hpp hi hn hc
      have h2 := lt_of_get hpp
      omega
    cases hv with
    | root hl => exact (hk _).2 (List.mem_map.2 ⟨_, hl, rfl⟩)
    | left hg hn => exact absurd (key _ hg hn (.inl rfl)) id
    | right hg hn => exact absurd (key _ hg hn (.inr rfl)) id
theorem KInv.need {c : CirT} {ks : List Int} {k j : Nat} {g : T3} (hK : KInv c ks (k + 1)) (hj : (ordL c.gates)[k]? = some j) (hg : c.gates[j]? = some g) : g.1 / 2 ∈ ks ↔ NeedC c (g.1 / 2) := by
  refine ⟨hK.sound _, fun hn => hK.full _ hn fun p i x hp hx _ hc => ?_⟩
  have hO := (ordL_is c.gates).1
  obtain ⟨x', hx', _, hr⟩ := (hO p i hp).1
  rw [hx] at hx'; cases hx'
  have hjT : j ∈ (ordL c.gates).take p := Classical.byContradiction fun hn => by
    have := hr j g hg hn
    rcases hc with hc | hc
    · exact this.1 hc.symm
    · exact this.2 hc.symm
  obtain ⟨q, hq, he⟩ := List.mem_take_iff_getElem.1 hjT
  have hkl := lt_of_get hj
  have e2 : (ordL c.gates)[k] = j := by rw [List.getElem?_eq_getElem hkl] at hj; exact Option.some.inj hj
  have : q = k := (List.getElem_inj (h₀ := by omega) (h₁ := hkl) hO.nodup).1 (by rw [he, e2])
  omega
theorem KInv.skip {c : CirT} {ks : List Int} {k j : Nat} {g : T3} (hK : KInv c ks (k + 1)) (hj : (ordL c.gates)[k]? = some j) (hg : c.gates[j]? = some g) (hn : g.1 / 2 ∉ ks) : KInv c ks k := by
  refine ⟨hK.sound, fun v hv hp => hK.full v hv fun p i x h1 h2 h3 h4 => ?_⟩
  have h5 := hp p i x h1 h2 h3 h4
  by_cases hpk : p = k
  · subst hpk
    rw [hj] at h1; cases h1
    rw [hg] at h2; cases h2
    exact absurd ((hK.need hj hg).2 h3) hn
  · omega
theorem KInv.take {c : CirT} {ks : List Int} {k j : Nat} {g : T3} (hK : KInv c ks (k + 1)) (hj : (ordL c.gates)[k]? = some j) (hg : c.gates[j]? = some g) (hn : g.1 / 2 ∈ ks) : KInv c (addK ks [g.2.1 / 2, g.2.2 / 2]) k := by
  have hnd := hK.sound _ hn
  have hgm := List.mem_of_getElem? hg
  refine ⟨fun v hv => ?_, fun v hv hp => ?_⟩
  · rcases (addK_mem _ _ _).1 hv with hv | hv
    · exact hK.sound v hv
    · simp only [List.mem_cons, List.not_mem_nil, or_false] at hv
      rcases hv with rfl | rfl
      · exact .left hgm hnd
      · exact .right hgm hnd
  · rw [addK_mem]
    by_cases hc : v = g.2.1 / 2 ∨ v = g.2.2 / 2
    · right
      simpa using hc
    · left
      refine hK.full v hv fun p i x h1 h2 h3 h4 => ?_
      have h5 := hp p i x h1 h2 h3 h4
      by_cases hpk : p = k
      · subst hpk
        rw [hj] at h1; cases h1
        rw [hg] at h2; cases h2
        exact absurd (h4.imp Eq.symm Eq.symm) hc
      · omega
theorem KInv.done {c : CirT} {ks : List Int} (hK : KInv c ks 0) (v : Int) : v ∈ ks ↔ NeedC c v := ⟨hK.sound v, fun h => hK.full v h fun _ _ _ _ _ _ _ => Nat.zero_le _⟩
theorem old_ne {α : Type} {s : Nat} {enc : α → List Value} {w : World} {a : Option Addr} {l : List α} {r : Nat} (hE : Enc s enc) (R : Row s enc w a l) (hr : w.heap.size ≤ r) : l ≠ [] → ∀ k, blk a = some k → some r ≠ some k := fun hl k hk he => by
  obtain ⟨q, hq, hlt⟩ := Row.blk_lt hE R hl
  rw [hq] at hk
  have h1 := Option.some.inj hk
  have h2 := Option.some.inj he
  omega
theorem new_ne {g r : Nat} (h : r ≠ g) {α : Type} {l : List α} : l ≠ [] → ∀ k, blk (some (⟨g, 0, none⟩ : Addr)) = some k → some r ≠ some k := fun _ k hk he => by
  simp only [blk, Option.map_some, Option.some.injEq] at hk
  have h2 := Option.some.inj he
  omega
theorem updMapB {r : Nat} {w w' : World} (h : But w (some r) w') : Upd r (some ⟨r, 0, none⟩) w w' := ⟨h, fun k hk => by have h9 : r = k := Option.some.inj hk; omega⟩
/-- What holds the map, and the map. -/
noncomputable abbrev mpP (g3 rm : Nat) (ks : List Int) : List Piece := [pcell g3 #[.map (some rm)] 125, pmap encK isB rm (keysL true ks)]
theorem renum_TrimS (wc w : World) (g3 rm : Nat) (ks L : List Int) (a : Option Addr) (cap : Nat) (rest : List Piece) (hX : Ext wc w) (hS : Lt.Sep wc.heap.size w (mpP g3 rm ks ++ rest)) (R : Row 1 encI w a L) (hRr : L ≠ [] → ∀ k, blk a = some k → some rm ≠ some k) (hL : ∀ x ∈ L, 0 ≤ x ∧ x ≤ 100000000) :
    Lt.Spec Try.prog 110 [.slice a L.length cap, .pointer (some ⟨g3, 0, none⟩)] w (fun v w' => v = .tuple #[] ∧ Ext wc w' ∧ Lt.Sep wc.heap.size w' (mpP g3 rm (addK ks (L.map (· / 2))) ++ rest)) := by
  have hM : MapIs encK isB w rm (keysL true ks) := hS.map (i := 1) rfl
  have hrm := (hS.lt (i := 1) rfl rfl).1
  have hne : g3 ≠ rm := fun he => by
    rcases hS.apart 0 1 _ _ rfl rfl (by decide) with h | h
    · cases h
    · exact h (by show some g3 = some rm; rw [he])
  refine (renum_Trim1 w g3 rm ks L a cap (cells_heap (hS.cell (i := 0) rfl)).1 hne hM R hRr hL).mono ?_
  rintro v w' ⟨rfl, hB, hM'⟩
  exact ⟨rfl, (updMapB hB).ext hX hrm, Sep.updMap (i := 1) rfl (updMapB hB) hM' hS (Ext.refl _) (Below.size hX)⟩
theorem Sep.updOld2 {B B' g : Nat} {w w' : World} {ps : List Piece} (hS : Lt.Sep B w ps) (hU : Upd B' (some ⟨g, 0, none⟩) w w') (hg : g < B) : Lt.Sep B w' ps := by
  refine ⟨fun i p h => ⟨p.keep (hS.holds i p h).1 (fun k hk => hU.grown.block k ((hS.holds i p h).2 k hk).2 (fun he => ?_)), fun k hk => ⟨((hS.holds i p h).2 k hk).1, Nat.lt_of_lt_of_le ((hS.holds i p h).2 k hk).2 hU.grown.size⟩⟩, hS.apart⟩
  have h1 := ((hS.holds i p h).2 k hk).1
  simp only [blk, Option.map_some, Option.some.injEq] at he
  omega
theorem slices_DeleteFunc0 (w : World) (a : Option Addr) (cap f : Nat) (us : List Value) :
    Pure Try.prog 113 [.slice a ([] : List T3).length cap, .func (.func f) #[] us.toArray] w (.slice a ([] : List T3).length cap) := by
  refine Spec.of _ Try.func113 rfl Try.ntmps113 (by kernel_rfl) rfl ?_
  repeat' (first
    | (((show WL _ _ _ (⟨_, .call ⟨.value (.func 153), _, _⟩, _, _, _, _⟩ :: _) _ _ _); apply WL.call; exact rfl; exact rfl; exact rfl; exact rfl; exact slices_IndexFuncG a cap [] f us (fun _ => true) _ (Row.nil _ _ _ _) (Nat.zero_le _) (fun x hx => by cases hx); rintro v' w1 ⟨hx1, ⟨rfl, hno⟩ | ⟨i, x, rfl, hix, hpx, hno⟩⟩))
    | (show WL _ _ _ _ _ _ _; first | apply WL.nil | (refine WL.au (k := ?_)))
    | (show Z _ _ _ _ _; apply Z.then_normal)
    | (show W _ _ _ _ _ _; first | apply W.seq | apply W.region))
  · refine W.condKT rfl (dec_true rfl) ?_
    repeat' (first
      | (show WL _ _ _ _ _ _ _; first | apply WL.nil | (refine WL.au (k := ?_)))
      | (show Z _ _ _ _ _; first | apply Z.then_normal | apply Z.then_ret)
      | (show W _ _ _ _ _ _; first | apply W.seq | apply W.region | apply W.ret))
    exact Z.body1 Try.results113 rfl fun m => ⟨rfl, hx1.at m⟩
  · simp at hix
set_option maxHeartbeats 32000000 in
theorem renum_Trim (c : Circ) (w : World) (hC : CAt w c) (hg : GoodC' c.t) (hz : SzC c.t 100000) (hz7 : c.t.syms.length ≤ 100000) :
    Lt.Spec Try.prog 51 [c.val] w (fun v w' => Ext w w' ∧ ∃ d : Circ, v = d.val ∧ d.t = trimC c.t ∧ CAt w' d) := by
  have z2 : c.lat.2.2.length ≤ 100000 := hz.2.1
  have z6 : c.gates.2.2.length ≤ 100000 := hz.2.2.2.2.2
  have hm : 0 ≤ c.max ∧ c.max ≤ 16777216 := hg.max
  have hown : ∀ x ∈ c.t.own, 2 ≤ x ∧ x % 2 = 0 ∧ x ≤ 2 * c.max := hg.own
  have hused : ∀ x ∈ c.t.used, 0 ≤ x ∧ x ≤ 100000000 := fun x hx => by have : 0 ≤ x ∧ x ≤ 2 * c.max + 1 := hg.used x hx; omega
  refine Spec.of _ Try.func51 rfl Try.ntmps51 (by kernel_rfl) rfl ?_
  repeat' (first
    | (apply WL.box; exact rfl; exact rfl; exact rfl; intro gb w' hb hge hc hx; have hcc := hc; (first | (obtain ⟨h1, h2, h3, _⟩ := hc) | (obtain ⟨h1, h2, _⟩ := hc)); (obtain ⟨gc, rfl⟩ : ∃ x, x = gb := ⟨_, rfl⟩; obtain ⟨wc, rfl⟩ : ∃ x, x = w' := ⟨_, rfl⟩; obtain ⟨hxc, rfl⟩ : ∃ x, x = hx := ⟨_, rfl⟩; have hcells : Cells wc gc 0 c.vals := hcc))
    | (apply WL.alloc tOk; exact rfl; exact rfl; exact rfl; intro gb w' hb hge hx; (first | (have h_0 := g2; clear h_0; obtain ⟨g3, rfl⟩ : ∃ x, x = gb := ⟨_, rfl⟩; obtain ⟨hb3, rfl⟩ : ∃ x, x = hb := ⟨_, rfl⟩; obtain ⟨hge3, rfl⟩ : ∃ x, x = hge := ⟨_, rfl⟩; obtain ⟨hx3, rfl⟩ : ∃ x, x = hx := ⟨_, rfl⟩) | (obtain ⟨g2, rfl⟩ : ∃ x, x = gb := ⟨_, rfl⟩; obtain ⟨w2, rfl⟩ : ∃ x, x = w' := ⟨_, rfl⟩; obtain ⟨hx2, rfl⟩ : ∃ x, x = hx := ⟨_, rfl⟩; obtain ⟨hb2, rfl⟩ : ∃ x, x = hb := ⟨_, rfl⟩; obtain ⟨hge2, rfl⟩ : ∃ x, x = hge := ⟨_, rfl⟩)))
    | ((apply WL.makeMap (kv := encK) (vv := isB); exact rfl; exact rfl; intro rm w3 hM3 hge3m hx3m))
    | (apply WL.storeB (w0 := w3) tOk; exact rfl; exact rfl; exact rfl; exact rfl; assumption; (exact extA); exact rfl; exact rfl; exact rfl; (exact extA); (first | assumption | omega | (focus (apply Nat.le_trans; rotate_left; assumption; exact Below.size (by (exact extA)); done))); intro w' hb hc hX' hU; have hcc := hc; obtain ⟨h1, h2, _⟩ := hc; (obtain ⟨w4, rfl⟩ : ∃ x, x = w' := ⟨_, rfl⟩; obtain ⟨hb4, rfl⟩ : ∃ x, x = hb := ⟨_, rfl⟩; obtain ⟨hX4, rfl⟩ : ∃ x, x = hX' := ⟨_, rfl⟩))
    | (show WL _ _ _ _ _ _ _; first | apply WL.nil | (refine WL.au (k := ?_)))
    | (show Z _ _ _ _ _; apply Z.then_normal)
    | (show W _ _ _ _ _ _; first | apply W.seq | apply W.region))
  have hX4w : Ext wc w4 := (by (exact extA))
  obtain ⟨zC, hzC⟩ : ∃ z : Array Value, z = Value.cells (.agg #[.int .i64 0, .slice none 0 0, .slice none 0 0, .slice none 0 0, .slice none 0 0, .slice none 0 0, .slice none 0 0, .slice none 0 0, .string ⟨#[]⟩]) := ⟨_, rfl⟩
  obtain ⟨PG, hPG⟩ : ∃ P, P = pcell g2 zC 28 := ⟨_, rfl⟩
  have hS2 : Lt.Sep wc.heap.size w2 [PG] := by
    have hb2' : w2.heap[g2]? = some (.cells zC 28 (0, 0)) := by rw [hzC]; exact hb2
    rw [hPG]; exact Sep.newCell Sep.none' hx2 hb2' hge2 (Nat.le_refl _)
  have hS4 : Lt.Sep wc.heap.size w4 (mpP g3 rm [] ++ [PG]) := Sep.newCell (Sep.newMap hS2 (show Ext w2 w3 from (by (exact extA))) hM3 hge3m (Below.size hx2)) hX4 hb4 hge3 (Below.size (by (exact extA)))
  have hrm : wc.heap.size ≤ rm := (hS4.lt (i := 1) rfl rfl).1
  have hwc : w.heap.size ≤ wc.heap.size := Below.size hxc
  have hoL : ∀ l ∈ c.outs.2.2, 0 ≤ l ∧ l ≤ 100000000 := fun l hl => hused l (List.mem_append_left _ (List.mem_append_left _ (List.mem_append_left _ (List.mem_append_left _ hl))))
  have hbL : ∀ l ∈ c.bads.2.2, 0 ≤ l ∧ l ≤ 100000000 := fun l hl => hused l (used_bad (c := c.t) hl)
  have hnL : ∀ l ∈ c.cons.2.2, 0 ≤ l ∧ l ≤ 100000000 := fun l hl => hused l (used_con (c := c.t) hl)
  obtain ⟨y0, y1, y2, y3, y4, y5, y6, _⟩ := hcells.ext hX4w
  clear hb4 hb3 hM3 hU hcc h1 h2
  repeat' (first
    | ((show WL _ _ _ (⟨_, .call ⟨.value (.tmp _), _, _⟩, _, _, _, _⟩ :: _) _ _ _; apply WL.call; exact rfl; exact rfl; exact rfl; exact rfl; exact renum_TrimS wc w4 g3 rm [] c.outs.2.2 _ _ [PG] hX4w hS4 (hC.outs.row.ext (hxc.trans hX4w)) (old_ne encI_ok hC.outs.row (Nat.le_trans hwc hrm)) hoL; rintro v' w5 ⟨rfl, hX5, hS5⟩))
    | (show WL _ _ _ _ _ _ _; first | apply WL.nil | (refine WL.au (k := ?_)))
    | (show Z _ _ _ _ _; apply Z.then_normal)
    | (show W _ _ _ _ _ _; first | apply W.seq | apply W.region))
  clear y0 y1 y2 y3 y4 y5 y6
  obtain ⟨y0, y1, y2, y3, y4, y5, y6, _⟩ := hcells.ext hX5
  repeat' (first
    | ((show WL _ _ _ (⟨_, .call ⟨.value (.tmp _), _, _⟩, _, _, _, _⟩ :: _) _ _ _; apply WL.call; exact rfl; exact rfl; exact rfl; exact rfl; exact renum_TrimS wc w5 g3 rm _ c.bads.2.2 _ _ [PG] hX5 hS5 (hC.bads.row.ext (hxc.trans hX5)) (old_ne encI_ok hC.bads.row (Nat.le_trans hwc hrm)) hbL; rintro v' w6 ⟨rfl, hX6, hS6⟩))
    | (show WL _ _ _ _ _ _ _; first | apply WL.nil | (refine WL.au (k := ?_)))
    | (show Z _ _ _ _ _; apply Z.then_normal)
    | (show W _ _ _ _ _ _; first | apply W.seq | apply W.region))
  clear y0 y1 y2 y3 y4 y5 y6
  obtain ⟨y0, y1, y2, y3, y4, y5, y6, _⟩ := hcells.ext hX6
  repeat' (first
    | ((show WL _ _ _ (⟨_, .call ⟨.value (.tmp _), _, _⟩, _, _, _, _⟩ :: _) _ _ _; apply WL.call; exact rfl; exact rfl; exact rfl; exact rfl; exact renum_TrimS wc w6 g3 rm _ c.cons.2.2 _ _ [PG] hX6 hS6 (hC.cons.row.ext (hxc.trans hX6)) (old_ne encI_ok hC.cons.row (Nat.le_trans hwc hrm)) hnL; rintro v' w7 ⟨rfl, hX7, hS7⟩))
    | (show WL _ _ _ _ _ _ _; first | apply WL.nil | (refine WL.au (k := ?_)))
    | (show Z _ _ _ _ _; apply Z.then_normal)
    | (show W _ _ _ _ _ _; first | apply W.seq | apply W.region))
  clear y0 y1 y2 y3 y4 y5 y6
  obtain ⟨y0, y1, y2, y3, y4, y5, y6, _⟩ := hcells.ext hX7
  obtain ⟨K0, hK0⟩ : ∃ K, K = addK (addK (addK [] (c.outs.2.2.map (· / 2))) (c.bads.2.2.map (· / 2))) (c.cons.2.2.map (· / 2)) := ⟨_, rfl⟩
  rw [← hK0] at hS7
  repeat' (first
    | (show WL _ _ _ _ _ _ _; first | apply WL.nil | (refine WL.au (k := ?_)))
    | (show Z _ _ _ _ _; apply Z.then_normal)
    | (show W _ _ _ _ _ _; apply W.block))
  refine W.loopW c.lat.2.2.length (fun k w' => k ≤ c.lat.2.2.length ∧ Ext wc w' ∧ Lt.Sep wc.heap.size w' (mpP g3 rm (addK K0 ((c.lat.2.2.take k).map (fun x => x.2.1 / 2))) ++ [PG])) (fun k => [(1, .pointer (some ⟨gc, 0, none⟩)), (2, .pointer (some ⟨g2, 0, none⟩)), (3, .pointer (some ⟨g3, 0, none⟩)), (4, .func (.func 110) #[] #[.pointer (some ⟨g3, 0, none⟩)]), (27, rowVal c.lat), (28, .int .i64 c.lat.2.2.length), (29, .int .i64 k)]) ⟨Nat.zero_le _, hX7, hS7⟩ (fun k w' h => h.1) ⟨rfl, rfl, rfl, rfl, rfl, rfl, rfl, trivial⟩ ?_
  clear hS4 hS5 hS6 hS7 y0 y1 y2 y3 y4 y5 y6 hX5 hX6 hX7
  rintro k w8 ⟨hk, hX8, hS8⟩
  obtain ⟨y0, y1, y2, y3, y4, y5, y6, _⟩ := hcells.ext hX8
  have Rl := hC.lat.row.ext (hxc.trans hX8)
  by_cases hlt : k < c.lat.2.2.length
  · obtain ⟨x, hgx⟩ := getI c.lat.2.2 hlt
    have hxu := hused x.2.1 (used_next (c := c.t) (List.mem_of_getElem? hgx))
    repeat' (first
      | (show WL _ _ _ _ _ _ _; first | apply WL.nil | (refine WL.au (k := ?_)))
      | (show Z _ _ _ _ _; apply Z.then_normal)
      | (show W _ _ _ _ _ _; first | apply W.seq | apply W.region))
    refine W.condKT rfl (dec_true (by omega)) ?_
    repeat' (first
      | (apply WL.alloc tOk; exact rfl; exact rfl; exact rfl; intro gb w' hb hge hx; (obtain ⟨g6, rfl⟩ : ∃ x, x = gb := ⟨_, rfl⟩; obtain ⟨hge6, rfl⟩ : ∃ x, x = hge := ⟨_, rfl⟩))
      | (apply WL.storeB (w0 := w8) tOk; exact rfl; exact rfl; exact rfl; exact rfl; assumption; (exact extA); exact rfl; exact rfl; exact rfl; (exact extA); (first | assumption | omega | (focus (apply Nat.le_trans; rotate_left; assumption; exact Below.size (by (exact extA)); done))); intro w' hb hc hX' hU; have hcc := hc; obtain ⟨h1, h2, _⟩ := hc; (obtain ⟨w9, rfl⟩ : ∃ x, x = w' := ⟨_, rfl⟩; obtain ⟨hb9, rfl⟩ : ∃ x, x = hb := ⟨_, rfl⟩; obtain ⟨hX9, rfl⟩ : ∃ x, x = hX' := ⟨_, rfl⟩; have hC6 := cells_heap hb9; obtain ⟨i0, i1, i2, _⟩ := hC6))
      | (apply WL.lit tOk; exact rfl; exact rfl; exact rfl; exact rfl; exact rfl; exact rfl; (first | exact rfl | kernel_rfl | (simp [Instr.fill, catCells]; done)); exact rfl; intro gb w' hb hge hc hx; have hO := Own.of_block ([x.2.1]) encI_ok hb hge rfl; (obtain ⟨g36, rfl⟩ : ∃ x, x = gb := ⟨_, rfl⟩; obtain ⟨w10, rfl⟩ : ∃ x, x = w' := ⟨_, rfl⟩; obtain ⟨hx10, rfl⟩ : ∃ x, x = hx := ⟨_, rfl⟩; obtain ⟨hO10, rfl⟩ : ∃ x, x = hO := ⟨_, rfl⟩))
      | (show WL _ _ _ _ _ _ _; first | apply WL.nil | (refine WL.au (k := ?_)) | (apply WL.index tOk; exact rfl; exact rfl; exact rfl; exact rfl; exact rfl; exact rfl; exact rfl; exact rfl; assumption; (exact extA); exact rfl; omega; assumption; intro b off h; have hcc := h; first | (obtain ⟨h1, h2, h3, h4, h5, h6, _⟩ := h) | (obtain ⟨h1, h2, h3, _⟩ := h) | (obtain ⟨h1, h2, _⟩ := h) | (obtain ⟨h1, _⟩ := h)))
      | (show Z _ _ _ _ _; apply Z.then_normal)
      | (show W _ _ _ _ _ _; first | apply W.seq | apply W.region | apply W.block | apply W.skip))
    have hX810 : Ext w8 w10 := (by (exact extA))
    have hX10w : Ext wc w10 := hX8.trans hX810
    have hS10 := hS8.ext hX810
    have hrl : rm < w8.heap.size := (hS8.lt (i := 1) rfl rfl).2
    have hg36 : w8.heap.size ≤ g36 := Nat.le_trans (Below.size hX9) (hO10.blk_lt g36 rfl).1
    have R36 : Row 1 encI w10 (some ⟨g36, 0, none⟩) [x.2.1] := hO10.row encI_ok
    have e1 : addK (addK K0 ((c.lat.2.2.take k).map (fun x => x.2.1 / 2))) ([x.2.1].map (· / 2)) = addK K0 ((c.lat.2.2.take (k + 1)).map (fun x => x.2.1 / 2)) := by
      rw [addK_app, take_succ' hgx, List.map_append]; rfl
    repeat' (first
      | ((show WL _ _ _ (⟨_, .call ⟨.value (.tmp _), _, _⟩, _, _, _, _⟩ :: _) _ _ _; apply WL.call; exact rfl; exact rfl; exact rfl; exact rfl; exact renum_TrimS wc w10 g3 rm _ [x.2.1] _ _ [PG] hX10w hS10 R36 (new_ne (by omega)) (fun l hl => by rw [List.mem_singleton.1 hl]; exact hxu); rintro v' w11 ⟨rfl, hX11, hS11⟩))
      | (show WL _ _ _ _ _ _ _; first | apply WL.nil | (refine WL.au (k := ?_)))
      | (show Z _ _ _ _ _; first | apply Z.then_normal | apply Z.block_normal)
      | (show W _ _ _ _ _ _; apply W.region))
    rw [e1] at hS11
    exact Z.againW ⟨by omega, hX11, hS11⟩ ⟨rfl, rfl, rfl, rfl, rfl, rfl, rfl, trivial⟩
  obtain rfl : k = c.lat.2.2.length := by omega
  rw [List.take_length] at hS8
  have hks : ∀ v, v ∈ addK K0 (c.lat.2.2.map (fun x => x.2.1 / 2)) ↔ v ∈ c.t.roots.map (· / 2) := by
    intro v
    rw [hK0]
    simp only [addK_mem, List.map_append, List.mem_append, List.not_mem_nil, false_or, List.map_map, CirT.roots, Function.comp_def]
  have hK := KInv.start hg hks
  generalize addK K0 (c.lat.2.2.map (fun x => x.2.1 / 2)) = ks at hS8 hK
  have h7 : ¬ Twice c.t := fun ⟨i, x, h1, h2⟩ => by
    have h3 := List.pairwise_iff_getElem.1 (List.nodup_iff_pairwise_ne.1 hg.once)
    obtain ⟨j, hj, he⟩ := List.mem_take_iff_getElem.1 h2
    obtain ⟨hi, he2⟩ := List.getElem?_eq_some_iff.1 h1
    exact h3 j i (by omega) hi (by omega) (by rw [he, he2])
  have honce : Once c.gates.2.2 := once_of (c := c.t) h7 fun x hx => (hown x hx).2.1
  have hgm : ∀ g ∈ c.gates.2.2, g.1 ∈ c.t.own ∧ g.2.1 ∈ c.t.used ∧ g.2.2 ∈ c.t.used := fun g hg =>
    ⟨List.mem_append.2 (.inr (List.mem_map.2 ⟨g, hg, rfl⟩)), List.mem_append.2 (.inr (List.mem_flatMap.2 ⟨g, hg, by simp⟩)), List.mem_append.2 (.inr (List.mem_flatMap.2 ⟨g, hg, by simp⟩))⟩
  have hgG := hg
  have hok : gsOk c.gates.2.2 := fun g hg => by
    obtain ⟨r1, r2, r3⟩ := hgm g hg
    have := hown _ r1
    have e2 : 0 ≤ g.2.1 ∧ g.2.1 ≤ 2 * c.max + 1 := hgG.used _ r2
    have e3 : 0 ≤ g.2.2 ∧ g.2.2 ≤ 2 * c.max + 1 := hgG.used _ r3
    omega
  have hcc8 : Cells w8 gc 0 c.vals := hcells.ext hX8
  repeat' (first
    | (show WL _ _ _ _ _ _ _; first | apply WL.nil | (refine WL.au (k := ?_)))
    | (show Z _ _ _ _ _; apply Z.then_normal)
    | (show W _ _ _ _ _ _; first | apply W.seq | apply W.region))
  refine W.condKF rfl (dec_false (by omega)) ?_
  repeat' (first
    | ((show WL _ _ _ (⟨_, .call ⟨.value (.func 111), _, _⟩, _, _, _, _⟩ :: _) _ _ _); apply WL.call; exact rfl; exact rfl; exact rfl; exact rfl; exact circ_Order c _ (hC.gates.row.ext (hxc.trans (hX8.trans (by (exact extA))))) hok (by omega) honce; rintro v' w' ⟨hx, a', cap', rfl, hO⟩; (obtain ⟨hOd, rfl⟩ : ∃ x, x = hO := ⟨_, rfl⟩; obtain ⟨hxd, rfl⟩ : ∃ x, x = hx := ⟨_, rfl⟩; obtain ⟨w9, rfl⟩ : ∃ x, x = w' := ⟨_, rfl⟩; obtain ⟨ad, rfl⟩ : ∃ x, x = a' := ⟨_, rfl⟩; obtain ⟨cd, rfl⟩ : ∃ x, x = cap' := ⟨_, rfl⟩))
    | (show WL _ _ _ _ _ _ _; first | apply WL.nil | (refine WL.au (k := ?_)))
    | (show Z _ _ _ _ _; first | apply Z.then_normal | apply Z.then_exit | apply Z.block_exit)
    | (show W _ _ _ _ _ _; first | apply W.seq | apply W.region | apply W.exit))
  have hX89 : Ext w8 w9 := (by (exact extA))
  obtain ⟨OL, hOL⟩ : ∃ L, L = natI (ordL c.gates.2.2) := ⟨_, rfl⟩
  rw [← hOL] at hOd ⊢
  have hOll : OL.length = (ordL c.gates.2.2).length := by rw [hOL]; exact List.length_map _
  have hole := (ordL_is c.gates.2.2).1.le
  have hS9 := hS8.ext hX89
  have hg8 : w8.heap.size ≤ w8.heap.size := Nat.le_refl _
  repeat' (first
    | (((show WL _ _ _ (⟨_, .call ⟨.value (.func 112), _, _⟩, _, _, _, _⟩ :: _) _ _ _); apply WL.call; exact rfl; exact rfl; exact rfl; exact rfl; exact slices_Reverse w8 w9 ad cd OL hX89 (hOd.base (Below.size (by (exact extA)))) (by omega); rintro v' w10 ⟨rfl, hO10, hB10, hX10⟩))
    | (show WL _ _ _ _ _ _ _; first | apply WL.nil | (refine WL.au (k := ?_)))
    | (show Z _ _ _ _ _; apply Z.then_normal)
    | (show W _ _ _ _ _ _; first | apply W.seq | apply W.region | apply W.block))
  have hX8w := hX8
  have hS10 : Lt.Sep wc.heap.size w10 (mpP g3 rm ks ++ [PG, prow 1 encI 3 wc.heap.size ad cd OL.reverse]) := Sep.rot (Sep.newRow' hS8 hX10 hO10 (Below.size hX8))
  have hK0' : KInv c.t ks (OL.length - 0) := by rw [hOll]; exact hK
  refine W.loopW OL.length (fun k w' => k ≤ OL.length ∧ Ext wc w' ∧ ∃ ks, KInv c.t ks (OL.length - k) ∧ Lt.Sep wc.heap.size w' (mpP g3 rm ks ++ [PG, prow 1 encI 3 wc.heap.size ad cd OL.reverse])) (fun k => [(1, .pointer (some ⟨gc, 0, none⟩)), (2, .pointer (some ⟨g2, 0, none⟩)), (3, .pointer (some ⟨g3, 0, none⟩)), (4, .func (.func 110) #[] #[.pointer (some ⟨g3, 0, none⟩)]), (43, .slice ad OL.length cd), (44, .int .i64 OL.length), (45, .int .i64 k)]) ⟨Nat.zero_le _, hX8.trans hX10, ks, hK0', hS10⟩ (fun k w' h => h.1) ⟨rfl, rfl, rfl, rfl, rfl, rfl, rfl, trivial⟩ ?_
  clear hS10 hK0' hK hS9 hS8 hO10 hB10 hOd hX8w hcc8 y0 y1 y2 y3 y4 y5 y6 hX10 hX89 hxd hX8
  rintro k w11 ⟨hk, hX11, ks, hK, hS⟩
  obtain ⟨y0, y1, y2, y3, y4, y5, y6, _⟩ := hcells.ext hX11
  have hX11w : Ext w w11 := hxc.trans hX11
  by_cases hlt : k < OL.length
  · obtain ⟨i, hi⟩ := getI (ordL c.gates.2.2) (show OL.length - 1 - k < (ordL c.gates.2.2).length by omega)
    obtain ⟨g, hgg⟩ := getI c.gates.2.2 ((ordL_is c.gates.2.2).1.lt i (List.mem_of_getElem? hi))
    have hOi : OL.reverse[((k : Nat) : Int).toNat]? = some (i : Int) := by
      rw [Int.toNat_natCast, List.getElem?_reverse hlt, hOL, natI, List.getElem?_map, ← natI, ← hOL, hi]; rfl
    have hgi : c.gates.2.2[((i : Nat) : Int).toNat]? = some g := by rw [Int.toNat_natCast]; exact hgg
    have hlr : OL.reverse.length = OL.length := List.length_reverse
    have Rg := hC.gates.row.ext hX11w
    have hOo := hS.row (i := 3) rfl
    have RO := hOo.row encI_ok
    have hMp := hS.map (i := 1) rfl
    have hc3 := (cells_heap (hS.cell (i := 0) rfl)).1
    have hrl : rm < w11.heap.size := (hS.lt (i := 1) rfl rfl).2
    obtain ⟨r1, r2, r3⟩ := hgm g (List.mem_of_getElem? hgg)
    have b1 := hown _ r1
    have b2 := hused _ r2
    have b3 := hused _ r3
    have hK1 : KInv c.t ks ((OL.length - (k + 1)) + 1) := by rw [show OL.length - (k + 1) + 1 = OL.length - k by omega]; exact hK
    have hi' : (ordL c.t.gates)[OL.length - (k + 1)]? = some i := by rw [show OL.length - (k + 1) = OL.length - 1 - k by omega]; exact hi
    repeat' (first
      | (show WL _ _ _ _ _ _ _; first | apply WL.nil | (refine WL.au (k := ?_)))
      | (show Z _ _ _ _ _; apply Z.then_normal)
      | (show W _ _ _ _ _ _; first | apply W.seq | apply W.region))
    refine W.condKT rfl (dec_true (by omega)) ?_
    repeat' (first
      | ((apply WL.indexO tOk; exact rfl; exact rfl; exact rfl; exact rfl; exact rfl; exact rfl; exact rfl; exact rfl; exact hOo; exact (by (exact extA)); exact encI_ok; exact hlr; omega; exact hOi; intro gb ha hc; obtain ⟨h1, _⟩ := hc))
      | (apply WL.alloc tOk; exact rfl; exact rfl; exact rfl; intro gb w' hb hge hx; (obtain ⟨g10, rfl⟩ : ∃ x, x = gb := ⟨_, rfl⟩; obtain ⟨hge10, rfl⟩ : ∃ x, x = hge := ⟨_, rfl⟩))
      | (apply WL.storeB (w0 := w11) tOk; exact rfl; exact rfl; exact rfl; exact rfl; assumption; (exact extA); exact rfl; exact rfl; exact rfl; (exact extA); (first | assumption | omega | (focus (apply Nat.le_trans; rotate_left; assumption; exact Below.size (by (exact extA)); done))); intro w' hb hc hX' hU; have hcc := hc; obtain ⟨h1, h2, _⟩ := hc; (obtain ⟨w12, rfl⟩ : ∃ x, x = w' := ⟨_, rfl⟩; obtain ⟨hb12, rfl⟩ : ∃ x, x = hb := ⟨_, rfl⟩; obtain ⟨hX12, rfl⟩ : ∃ x, x = hX' := ⟨_, rfl⟩; have hC10 := cells_heap hb12; obtain ⟨i0, i1, i2, _⟩ := hC10))
      | ((apply WL.lookKeys tOk keyI; exact rfl; exact rfl; exact rfl; exact rfl; exact rfl; exact rfl; exact rfl; exact rfl; exact hMp.ext (by (exact extA))))
      | (show WL _ _ _ _ _ _ _; first | apply WL.nil | (refine WL.au (k := ?_)) | (apply WL.index tOk; exact rfl; exact rfl; exact rfl; exact rfl; exact rfl; exact rfl; exact rfl; exact rfl; assumption; (exact extA); exact rfl; omega; assumption; intro b off h; have hcc := h; first | (obtain ⟨h1, h2, h3, h4, h5, h6, _⟩ := h) | (obtain ⟨h1, h2, h3, _⟩ := h) | (obtain ⟨h1, h2, _⟩ := h) | (obtain ⟨h1, _⟩ := h)))
      | (show Z _ _ _ _ _; apply Z.then_normal)
      | (show W _ _ _ _ _ _; first | apply W.seq | apply W.region | apply W.block | apply W.skip))
    by_cases hin : g.1 / 2 ∈ ks
    · have hK2 := hK1.take hi' hgg hin
      refine W.condKT rfl (dec_true hin) ?_
      repeat' (first
        | (apply WL.lit tOk; exact rfl; exact rfl; exact rfl; exact rfl; exact rfl; exact rfl; (first | exact rfl | kernel_rfl | (simp [Instr.fill, catCells]; done)); exact rfl; intro gb w' hb hge hc hx; have hO := Own.of_block ([g.2.1, g.2.2]) encI_ok hb hge rfl; (obtain ⟨g64, rfl⟩ : ∃ x, x = gb := ⟨_, rfl⟩; obtain ⟨w13, rfl⟩ : ∃ x, x = w' := ⟨_, rfl⟩; obtain ⟨hx13, rfl⟩ : ∃ x, x = hx := ⟨_, rfl⟩; obtain ⟨hO13, rfl⟩ : ∃ x, x = hO := ⟨_, rfl⟩))
        | (show WL _ _ _ _ _ _ _; (refine WL.au (k := ?_)))
        | (show W _ _ _ _ _ _; apply W.region))
      have hX13 : Ext w11 w13 := (by (exact extA))
      have hg64 : w11.heap.size ≤ g64 := Nat.le_trans (Below.size hX12) (hO13.blk_lt g64 rfl).1
      have R64 : Row 1 encI w13 (some ⟨g64, 0, none⟩) [g.2.1, g.2.2] := hO13.row encI_ok
      repeat' (first
        | ((show WL _ _ _ (⟨_, .call ⟨.value (.tmp _), _, _⟩, _, _, _, _⟩ :: _) _ _ _; apply WL.call; exact rfl; exact rfl; exact rfl; exact rfl; exact renum_TrimS wc w13 g3 rm ks [g.2.1, g.2.2] _ _ [PG, prow 1 encI 3 wc.heap.size ad cd OL.reverse] (hX11.trans hX13) (hS.ext hX13) R64 (new_ne (by omega)) (fun l hl => by simp only [List.mem_cons, List.not_mem_nil, or_false] at hl; rcases hl with rfl | rfl; exact b2; exact b3); rintro v' w14 ⟨rfl, hX14, hS14⟩))
        | (show WL _ _ _ _ _ _ _; first | apply WL.nil | (refine WL.au (k := ?_)))
        | (show Z _ _ _ _ _; first | apply Z.then_normal | apply Z.block_normal)
        | (show W _ _ _ _ _ _; apply W.region))
      exact Z.againW ⟨by omega, hX14, _, hK2, hS14⟩ ⟨rfl, rfl, rfl, rfl, rfl, rfl, rfl, trivial⟩
    · have hK2 := hK1.skip hi' hgg hin
      refine W.condKF rfl (dec_false hin) ?_
      repeat' (first
        | (show WL _ _ _ _ _ _ _; first | apply WL.nil | (refine WL.au (k := ?_)))
        | (show Z _ _ _ _ _; first | apply Z.then_normal | apply Z.block_normal)
        | (show W _ _ _ _ _ _; first | apply W.region | apply W.skip))
      exact Z.againW ⟨by omega, hX11.trans hX12, ks, hK2, hS.ext hX12⟩ ⟨rfl, rfl, rfl, rfl, rfl, rfl, rfl, trivial⟩
  obtain rfl : k = OL.length := by omega
  rw [Nat.sub_self] at hK
  have hmem := hK.done
  have hcc11 : Cells w11 gc 0 c.vals := hcells.ext hX11
  repeat' (first
    | (show WL _ _ _ _ _ _ _; first | apply WL.nil | (refine WL.au (k := ?_)))
    | (show Z _ _ _ _ _; apply Z.then_normal)
    | (show W _ _ _ _ _ _; first | apply W.seq | apply W.region))
  refine W.condKF rfl (dec_false (by omega)) ?_
  repeat' (first
    | (((show WL _ _ _ (⟨_, .call ⟨.value (.func 89), _, _⟩, _, _, _, _⟩ :: _) _ _ _); apply WL.call; exact rfl; exact rfl; exact rfl; exact rfl; exact circ_Clone c w11 (hC.ext hX11w) hz hz7; rintro v' w12 ⟨hx12, d, rfl, hdt, hOd⟩))
    | (apply WL.alloc tOk; exact rfl; exact rfl; exact rfl; intro gb w' hb hge hx; (obtain ⟨g11, rfl⟩ : ∃ x, x = gb := ⟨_, rfl⟩; obtain ⟨w13, rfl⟩ : ∃ x, x = w' := ⟨_, rfl⟩; obtain ⟨hx13, rfl⟩ : ∃ x, x = hx := ⟨_, rfl⟩; obtain ⟨hge11, rfl⟩ : ∃ x, x = hge := ⟨_, rfl⟩))
    | (apply WL.storeB (w0 := w12) tOk; exact rfl; exact rfl; exact rfl; exact rfl; assumption; (exact extA); exact rfl; exact rfl; exact rfl; (exact extA); (first | assumption | omega | (focus (apply Nat.le_trans; rotate_left; assumption; exact Below.size (by (exact extA)); done))); intro w' hb hc hX' hU; have hcc := hc; obtain ⟨h1, h2, _⟩ := hc; (obtain ⟨w14, rfl⟩ : ∃ x, x = w' := ⟨_, rfl⟩; obtain ⟨hb14, rfl⟩ : ∃ x, x = hb := ⟨_, rfl⟩; obtain ⟨hX14, rfl⟩ : ∃ x, x = hX' := ⟨_, rfl⟩))
    | (show WL _ _ _ _ _ _ _; first | apply WL.nil | (refine WL.au (k := ?_)))
    | (show Z _ _ _ _ _; first | apply Z.then_normal | apply Z.then_exit | apply Z.block_exit)
    | (show W _ _ _ _ _ _; first | apply W.seq | apply W.region | apply W.exit))
  have hX11_14 : Ext w11 w14 := hx12.trans hX14
  have hS14 : Lt.Sep w11.heap.size w14 (pcell g11 d.vals.toArray 28 :: d.ps w11.heap.size) := Sep.newCell hOd.sep hX14 hb14 hge11 (Below.size hx12)
  have hSm := hS.ext hX11_14
  have hc2 : w11.heap[g2]? = some (.cells zC 28 (0, 0)) := by rw [hPG] at hS; exact hS.cell (i := 2) rfl
  clear hcc h1 h2 hU
  have hdg : d.gates.2.2 = c.gates.2.2 := congrArg CirT.gates hdt
  obtain ⟨y0, y1, y2, y3, y4, y5, y6, y7, y8, _⟩ := cells_heap (hS14.cell (i := 0) rfl)
  have hgl3 : g3 < w11.heap.size := (hS.lt (i := 0) rfl rfl).2
  have hrl3 : rm < w11.heap.size := (hS.lt (i := 1) rfl rfl).2
  have hc3 : w14.cell? ⟨g3, 0, none⟩ = some (.map (some rm)) := (cells_heap (hSm.cell (i := 0) rfl)).1
  have hM3 : MapIs encK isB w14 rm (keysL true ks) := hSm.map (i := 1) rfl
  have hdel : Lt.Spec Try.prog 113 [.slice d.gates.1 d.gates.2.2.length d.gates.2.1, .func (.func 114) #[] #[.pointer (some ⟨g3, 0, none⟩)]] w14 (fun v w15 => v = .slice d.gates.1 (c.gates.2.2.filter (keepG c.t)).length d.gates.2.1 ∧ Ext w11 w15 ∧ ∃ P : Piece, (∀ w16, P.P w16 → Row 3 enc3 w16 d.gates.1 (c.gates.2.2.filter (keepG c.t))) ∧ Lt.Sep w11.heap.size w15 [pcell g11 d.vals.toArray 28, prowZ 3 encY 110 w11.heap.size d.syms.1 d.syms.2.1 d.syms.2.2, P, prowZ 3 enc3 69 w11.heap.size d.lat.1 d.lat.2.1 d.lat.2.2, prowZ 1 encI 3 w11.heap.size d.cons.1 d.cons.2.1 d.cons.2.2, prowZ 1 encI 3 w11.heap.size d.bads.1 d.bads.2.1 d.bads.2.2, prowZ 1 encI 3 w11.heap.size d.outs.1 d.outs.2.1 d.outs.2.2, prowZ 1 encI 3 w11.heap.size d.ins.1 d.ins.2.1 d.ins.2.2]) := by
    by_cases hne : d.gates.2.2 = []
    · have e : c.gates.2.2.filter (keepG c.t) = [] := by rw [← hdg, hne]; rfl
      rw [e, hne]
      refine (slices_DeleteFunc0 w14 d.gates.1 d.gates.2.1 114 [.pointer (some ⟨g3, 0, none⟩)]).mono ?_
      rintro v w15 ⟨rfl, hx15⟩
      exact ⟨rfl, hX11_14.trans hx15, _, fun w16 _ => Row.nil _ _ _ _, hS14.ext hx15⟩
    · have hO : Own 3 enc3 106 w11.heap.size w14 d.gates.1 d.gates.2.1 d.gates.2.2 := hS14.rowZ (i := 2) rfl hne
      refine (slices_DeleteFuncG w11 w14 d.gates.1 d.gates.2.1 d.gates.2.2 114 [.pointer (some ⟨g3, 0, none⟩)] (fun g => !dec (g.1 / 2 ∈ ks)) (keepG c.t) hX11_14 hO (by rw [hdg]; exact z6) (fun x _ => congrArg (! ·) (dec_congr (hmem _))) (fun x hx w1 hB => ?_)).mono ?_
      · rw [hdg] at hx
        have hgx := hown _ (hgm x hx).1
        refine renum_Trim2 w1 g3 rm ks x (But.cell hB hc3 (fun he => ?_)) (hM3.keep (hB.block rm hM3.lt (fun he => ?_))) (by omega)
        · have := (hO.blk_lt g3 he).1; omega
        · have := (hO.blk_lt rm he.symm).1; omega
      · rintro v w15 ⟨rfl, hO15, hB15, hX15⟩
        rw [hdg] at hO15
        refine ⟨by rw [hdg], hX15, prow 3 enc3 106 w11.heap.size d.gates.1 d.gates.2.1 (c.gates.2.2.filter (keepG c.t)), fun w16 h => Own.row enc3_ok h, ?_⟩
        exact hS14.upd (i := 2) (p' := prow 3 enc3 106 w11.heap.size d.gates.1 d.gates.2.1 (c.gates.2.2.filter (keepG c.t))) rfl (by rw [prowZ_b hne]; exact hB15) hO15 (.inl (prowZ_b hne).symm) (Below.size hX11_14)
  repeat' (first
    | (((show WL _ _ _ (⟨_, .call ⟨.value (.func 113), _, _⟩, _, _, _, _⟩ :: _) _ _ _); apply WL.call; exact rfl; exact rfl; exact rfl; exact rfl; exact hdel; rintro v' w15 ⟨rfl, hX15, P, hP, hS15⟩))
    | (show WL _ _ _ _ _ _ _; (refine WL.au (k := ?_))))
  have hS := hS15
  clear hSm hS14 hS15
  have hC0 := hS.cell (i := 0) rfl
  repeat' (first
    | (apply WL.storeF (w0 := w11) tOk; exact rfl; exact rfl; exact rfl; exact rfl; assumption; (exact extA); exact rfl; exact rfl; exact rfl; exact rfl; (exact extA); (first | assumption | omega | (focus (apply Nat.le_trans; rotate_left; assumption; exact Below.size (by (exact extA))))); intro w' hb hX' hU; replace hS := Sep.updCell (i := 0) rfl hU hb hS (by (exact extA)) (by (first | exact Nat.le_refl _ | exact Below.size (by (exact extA)))); (try simp only [List.set_cons_zero, List.set_cons_succ] at hS); (try have hR0 := hS.row (i := 0) rfl); (try have hR1 := hS.row (i := 1) rfl); (try have hR2 := hS.row (i := 2) rfl); (try have hR3 := hS.row (i := 3) rfl); (try have hR4 := hS.row (i := 4) rfl); (try have hC0 := hS.cell (i := 0) rfl); (try have hD0 := (cells_heap hC0).1); (try have hE0 := (cells_heap hC0).2.1); (try have hF0 := (cells_heap hC0).2.2.1); (try have hG0 := (cells_heap hC0).2.2.2.1); (try have hC1 := hS.cell (i := 1) rfl); (try have hD1 := (cells_heap hC1).1); (try have hE1 := (cells_heap hC1).2.1); (try have hF1 := (cells_heap hC1).2.2.1); (try have hG1 := (cells_heap hC1).2.2.2.1); (try have hC2 := hS.cell (i := 2) rfl); (try have hD2 := (cells_heap hC2).1); (try have hE2 := (cells_heap hC2).2.1); (try have hF2 := (cells_heap hC2).2.2.1); (try have hG2 := (cells_heap hC2).2.2.2.1); (try have hC3 := hS.cell (i := 3) rfl); (try have hD3 := (cells_heap hC3).1); (try have hE3 := (cells_heap hC3).2.1); (try have hF3 := (cells_heap hC3).2.2.1); (try have hG3 := (cells_heap hC3).2.2.2.1); (try have hC4 := hS.cell (i := 4) rfl); (try have hD4 := (cells_heap hC4).1); (try have hE4 := (cells_heap hC4).2.1); (try have hF4 := (cells_heap hC4).2.2.1); (try have hG4 := (cells_heap hC4).2.2.2.1); (try have hM0 := hS.map (i := 0) rfl); (try have hM1 := hS.map (i := 1) rfl); (try have hM2 := hS.map (i := 2) rfl); (try have hM3 := hS.map (i := 3) rfl); (try have hM4 := hS.map (i := 4) rfl))
    | (show WL _ _ _ _ _ _ _; apply WL.nil)
    | (show Z _ _ _ _ _; apply Z.then_normal)
    | (show W _ _ _ _ _ _; first | apply W.seq | apply W.region))
  obtain ⟨dd, hdd⟩ : ∃ dd : Circ, dd = ⟨d.max, d.ins, d.lat, d.outs, d.bads, d.cons, (d.gates.1, d.gates.2.1, c.gates.2.2.filter (keepG c.t)), d.syms, d.com⟩ := ⟨_, rfl⟩
  have hcd : Cells w' g11 0 dd.vals := by rw [hdd]; exact cells_heap (hS.cell (i := 0) rfl)
  have hX16 : Ext w11 w' := hX'
  have hb2' : w'.heap[g2]? = some (.cells (Value.cells (.agg #[.int .i64 0, .slice none 0 0, .slice none 0 0, .slice none 0 0, .slice none 0 0, .slice none 0 0, .slice none 0 0, .slice none 0 0, .string ⟨#[]⟩])) 28 (0, 0)) := by
    rw [← hzC, hX16.block g2 (heap_lt hc2)]; exact hc2
  obtain ⟨w16, rfl⟩ : ∃ x, x = w' := ⟨_, rfl⟩
  have hg2w : w.heap.size ≤ g2 := Nat.le_trans hwc hge2
  have hg2l := heap_lt hc2
  have hXw16 : Ext w w16 := hX11w.trans hX16
  clear hU
  repeat' (first
    | (apply WL.storeB (w0 := w) tOk; exact rfl; exact rfl; exact rfl; exact rfl; assumption; (exact extA); exact rfl; exact rfl; exact rfl; (exact extA); (first | assumption | omega | (focus (apply Nat.le_trans; rotate_left; assumption; exact Below.size (by (exact extA)); done))); intro w' hb hc hX' hU; have hcc := hc; obtain ⟨h1, h2, _⟩ := hc; (obtain ⟨w17, rfl⟩ : ∃ x, x = w' := ⟨_, rfl⟩; obtain ⟨hb17, rfl⟩ : ∃ x, x = hb := ⟨_, rfl⟩; obtain ⟨hX17, rfl⟩ : ∃ x, x = hX' := ⟨_, rfl⟩))
    | (show WL _ _ _ _ _ _ _; first | apply WL.nil | (refine WL.au (k := ?_)))
    | (show Z _ _ _ _ _; apply Z.then_normal)
    | (show W _ _ _ _ _ _; apply W.ret))
  have hS17 := Sep.updOld2 hS hU hg2l
  have hcap := hOd.cap
  have hddt : dd.t = trimC c.t := by
    rw [hdd]
    show (⟨d.max, d.ins.2.2, d.lat.2.2, d.outs.2.2, d.bads.2.2, d.cons.2.2, c.gates.2.2.filter (keepG c.t), d.syms.2.2, d.com⟩ : CirT) = _
    unfold trimC
    rw [show d.max = c.max from congrArg CirT.max hdt, show d.ins.2.2 = c.ins.2.2 from congrArg CirT.ins hdt, show d.lat.2.2 = c.lat.2.2 from congrArg CirT.lat hdt, show d.outs.2.2 = c.outs.2.2 from congrArg CirT.outs hdt, show d.bads.2.2 = c.bads.2.2 from congrArg CirT.bads hdt, show d.cons.2.2 = c.cons.2.2 from congrArg CirT.cons hdt, show d.syms.2.2 = c.syms.2.2 from congrArg CirT.syms hdt, show d.com = c.com from congrArg CirT.com hdt]
  have hCd : CAt w17 dd := by
    rw [hdd]
    refine ⟨⟨rowZ_row2 encI_ok hS17 (i := 7) rfl, hcap.ins.1, hcap.ins.2⟩, ⟨rowZ_row2 enc3_ok hS17 (i := 3) rfl, hcap.lat.1, hcap.lat.2⟩, ⟨rowZ_row2 encI_ok hS17 (i := 6) rfl, hcap.outs.1, hcap.outs.2⟩, ⟨rowZ_row2 encI_ok hS17 (i := 5) rfl, hcap.bads.1, hcap.bads.2⟩,
      ⟨rowZ_row2 encI_ok hS17 (i := 4) rfl, hcap.cons.1, hcap.cons.2⟩, ⟨hP _ (hS17.holds 2 _ rfl).1, ?_, hcap.gates.2⟩, ⟨rowZ_row2 encY_ok hS17 (i := 1) rfl, hcap.syms.1, hcap.syms.2⟩⟩
    have h1 := hcap.gates.1
    rw [hdg] at h1
    exact Nat.le_trans (List.length_filter_le _ _) h1
  exact Z.bodyC tOk Try.results51 rfl rfl rfl rfl (cells_heap hb17) fun m => ⟨hX17.at m, dd, rfl, hddt, hCd.ext ((Ext.refl _).at m)⟩
end Go.Proofs.Ythpnahapiodflaa
namespace Go.Proofs.Ythpnahapiodflaa
open Go Go.Lt Go.RowKit
set_option linter.unusedVariables false
set_option linter.unusedSimpArgs false
set_option maxRecDepth 20000

/-- What the gates that stay need, of the first ones. -/
def gN (gs : List T3) (S : List Bool) : Nat → List Int
  | 0 => []
  | k + 1 => gN gs S k ++ (if S.getD k false = true then [(gs.getD k (0, 0, 0)).2.1 / 2, (gs.getD k (0, 0, 0)).2.2 / 2] else [])
theorem gN_yes {gs : List T3} {S : List Bool} {k : Nat} {g : T3} (hg : gs[k]? = some g) (hs : S[k]? = some true) : gN gs S (k + 1) = gN gs S k ++ [g.2.1 / 2, g.2.2 / 2] := by
  rw [gN, getD_of hg, getD_of hs, if_pos rfl]
theorem gN_no {gs : List T3} {S : List Bool} {k : Nat} (hs : S[k]? = some false) : gN gs S (k + 1) = gN gs S k := by
  rw [gN, getD_of hs, if_neg (by decide), List.append_nil]
theorem gN_len (gs : List T3) (S : List Bool) : ∀ k, (gN gs S k).length ≤ 2 * k
  | 0 => Nat.le_refl _
  | k + 1 => by
    have := gN_len gs S k
    rw [gN, List.length_append]
    split <;> simp <;> omega
theorem gN_mem {gs : List T3} {S : List Bool} {v : Int} : ∀ k, k ≤ gs.length → (v ∈ gN gs S k ↔ ∃ i g, i < k ∧ gs[i]? = some g ∧ S[i]? = some true ∧ (v = g.2.1 / 2 ∨ v = g.2.2 / 2))
  | 0, _ => by
    constructor
    · intro h; cases h
    · rintro ⟨i, g, hi, _⟩; omega
  | k + 1, hk => by
    obtain ⟨g, hg⟩ := getI gs (show k < gs.length by omega)
    have ih := gN_mem (v := v) (gs := gs) (S := S) k (by omega)
    rw [gN, List.mem_append, ih, getD_of hg]
    constructor
    · rintro (⟨i, x, hi, h1, h2, h3⟩ | h)
      · exact ⟨i, x, by omega, h1, h2, h3⟩
      · by_cases hs : S.getD k false = true
        · rw [if_pos hs] at h
          refine ⟨k, g, by omega, hg, ?_, by simpa using h⟩
          cases hS : S[k]? with
          | none => simp [List.getD, hS] at hs
          | some b => simp [List.getD, hS] at hs; rw [hs]
        · rw [if_neg hs] at h; cases h
    · rintro ⟨i, x, hi, h1, h2, h3⟩
      by_cases hik : i = k
      · subst hik
        rw [hg] at h1; cases h1
        right
        rw [getD_of h2, if_pos rfl]
        simpa using h3
      · exact .inl ⟨i, x, by omega, h1, h2, h3⟩
def needL (c : CirT) (S : List Bool) : List Int := c.lat.map (fun x => x.2.1 / 2) ++ c.outs.map (· / 2) ++ c.bads.map (· / 2) ++ c.cons.map (· / 2) ++ gN c.gates S c.gates.length
set_option maxHeartbeats 8000000 in
theorem ref16_needed (c : Circ) (sa : Option Addr) (sc : Nat) (S : List Bool) (w : World) (hC : CAt w c) (hz : SzC c.t 100000) (RS : Row 1 encB w sa S) (hS : S.length = c.gates.2.2.length) (hL : ∀ x ∈ c.t.used, 0 ≤ x ∧ x ≤ 100000000) :
    Lt.Spec Try.prog 115 [c.val, .slice sa S.length sc] w (IsFresh 1 encI 3 w (needL c.t S)) := by
  have z2 : c.lat.2.2.length ≤ 100000 := hz.2.1
  have z3 : c.outs.2.2.length ≤ 100000 := hz.2.2.1
  have z4 : c.bads.2.2.length ≤ 100000 := hz.2.2.2.1
  have z5 : c.cons.2.2.length ≤ 100000 := hz.2.2.2.2.1
  have z6 : c.gates.2.2.length ≤ 100000 := hz.2.2.2.2.2
  have hoL : ∀ l ∈ c.outs.2.2, 0 ≤ l ∧ l ≤ 100000000 := fun l hl => hL l (List.mem_append_left _ (List.mem_append_left _ (List.mem_append_left _ (List.mem_append_left _ hl))))
  have hbL : ∀ l ∈ c.bads.2.2, 0 ≤ l ∧ l ≤ 100000000 := fun l hl => hL l (used_bad (c := c.t) hl)
  have hnL : ∀ l ∈ c.cons.2.2, 0 ≤ l ∧ l ≤ 100000000 := fun l hl => hL l (used_con (c := c.t) hl)
  have hlL : ∀ x ∈ c.lat.2.2, 0 ≤ x.2.1 ∧ x.2.1 ≤ 100000000 := fun x hx => hL _ (used_next (c := c.t) hx)
  have hgL : ∀ g ∈ c.gates.2.2, (0 ≤ g.2.1 ∧ g.2.1 ≤ 100000000) ∧ (0 ≤ g.2.2 ∧ g.2.2 ≤ 100000000) := fun g hg => ⟨hL _ (List.mem_append.2 (.inr (List.mem_flatMap.2 ⟨g, hg, by simp⟩))), hL _ (List.mem_append.2 (.inr (List.mem_flatMap.2 ⟨g, hg, by simp⟩)))⟩
  refine Spec.of _ Try.func115 rfl Try.ntmps115 (by kernel_rfl) rfl ?_
  repeat' (first
    | (apply WL.box; exact rfl; exact rfl; exact rfl; intro gb w' hb hge hc hx; have hcc := hc; (first | (obtain ⟨h1, h2, h3, _⟩ := hc) | (obtain ⟨h1, h2, _⟩ := hc)); (obtain ⟨gc, rfl⟩ : ∃ x, x = gb := ⟨_, rfl⟩; obtain ⟨wc, rfl⟩ : ∃ x, x = w' := ⟨_, rfl⟩; obtain ⟨hxc, rfl⟩ : ∃ x, x = hx := ⟨_, rfl⟩; have hcells : Cells wc gc 0 c.vals := hcc))
    | (apply WL.lit (len := 0) tOk; exact rfl; exact rfl; exact rfl; exact rfl; exact rfl; exact rfl; (first | exact rfl | kernel_rfl | (simp [Instr.fill, catCells]; done)); exact rfl; intro gb w' hb hge hc hx; have hO0 := Own.of_block0 (enc := encI) (s := 1) hb hge)
    | (show WL _ _ _ _ _ _ _; first | apply WL.nil | (refine WL.au (k := ?_)))
    | (show Z _ _ _ _ _; apply Z.then_normal)
    | (show W _ _ _ _ _ _; first | apply W.seq | apply W.region | apply W.block))
  obtain ⟨g0, rfl⟩ : ∃ x, x = gb := ⟨_, rfl⟩; obtain ⟨w1, rfl⟩ : ∃ x, x = w' := ⟨_, rfl⟩
  have hXc1 : Ext wc w1 := hx
  obtain ⟨y0, y1, y2, y3, y4, y5, y6, _⟩ := hcells.ext hXc1
  refine W.loopO c.lat.2.2.length (fun k a cp w' => k ≤ c.lat.2.2.length ∧ Ext wc w' ∧ Own 1 encI 3 wc.heap.size w' a cp ((c.lat.2.2.take k).map fun x => x.2.1 / 2)) (fun k a cp => [(1, .slice sa S.length sc), (2, .pointer (some ⟨gc, 0, none⟩)), (5, .slice a ((c.lat.2.2.take k).map fun x => x.2.1 / 2).length cp), (6, .int .i64 k)]) (some ⟨g0, 0, none⟩) 0 ⟨Nat.zero_le _, hXc1, hO0⟩ (fun k a cp w' h => h.1) ⟨rfl, rfl, rfl, rfl, trivial⟩ ?_
  clear hO0 y0 y1 y2 y3 y4 y5 y6
  rintro k a cp w2 ⟨hk, hX2, hO2⟩
  obtain ⟨y0, y1, y2, y3, y4, y5, y6, _⟩ := hcells.ext hX2
  have RR := hC.lat.row.ext (hxc.trans hX2)
  by_cases hlt : k < c.lat.2.2.length
  · obtain ⟨x, hxx⟩ := getI c.lat.2.2 hlt
    have hxb := hlL x (List.mem_of_getElem? hxx)
    have e1 : ((c.lat.2.2.take (k + 1)).map fun x => x.2.1 / 2) = ((c.lat.2.2.take k).map fun x => x.2.1 / 2) ++ [x.2.1 / 2] := by rw [take_succ' hxx, List.map_append]; rfl
    have hll : ((c.lat.2.2.take k).map fun x => x.2.1 / 2).length = k := by rw [List.length_map, List.length_take]; omega
    generalize ((c.lat.2.2.take k).map fun x => x.2.1 / 2) = K at hO2 e1 hll ⊢
    have hl9 : K.length ≤ 1000000 := by omega
    repeat' (first
      | (apply W.condKT; exact rfl; (focus (exact dec_true (by omega); done)))
      | (apply WL.lit tOk; exact rfl; exact rfl; exact rfl; exact rfl; exact rfl; exact rfl; (first | exact rfl | kernel_rfl | (simp [Instr.fill, catCells]; done)); exact rfl; intro gb w' hb hge hc hx)
      | (apply WL.append1 (z := (x.2.1 / 2)) tOk encI_ok; exact rfl; exact rfl; exact rfl; exact rfl; exact rfl; exact rfl; exact rfl; exact rfl; exact rfl; exact rfl; assumption; (exact extA); (first | exact rfl | (focus (simp only [List.length_set]; done)) | (focus (simp; done)) | (focus (simp [*]; done)) | omega | (focus (simp only [List.length_set]; omega))); (first | assumption | (refine Cells.ext ?_ (by assumption); exact extA)); exact rfl; exact rfl; (exact extA); (first | omega | (simp; omega) | (simp at *; omega)); intro a' cap' w' hO hX' hU hF)
      | (show WL _ _ _ _ _ _ _; first | apply WL.nil | (refine WL.au (k := ?_)) | (apply WL.index tOk; exact rfl; exact rfl; exact rfl; exact rfl; exact rfl; exact rfl; exact rfl; exact rfl; assumption; (exact extA); exact rfl; omega; assumption; intro b off h; have hcc := h; first | (obtain ⟨h1, h2, h3, h4, h5, h6, _⟩ := h) | (obtain ⟨h1, h2, h3, _⟩ := h) | (obtain ⟨h1, h2, _⟩ := h) | (obtain ⟨h1, _⟩ := h)))
      | (show Z _ _ _ _ _; first | apply Z.then_normal | apply Z.block_normal)
      | (show W _ _ _ _ _ _; first | apply W.seq | apply W.region | apply W.block | apply W.skip))
    exact Z.againO a' cap' ⟨by omega, (by (exact extA)), by rw [e1]; exact hO⟩ (by rw [e1]; exact ⟨rfl, rfl, rfl, rfl, trivial⟩)
  obtain rfl : k = c.lat.2.2.length := by omega
  rw [List.take_length] at hO2 ⊢
  obtain ⟨L1, hL1⟩ : ∃ L, L = c.lat.2.2.map (fun x => x.2.1 / 2) := ⟨_, rfl⟩
  rw [← hL1] at hO2 ⊢
  have hl1 : L1.length ≤ 100000 := by rw [hL1]; rw [List.length_map]; omega
  repeat' (first
    | (show WL _ _ _ _ _ _ _; first | apply WL.nil | (refine WL.au (k := ?_)))
    | (show Z _ _ _ _ _; apply Z.then_normal)
    | (show W _ _ _ _ _ _; first | apply W.seq | apply W.region))
  refine W.condKF rfl (dec_false (by omega)) ?_
  repeat' (first
    | (show WL _ _ _ _ _ _ _; first | apply WL.nil | (refine WL.au (k := ?_)))
    | (show Z _ _ _ _ _; first | apply Z.then_normal | apply Z.then_exit | apply Z.block_exit)
    | (show W _ _ _ _ _ _; first | apply W.seq | apply W.region | apply W.block | apply W.exit))
  refine W.loopO c.outs.2.2.length (fun k a cp w' => k ≤ c.outs.2.2.length ∧ Ext wc w' ∧ Own 1 encI 3 wc.heap.size w' a cp (L1 ++ ((c.outs.2.2.take k).map fun x => x / 2))) (fun k a cp => [(1, .slice sa S.length sc), (2, .pointer (some ⟨gc, 0, none⟩)), (5, .slice a (L1 ++ ((c.outs.2.2.take k).map fun x => x / 2)).length cp), (7, .int .i64 k)]) a cp ⟨Nat.zero_le _, hX2, by rw [List.take_zero, List.map_nil, List.append_nil]; exact hO2⟩ (fun k a cp w' h => h.1) ⟨rfl, rfl, (by rw [List.take_zero, List.map_nil, List.append_nil]; exact rfl), rfl, trivial⟩ ?_
  clear hO2 y0 y1 y2 y3 y4 y5 y6 RR
  rintro k a cp w2 ⟨hk, hX2, hO2⟩
  obtain ⟨y0, y1, y2, y3, y4, y5, y6, _⟩ := hcells.ext hX2
  have RR := hC.outs.row.ext (hxc.trans hX2)
  by_cases hlt : k < c.outs.2.2.length
  · obtain ⟨x, hxx⟩ := getI c.outs.2.2 hlt
    have hxb := hoL x (List.mem_of_getElem? hxx)
    have e1 : ((c.outs.2.2.take (k + 1)).map fun x => x / 2) = ((c.outs.2.2.take k).map fun x => x / 2) ++ [x / 2] := by rw [take_succ' hxx, List.map_append]; rfl
    have hll : ((c.outs.2.2.take k).map fun x => x / 2).length = k := by rw [List.length_map, List.length_take]; omega
    generalize ((c.outs.2.2.take k).map fun x => x / 2) = K at hO2 e1 hll ⊢
    have hl9 : (L1 ++ K).length ≤ 1000000 := by rw [List.length_append]; omega
    repeat' (first
      | (apply W.condKT; exact rfl; (focus (exact dec_true (by omega); done)))
      | (apply WL.lit tOk; exact rfl; exact rfl; exact rfl; exact rfl; exact rfl; exact rfl; (first | exact rfl | kernel_rfl | (simp [Instr.fill, catCells]; done)); exact rfl; intro gb w' hb hge hc hx)
      | (apply WL.append1 (z := (x / 2)) tOk encI_ok; exact rfl; exact rfl; exact rfl; exact rfl; exact rfl; exact rfl; exact rfl; exact rfl; exact rfl; exact rfl; assumption; (exact extA); (first | exact rfl | (focus (simp only [List.length_set]; done)) | (focus (simp; done)) | (focus (simp [*]; done)) | omega | (focus (simp only [List.length_set]; omega))); (first | assumption | (refine Cells.ext ?_ (by assumption); exact extA)); exact rfl; exact rfl; (exact extA); (first | omega | (simp; omega) | (simp at *; omega)); intro a' cap' w' hO hX' hU hF)
      | (show WL _ _ _ _ _ _ _; first | apply WL.nil | (refine WL.au (k := ?_)) | (apply WL.index tOk; exact rfl; exact rfl; exact rfl; exact rfl; exact rfl; exact rfl; exact rfl; exact rfl; assumption; (exact extA); exact rfl; omega; assumption; intro b off h; have hcc := h; first | (obtain ⟨h1, h2, h3, h4, h5, h6, _⟩ := h) | (obtain ⟨h1, h2, h3, _⟩ := h) | (obtain ⟨h1, h2, _⟩ := h) | (obtain ⟨h1, _⟩ := h)))
      | (show Z _ _ _ _ _; first | apply Z.then_normal | apply Z.block_normal)
      | (show W _ _ _ _ _ _; first | apply W.seq | apply W.region | apply W.block | apply W.skip))
    exact Z.againO a' cap' ⟨by omega, (by (exact extA)), by rw [e1, ← List.append_assoc]; exact hO⟩ (by rw [e1, ← List.append_assoc]; exact ⟨rfl, rfl, rfl, rfl, trivial⟩)
  obtain rfl : k = c.outs.2.2.length := by omega
  rw [List.take_length] at hO2 ⊢
  obtain ⟨L2, hL2⟩ : ∃ L, L = L1 ++ c.outs.2.2.map (fun x => x / 2) := ⟨_, rfl⟩
  rw [← hL2] at hO2 ⊢
  have hl2 : L2.length ≤ 200000 := by rw [hL2]; rw [List.length_append, List.length_map]; omega
  repeat' (first
    | (show WL _ _ _ _ _ _ _; first | apply WL.nil | (refine WL.au (k := ?_)))
    | (show Z _ _ _ _ _; apply Z.then_normal)
    | (show W _ _ _ _ _ _; first | apply W.seq | apply W.region))
  refine W.condKF rfl (dec_false (by omega)) ?_
  repeat' (first
    | (show WL _ _ _ _ _ _ _; first | apply WL.nil | (refine WL.au (k := ?_)))
    | (show Z _ _ _ _ _; first | apply Z.then_normal | apply Z.then_exit | apply Z.block_exit)
    | (show W _ _ _ _ _ _; first | apply W.seq | apply W.region | apply W.block | apply W.exit))
  refine W.loopO c.bads.2.2.length (fun k a cp w' => k ≤ c.bads.2.2.length ∧ Ext wc w' ∧ Own 1 encI 3 wc.heap.size w' a cp (L2 ++ ((c.bads.2.2.take k).map fun x => x / 2))) (fun k a cp => [(1, .slice sa S.length sc), (2, .pointer (some ⟨gc, 0, none⟩)), (5, .slice a (L2 ++ ((c.bads.2.2.take k).map fun x => x / 2)).length cp), (8, .int .i64 k)]) a cp ⟨Nat.zero_le _, hX2, by rw [List.take_zero, List.map_nil, List.append_nil]; exact hO2⟩ (fun k a cp w' h => h.1) ⟨rfl, rfl, (by rw [List.take_zero, List.map_nil, List.append_nil]; exact rfl), rfl, trivial⟩ ?_
  clear hO2 y0 y1 y2 y3 y4 y5 y6 RR
  rintro k a cp w2 ⟨hk, hX2, hO2⟩
  obtain ⟨y0, y1, y2, y3, y4, y5, y6, _⟩ := hcells.ext hX2
  have RR := hC.bads.row.ext (hxc.trans hX2)
  by_cases hlt : k < c.bads.2.2.length
  · obtain ⟨x, hxx⟩ := getI c.bads.2.2 hlt
    have hxb := hbL x (List.mem_of_getElem? hxx)
    have e1 : ((c.bads.2.2.take (k + 1)).map fun x => x / 2) = ((c.bads.2.2.take k).map fun x => x / 2) ++ [x / 2] := by rw [take_succ' hxx, List.map_append]; rfl
    have hll : ((c.bads.2.2.take k).map fun x => x / 2).length = k := by rw [List.length_map, List.length_take]; omega
    generalize ((c.bads.2.2.take k).map fun x => x / 2) = K at hO2 e1 hll ⊢
    have hl9 : (L2 ++ K).length ≤ 1000000 := by rw [List.length_append]; omega
    repeat' (first
      | (apply W.condKT; exact rfl; (focus (exact dec_true (by omega); done)))
      | (apply WL.lit tOk; exact rfl; exact rfl; exact rfl; exact rfl; exact rfl; exact rfl; (first | exact rfl | kernel_rfl | (simp [Instr.fill, catCells]; done)); exact rfl; intro gb w' hb hge hc hx)
      | (apply WL.append1 (z := (x / 2)) tOk encI_ok; exact rfl; exact rfl; exact rfl; exact rfl; exact rfl; exact rfl; exact rfl; exact rfl; exact rfl; exact rfl; assumption; (exact extA); (first | exact rfl | (focus (simp only [List.length_set]; done)) | (focus (simp; done)) | (focus (simp [*]; done)) | omega | (focus (simp only [List.length_set]; omega))); (first | assumption | (refine Cells.ext ?_ (by assumption); exact extA)); exact rfl; exact rfl; (exact extA); (first | omega | (simp; omega) | (simp at *; omega)); intro a' cap' w' hO hX' hU hF)
      | (show WL _ _ _ _ _ _ _; first | apply WL.nil | (refine WL.au (k := ?_)) | (apply WL.index tOk; exact rfl; exact rfl; exact rfl; exact rfl; exact rfl; exact rfl; exact rfl; exact rfl; assumption; (exact extA); exact rfl; omega; assumption; intro b off h; have hcc := h; first | (obtain ⟨h1, h2, h3, h4, h5, h6, _⟩ := h) | (obtain ⟨h1, h2, h3, _⟩ := h) | (obtain ⟨h1, h2, _⟩ := h) | (obtain ⟨h1, _⟩ := h)))
      | (show Z _ _ _ _ _; first | apply Z.then_normal | apply Z.block_normal)
      | (show W _ _ _ _ _ _; first | apply W.seq | apply W.region | apply W.block | apply W.skip))
    exact Z.againO a' cap' ⟨by omega, (by (exact extA)), by rw [e1, ← List.append_assoc]; exact hO⟩ (by rw [e1, ← List.append_assoc]; exact ⟨rfl, rfl, rfl, rfl, trivial⟩)
  obtain rfl : k = c.bads.2.2.length := by omega
  rw [List.take_length] at hO2 ⊢
  obtain ⟨L3, hL3⟩ : ∃ L, L = L2 ++ c.bads.2.2.map (fun x => x / 2) := ⟨_, rfl⟩
  rw [← hL3] at hO2 ⊢
  have hl3 : L3.length ≤ 300000 := by rw [hL3]; rw [List.length_append, List.length_map]; omega
  repeat' (first
    | (show WL _ _ _ _ _ _ _; first | apply WL.nil | (refine WL.au (k := ?_)))
    | (show Z _ _ _ _ _; apply Z.then_normal)
    | (show W _ _ _ _ _ _; first | apply W.seq | apply W.region))
  refine W.condKF rfl (dec_false (by omega)) ?_
  repeat' (first
    | (show WL _ _ _ _ _ _ _; first | apply WL.nil | (refine WL.au (k := ?_)))
    | (show Z _ _ _ _ _; first | apply Z.then_normal | apply Z.then_exit | apply Z.block_exit)
    | (show W _ _ _ _ _ _; first | apply W.seq | apply W.region | apply W.block | apply W.exit))
  refine W.loopO c.cons.2.2.length (fun k a cp w' => k ≤ c.cons.2.2.length ∧ Ext wc w' ∧ Own 1 encI 3 wc.heap.size w' a cp (L3 ++ ((c.cons.2.2.take k).map fun x => x / 2))) (fun k a cp => [(1, .slice sa S.length sc), (2, .pointer (some ⟨gc, 0, none⟩)), (5, .slice a (L3 ++ ((c.cons.2.2.take k).map fun x => x / 2)).length cp), (9, .int .i64 k)]) a cp ⟨Nat.zero_le _, hX2, by rw [List.take_zero, List.map_nil, List.append_nil]; exact hO2⟩ (fun k a cp w' h => h.1) ⟨rfl, rfl, (by rw [List.take_zero, List.map_nil, List.append_nil]; exact rfl), rfl, trivial⟩ ?_
  clear hO2 y0 y1 y2 y3 y4 y5 y6 RR
  rintro k a cp w2 ⟨hk, hX2, hO2⟩
  obtain ⟨y0, y1, y2, y3, y4, y5, y6, _⟩ := hcells.ext hX2
  have RR := hC.cons.row.ext (hxc.trans hX2)
  by_cases hlt : k < c.cons.2.2.length
  · obtain ⟨x, hxx⟩ := getI c.cons.2.2 hlt
    have hxb := hnL x (List.mem_of_getElem? hxx)
    have e1 : ((c.cons.2.2.take (k + 1)).map fun x => x / 2) = ((c.cons.2.2.take k).map fun x => x / 2) ++ [x / 2] := by rw [take_succ' hxx, List.map_append]; rfl
    have hll : ((c.cons.2.2.take k).map fun x => x / 2).length = k := by rw [List.length_map, List.length_take]; omega
    generalize ((c.cons.2.2.take k).map fun x => x / 2) = K at hO2 e1 hll ⊢
    have hl9 : (L3 ++ K).length ≤ 1000000 := by rw [List.length_append]; omega
    repeat' (first
      | (apply W.condKT; exact rfl; (focus (exact dec_true (by omega); done)))
      | (apply WL.lit tOk; exact rfl; exact rfl; exact rfl; exact rfl; exact rfl; exact rfl; (first | exact rfl | kernel_rfl | (simp [Instr.fill, catCells]; done)); exact rfl; intro gb w' hb hge hc hx)
      | (apply WL.append1 (z := (x / 2)) tOk encI_ok; exact rfl; exact rfl; exact rfl; exact rfl; exact rfl; exact rfl; exact rfl; exact rfl; exact rfl; exact rfl; assumption; (exact extA); (first | exact rfl | (focus (simp only [List.length_set]; done)) | (focus (simp; done)) | (focus (simp [*]; done)) | omega | (focus (simp only [List.length_set]; omega))); (first | assumption | (refine Cells.ext ?_ (by assumption); exact extA)); exact rfl; exact rfl; (exact extA); (first | omega | (simp; omega) | (simp at *; omega)); intro a' cap' w' hO hX' hU hF)
      | (show WL _ _ _ _ _ _ _; first | apply WL.nil | (refine WL.au (k := ?_)) | (apply WL.index tOk; exact rfl; exact rfl; exact rfl; exact rfl; exact rfl; exact rfl; exact rfl; exact rfl; assumption; (exact extA); exact rfl; omega; assumption; intro b off h; have hcc := h; first | (obtain ⟨h1, h2, h3, h4, h5, h6, _⟩ := h) | (obtain ⟨h1, h2, h3, _⟩ := h) | (obtain ⟨h1, h2, _⟩ := h) | (obtain ⟨h1, _⟩ := h)))
      | (show Z _ _ _ _ _; first | apply Z.then_normal | apply Z.block_normal)
      | (show W _ _ _ _ _ _; first | apply W.seq | apply W.region | apply W.block | apply W.skip))
    exact Z.againO a' cap' ⟨by omega, (by (exact extA)), by rw [e1, ← List.append_assoc]; exact hO⟩ (by rw [e1, ← List.append_assoc]; exact ⟨rfl, rfl, rfl, rfl, trivial⟩)
  obtain rfl : k = c.cons.2.2.length := by omega
  rw [List.take_length] at hO2 ⊢
  obtain ⟨L4, hL4⟩ : ∃ L, L = L3 ++ c.cons.2.2.map (fun x => x / 2) := ⟨_, rfl⟩
  rw [← hL4] at hO2 ⊢
  have hl4 : L4.length ≤ 400000 := by rw [hL4]; rw [List.length_append, List.length_map]; omega
  repeat' (first
    | (show WL _ _ _ _ _ _ _; first | apply WL.nil | (refine WL.au (k := ?_)))
    | (show Z _ _ _ _ _; apply Z.then_normal)
    | (show W _ _ _ _ _ _; first | apply W.seq | apply W.region))
  refine W.condKF rfl (dec_false (by omega)) ?_
  repeat' (first
    | (show WL _ _ _ _ _ _ _; first | apply WL.nil | (refine WL.au (k := ?_)))
    | (show Z _ _ _ _ _; first | apply Z.then_normal | apply Z.then_exit | apply Z.block_exit)
    | (show W _ _ _ _ _ _; first | apply W.seq | apply W.region | apply W.block | apply W.exit))
  refine W.loopO c.gates.2.2.length (fun k a cp w' => k ≤ c.gates.2.2.length ∧ Ext wc w' ∧ Own 1 encI 3 wc.heap.size w' a cp (L4 ++ gN c.gates.2.2 S k)) (fun k a cp => [(1, .slice sa S.length sc), (2, .pointer (some ⟨gc, 0, none⟩)), (5, .slice a (L4 ++ gN c.gates.2.2 S k).length cp), (10, .int .i64 k)]) a cp ⟨Nat.zero_le _, hX2, by rw [gN, List.append_nil]; exact hO2⟩ (fun k a cp w' h => h.1) ⟨rfl, rfl, (by rw [gN, List.append_nil]; exact rfl), rfl, trivial⟩ ?_
  clear hO2 y0 y1 y2 y3 y4 y5 y6 RR
  rintro k a cp w2 ⟨hk, hX2, hO2⟩
  obtain ⟨y0, y1, y2, y3, y4, y5, y6, _⟩ := hcells.ext hX2
  have RR := hC.gates.row.ext (hxc.trans hX2)
  have RS2 := RS.ext (hxc.trans hX2)
  have hgl := gN_len c.gates.2.2 S k
  have hl9 : (L4 ++ gN c.gates.2.2 S k).length ≤ 1000000 := by rw [List.length_append]; omega
  by_cases hlt : k < c.gates.2.2.length
  · obtain ⟨x, hxx⟩ := getI c.gates.2.2 hlt
    obtain ⟨bb, hbb⟩ := getI S (show k < S.length by omega)
    obtain ⟨⟨b1, b2⟩, b3, b4⟩ := hgL x (List.mem_of_getElem? hxx)
    have hxx' : c.gates.2.2[((k : Nat) : Int).toNat]? = some x := by rw [Int.toNat_natCast]; exact hxx
    cases bb with
    | false =>
      have e1 := gN_no (gs := c.gates.2.2) hbb
      repeat' (first
        | (apply W.condKT; exact rfl; (focus (exact dec_true (by omega); done)))
        | (show WL _ _ _ _ _ _ _; first | apply WL.nil | (refine WL.au (k := ?_)) | (apply WL.index tOk; exact rfl; exact rfl; exact rfl; exact rfl; exact rfl; exact rfl; exact rfl; exact rfl; assumption; (exact extA); exact rfl; omega; assumption; intro b off h; have hcc := h; first | (obtain ⟨h1, h2, h3, h4, h5, h6, _⟩ := h) | (obtain ⟨h1, h2, h3, _⟩ := h) | (obtain ⟨h1, h2, _⟩ := h) | (obtain ⟨h1, _⟩ := h)))
        | (show Z _ _ _ _ _; first | apply Z.then_normal | apply Z.block_normal)
        | (show W _ _ _ _ _ _; first | apply W.seq | apply W.region | apply W.block | apply W.skip | (apply W.condF; exact rfl)))
      exact Z.againO a cp ⟨by omega, hX2, by rw [e1]; exact hO2⟩ (by rw [e1]; exact ⟨rfl, rfl, rfl, rfl, trivial⟩)
    | true =>
      have e1 := gN_yes hxx hbb
      repeat' (first
        | (show WL _ _ _ _ _ _ _; first | apply WL.nil | (refine WL.au (k := ?_)))
        | (show Z _ _ _ _ _; apply Z.then_normal)
        | (show W _ _ _ _ _ _; first | apply W.seq | apply W.region))
      refine W.condKT rfl (dec_true (by omega)) ?_
      repeat' (first
        | (show WL _ _ _ _ _ _ _; first | apply WL.nil | (refine WL.au (k := ?_)) | (apply WL.index tOk; exact rfl; exact rfl; exact rfl; exact rfl; exact rfl; exact rfl; exact rfl; exact rfl; assumption; (exact extA); exact rfl; omega; assumption; intro b off h; have hcc := h; first | (obtain ⟨h1, h2, h3, h4, h5, h6, _⟩ := h) | (obtain ⟨h1, h2, h3, _⟩ := h) | (obtain ⟨h1, h2, _⟩ := h) | (obtain ⟨h1, _⟩ := h)))
        | (show Z _ _ _ _ _; apply Z.then_normal)
        | (show W _ _ _ _ _ _; first | apply W.seq | apply W.region | apply W.block | apply W.skip))
      refine W.condKT rfl rfl ?_
      have RRc := hC.gates.row.ext hxc
      obtain ⟨u0, u1, u2, u3, u4, u5, u6, _⟩ := id hcells
      repeat' (first
        | (show W _ _ (.region 22 _ _) _ _ _; apply W.regionG (.fl true 0 (.fl true 1 (.fl true 3 (.fl true 8 (.fl true 10 (.fl false 2 (.fl true 4 (.fl true 5 (.fl false 6 (.fl true 7 (.fl false 9 (.fl true 11 (.fl true 12 (.fl false 13 (.fl true 14 (.br 15 (.br 16 (.fl true 17 .done) .stop) .stop)))))))))))))))) [5, 6, 7, 9, 11, 12, 13, 14, 15, 16] (Ext wc) tMix; kernel_rfl)
        | (apply WL.lit tOk; exact rfl; exact rfl; exact rfl; exact rfl; exact rfl; exact rfl; (first | exact rfl | kernel_rfl | (simp [Instr.fill, catCells]; done)); exact rfl; intro gb w' hb hge hc hx; have hO := Own.of_block ([x.2.1 / 2, x.2.2 / 2]) encI_ok hb hge rfl; (obtain ⟨g9, rfl⟩ : ∃ x, x = gb := ⟨_, rfl⟩; obtain ⟨w3, rfl⟩ : ∃ x, x = w' := ⟨_, rfl⟩; obtain ⟨hO3, rfl⟩ : ∃ x, x = hO := ⟨_, rfl⟩; obtain ⟨hx3, rfl⟩ : ∃ x, x = hx := ⟨_, rfl⟩; have hOr := hO3.row encI_ok))
        | (apply WL.appendS tOk encI_ok; exact rfl; exact rfl; exact rfl; exact rfl; exact rfl; exact rfl; exact rfl; exact rfl; exact rfl; exact rfl; assumption; (exact extA); (first | exact rfl | (focus (simp only [List.length_set]; done)) | (focus (simp; done)) | (focus (simp [*]; done)) | omega | (focus (simp only [List.length_set]; omega))); assumption; (exact extA); (first | exact rfl | (focus (simp only [List.length_set]; done)) | (focus (simp; done)) | (focus (simp [*]; done)) | omega | (focus (simp only [List.length_set]; omega))); (first | assumption | (intro h; cases h) | exact Own.noneCap (by assumption)); exact rfl; (exact extA); (first | omega | (simp; omega) | (simp at *; omega)); intro a' cap' w' hO hX' hU hF)
        | (show WL _ _ _ _ _ _ _; first | apply WL.nil | (refine WL.au (k := ?_)))
        | (show SG _ _ _ _ _ _ _ _ _; first | apply SG.done | (apply SG.fl0; exact rfl) | (apply SG.fl1; exact rfl; (focus ((intro m; first | assumption | (apply Ext.at; (exact extA)) | apply But.of_at; first | exact But.upd (by assumption) | exact But.ext (by (exact extA)) | (refine But.trans ?_ (But.upd (by assumption)); exact But.ext (by (exact extA))) | exact But.at _ _ _); done))) | (apply SG.br1; exact rfl))
        | (show FL _ _ _ _ _ _ _ _; first | (apply FL.loadE tOk; exact rfl; exact rfl; exact rfl; exact rfl; exact rfl; assumption) | (apply FL.indexE tOk; exact rfl; exact rfl; exact rfl; exact rfl; exact rfl; exact rfl; exact rfl; exact rfl; assumption; exact rfl; omega; assumption; intro b off h; have hcc := h; first | (obtain ⟨h1, h2, h3, h4, h5, h6, _⟩ := h) | (obtain ⟨h1, h2, h3, _⟩ := h) | (obtain ⟨h1, h2, _⟩ := h) | (obtain ⟨h1, _⟩ := h)))
        | (show FL _ _ _ _ _ _ _ _; first | apply FL.nilS | (refine FL.au (k := ?_)))
        | (show Z _ _ _ _ _; (apply Z.sgE; (focus ((intro m; first | assumption | (apply Ext.at; (exact extA)) | apply But.of_at; first | exact But.upd (by assumption) | exact But.ext (by (exact extA)) | (refine But.trans ?_ (But.upd (by assumption)); exact But.ext (by (exact extA))) | exact But.at _ _ _); done))))
        | (show Z _ _ _ _ _; first | apply Z.then_normal | apply Z.block_normal)
        | (show W _ _ _ _ _ _; apply W.region))
      exact Z.againO a' cap' ⟨by omega, (by (exact extA)), by rw [e1, ← List.append_assoc]; exact hO⟩ (by rw [e1, ← List.append_assoc]; exact ⟨rfl, rfl, rfl, rfl, trivial⟩)
  obtain rfl : k = c.gates.2.2.length := by omega
  repeat' (first
    | (apply W.condKF; exact rfl; (focus (exact dec_false (by omega); done)))
    | (show WL _ _ _ _ _ _ _; first | apply WL.nil | (refine WL.au (k := ?_)))
    | (show Z _ _ _ _ _; first | apply Z.then_normal | apply Z.then_exit | apply Z.block_exit)
    | (show W _ _ _ _ _ _; first | apply W.seq | apply W.region | apply W.ret | apply W.exit))
  have e : L4 ++ gN c.gates.2.2 S c.gates.2.2.length = needL c.t S := by rw [hL4, hL3, hL2, hL1]; rfl
  exact Z.body1 Try.results115 rfl fun m => ⟨(hxc.trans hX2).at m, a, cp, by rw [e], by rw [← e]; exact (hO2.base (Below.size hxc)).ext ((Ext.refl _).at m)⟩
end Go.Proofs.Ythpnahapiodflaa
namespace Go.Proofs.Ythpnahapiodflaa
open Go Go.Lt Go.RowKit
set_option linter.unusedVariables false
set_option linter.unusedSimpArgs false
set_option maxRecDepth 20000

structure SInv (c : CirT) (S : List Bool) : Prop where
  len : S.length = c.gates.length
  sound : ∀ (i : Nat) (g : T3), S[i]? = some true → c.gates[i]? = some g → NeedC c (g.1 / 2)
theorem needL_mem {c : CirT} {S : List Bool} {v : Int} : v ∈ needL c S ↔ v ∈ c.roots.map (· / 2) ∨ ∃ (i : Nat) (g : T3), c.gates[i]? = some g ∧ S[i]? = some true ∧ (v = g.2.1 / 2 ∨ v = g.2.2 / 2) := by
  unfold needL
  rw [List.mem_append, gN_mem _ (Nat.le_refl _)]
  constructor
  · rintro (h | ⟨i, g, _, h1, h2, h3⟩)
    · left
      simp only [CirT.roots, List.map_append, List.mem_append, List.map_map, Function.comp_def] at h ⊢
      rcases h with ((h | h) | h) | h
      · exact .inr h
      · exact .inl (.inl (.inl h))
      · exact .inl (.inl (.inr h))
      · exact .inl (.inr h)
    · exact .inr ⟨i, g, h1, h2, h3⟩
  · rintro (h | ⟨i, g, h1, h2, h3⟩)
    · left
      simp only [CirT.roots, List.map_append, List.mem_append, List.map_map, Function.comp_def] at h ⊢
      rcases h with ((h | h) | h) | h
      · exact .inl (.inl (.inr h))
      · exact .inl (.inr h)
      · exact .inr h
      · exact .inl (.inl (.inl h))
    · exact .inr ⟨i, g, lt_of_get h1, h1, h2, h3⟩
theorem SInv.need {c : CirT} {S : List Bool} (h : SInv c S) {v : Int} (hv : v ∈ needL c S) : NeedC c v := by
  rcases needL_mem.1 hv with hv | ⟨i, g, h1, h2, h3⟩
  · obtain ⟨l, hl, rfl⟩ := List.mem_map.1 hv
    exact .root hl
  · have h4 := h.sound i g h2 h1
    rcases h3 with rfl | rfl
    · exact .left (List.mem_of_getElem? h1) h4
    · exact .right (List.mem_of_getElem? h1) h4
def ClosedS (c : CirT) (S : List Bool) : Prop := ∀ (i : Nat) (g : T3), c.gates[i]? = some g → g.1 / 2 ∈ needL c S → S[i]? = some true
theorem ClosedS.all {c : CirT} {S : List Bool} (h : ClosedS c S) : ∀ v, NeedC c v → v ∈ needL c S := by
  intro v hv
  induction hv with
  | root hl => exact needL_mem.2 (.inl (List.mem_map.2 ⟨_, hl, rfl⟩))
  | left hg _ ih =>
    obtain ⟨i, hi⟩ := List.mem_iff_getElem?.1 hg
    exact needL_mem.2 (.inr ⟨i, _, hi, h i _ hi ih, .inl rfl⟩)
  | right hg _ ih =>
    obtain ⟨i, hi⟩ := List.mem_iff_getElem?.1 hg
    exact needL_mem.2 (.inr ⟨i, _, hi, h i _ hi ih, .inr rfl⟩)
theorem stay_keep {c : CirT} {S : List Bool} (h : SInv c S) (hc : ClosedS c S) {i : Nat} {g : T3} (hg : c.gates[i]? = some g) : S[i]? = some (keepG c g) := by
  obtain ⟨b, hb⟩ := getI S (show i < S.length by rw [h.len]; exact lt_of_get hg)
  rw [hb]
  congr 1
  cases b with
  | true => exact (keepG_iff.2 (h.sound i g hb hg)).symm
  | false =>
    symm
    refine Bool.eq_false_iff.2 fun hk => ?_
    have := hc i g hg (hc.all _ (keepG_iff.1 hk))
    rw [hb] at this; cases this
/-- How many do not stay. -/
def outs (S : List Bool) : Nat := S.count false
theorem outs_set {S : List Bool} {k : Nat} (h : S[k]? = some false) : outs (S.set k true) + 1 = outs S := by
  have hk := lt_of_get h
  have he : S[k] = false := by rw [List.getElem?_eq_getElem hk] at h; exact Option.some.inj h
  have hm : false ∈ S := by rw [← he]; exact List.getElem_mem hk
  have hp := List.count_pos_iff.2 hm
  unfold outs
  rw [List.count_set hk, he]
  simp
  omega
/-- In the middle of a round. -/
structure RdS (c : CirT) (S0 S : List Bool) (d : Bool) (k : Nat) : Prop where
  inv : SInv c S
  done : d = true → S = S0 ∧ ∀ (i : Nat) (g : T3), i < k → c.gates[i]? = some g → g.1 / 2 ∈ needL c S0 → S0[i]? = some true
  less : d = false → outs S < outs S0
theorem RdS.start {c : CirT} {S : List Bool} (h : SInv c S) : RdS c S S true 0 := ⟨h, fun _ => ⟨rfl, fun i g hi => absurd hi (Nat.not_lt_zero _)⟩, fun h => by cases h⟩
theorem RdS.skip {c : CirT} {S0 S : List Bool} {d : Bool} {k : Nat} {g : T3} (h : RdS c S0 S d k) (hg : c.gates[k]? = some g) (hs : S[k]? = some true ∨ ¬ g.1 / 2 ∈ needL c S0) : RdS c S0 S d (k + 1) := by
  refine ⟨h.inv, fun hd => ?_, h.less⟩
  obtain ⟨h1, h2⟩ := h.done hd
  refine ⟨h1, fun i x hi hx hn => ?_⟩
  by_cases hik : i = k
  · subst hik
    rw [hg] at hx; cases hx
    rcases hs with hs | hs
    · rw [← h1]; exact hs
    · exact absurd hn hs
  · exact h2 i x (by omega) hx hn
theorem RdS.put {c : CirT} {S0 S : List Bool} {d : Bool} {k : Nat} {g : T3} (h : RdS c S0 S d k) (h0 : SInv c S0) (hg : c.gates[k]? = some g) (hs : S[k]? = some false) (hn : g.1 / 2 ∈ needL c S0) : RdS c S0 (S.set k true) false (k + 1) := by
  have hl := outs_set hs
  refine ⟨⟨by rw [List.length_set]; exact h.inv.len, fun i x hi hx => ?_⟩, (fun hd => by cases hd), fun _ => ?_⟩
  · by_cases hik : i = k
    · subst hik
      rw [hg] at hx; cases hx
      exact h0.need hn
    · rw [List.getElem?_set_ne (fun h => hik h.symm)] at hi
      exact h.inv.sound i x hi hx
  · cases d with
    | true => rw [(h.done rfl).1] at hl ⊢; omega
    | false => have := h.less rfl; omega
theorem keep_take {c : CirT} {k : Nat} {g : T3} (hg : c.gates[k]? = some g) : (c.gates.take (k + 1)).filter (keepG c) = (c.gates.take k).filter (keepG c) ++ (if keepG c g = true then [g] else []) := by
  rw [take_succ' hg, List.filter_append]
  by_cases h : keepG c g = true
  · rw [if_pos h]; simp [h]
  · rw [if_neg h]; simp [h]
set_option maxHeartbeats 16000000 in
theorem ref16_Trim (c : Circ) (w : World) (hC : CAt w c) (hg : GoodC' c.t) (hz : SzC c.t 100000) :
    Lt.Spec Try.prog 52 [c.val] w (fun v w' => Ext w w' ∧ ∃ d : Circ, v = d.val ∧ d.t = trimC c.t ∧ CAt w' d) := by
  have z6 : c.gates.2.2.length ≤ 100000 := hz.2.2.2.2.2
  have hm : 0 ≤ c.max ∧ c.max ≤ 16777216 := hg.max
  have hown : ∀ x ∈ c.t.own, 2 ≤ x ∧ x % 2 = 0 ∧ x ≤ 2 * c.max := hg.own
  have hused : ∀ x ∈ c.t.used, 0 ≤ x ∧ x ≤ 100000000 := fun x hx => by have : 0 ≤ x ∧ x ≤ 2 * c.max + 1 := hg.used x hx; omega
  refine Spec.of _ Try.func52 rfl Try.ntmps52 (by kernel_rfl) rfl ?_
  repeat' (first
    | (apply WL.box; exact rfl; exact rfl; exact rfl; intro gb w' hb hge hc hx; have hcc := hc; (first | (obtain ⟨h1, h2, h3, _⟩ := hc) | (obtain ⟨h1, h2, _⟩ := hc)); (obtain ⟨gc, rfl⟩ : ∃ x, x = gb := ⟨_, rfl⟩; obtain ⟨wc, rfl⟩ : ∃ x, x = w' := ⟨_, rfl⟩; obtain ⟨hxc, rfl⟩ : ∃ x, x = hx := ⟨_, rfl⟩; have hcells : Cells wc gc 0 c.vals := hcc))
    | (apply WL.alloc tOk; exact rfl; exact rfl; exact rfl; intro gb w' hb hge hx; (obtain ⟨g2, rfl⟩ : ∃ x, x = gb := ⟨_, rfl⟩; obtain ⟨w2, rfl⟩ : ∃ x, x = w' := ⟨_, rfl⟩; obtain ⟨hx2, rfl⟩ : ∃ x, x = hx := ⟨_, rfl⟩; obtain ⟨hb2, rfl⟩ : ∃ x, x = hb := ⟨_, rfl⟩; obtain ⟨hge2, rfl⟩ : ∃ x, x = hge := ⟨_, rfl⟩))
    | (show WL _ _ _ _ _ _ _; first | apply WL.nil | (refine WL.au (k := ?_)))
    | (show Z _ _ _ _ _; apply Z.then_normal)
    | (show W _ _ _ _ _ _; first | apply W.seq | apply W.region))
  obtain ⟨y0, y1, y2, y3, y4, y5, y6, _⟩ := hcells.ext hx2
  clear hcc h1 h2
  repeat' (first
    | (apply WL.make (w0 := wc) (z := false) tOk; exact rfl; exact rfl; exact rfl; exact rfl; exact rfl; exact rfl; exact rfl; exact rfl; exact rfl; exact encB_ok; exact rfl; exact rfl; (exact extA); (first | omega | (simp; omega) | (simp at *; omega)); intro gb w' hO hge hx; (obtain ⟨g3, rfl⟩ : ∃ x, x = gb := ⟨_, rfl⟩; obtain ⟨w3, rfl⟩ : ∃ x, x = w' := ⟨_, rfl⟩; obtain ⟨hO3, rfl⟩ : ∃ x, x = hO := ⟨_, rfl⟩; obtain ⟨hge3, rfl⟩ : ∃ x, x = hge := ⟨_, rfl⟩; obtain ⟨hx3, rfl⟩ : ∃ x, x = hx := ⟨_, rfl⟩))
    | (show WL _ _ _ _ _ _ _; first | apply WL.nil | (refine WL.au (k := ?_)))
    | (show Z _ _ _ _ _; apply Z.then_normal)
    | (show W _ _ _ _ _ _; first | apply W.seq | apply W.block))
  simp only [Int.toNat_natCast, List.length_replicate] at hO3 ⊢
  obtain ⟨zC, hzC⟩ : ∃ z : Array Value, z = Value.cells (.agg #[.int .i64 0, .slice none 0 0, .slice none 0 0, .slice none 0 0, .slice none 0 0, .slice none 0 0, .slice none 0 0, .slice none 0 0, .string ⟨#[]⟩]) := ⟨_, rfl⟩
  obtain ⟨PG, hPG⟩ : ∃ P, P = pcell g2 zC 28 := ⟨_, rfl⟩
  have hS2 : Lt.Sep wc.heap.size w2 [PG] := by
    have hb2' : w2.heap[g2]? = some (.cells zC 28 (0, 0)) := by rw [hzC]; exact hb2
    rw [hPG]; exact Sep.newCell Sep.none' hx2 hb2' hge2 (Nat.le_refl _)
  have hS3 : Lt.Sep wc.heap.size w3 [prow 1 encB 4 wc.heap.size (some ⟨g3, 0, none⟩) c.gates.2.2.length (List.replicate c.gates.2.2.length false), PG] := Sep.newRow hS2 hx3 hO3 (fun k hk => by cases hk; exact hge3) (Below.size hx2)
  have hX3 : Ext wc w3 := hx2.trans hx3
  have hI0 : SInv c.t (List.replicate c.gates.2.2.length false) := ⟨List.length_replicate, fun i g h _ => by
    rw [List.getElem?_replicate] at h
    split at h
    · cases h
    · cases h⟩
  refine W.loop (σ := (List Bool × Bool) × World) (fun s => SInv c.t s.1.1 ∧ (s.1.2 = true → ClosedS c.t s.1.1) ∧ Ext wc s.2 ∧ Lt.Sep wc.heap.size s.2 [prow 1 encB 4 wc.heap.size (some ⟨g3, 0, none⟩) c.gates.2.2.length s.1.1, PG]) (fun s => [(1, .pointer (some ⟨gc, 0, none⟩)), (2, .pointer (some ⟨g2, 0, none⟩)), (3, .slice (some ⟨g3, 0, none⟩) c.gates.2.2.length c.gates.2.2.length), (4, .bool s.1.2)]) (fun s => s.2) (fun s => 2 * outs s.1.1 + (bif s.1.2 then 0 else 1)) ((List.replicate c.gates.2.2.length false, false), w3) ⟨hI0, (fun h => by cases h), hX3, hS3⟩ ⟨rfl, rfl, rfl, rfl, trivial⟩ rfl ?_
  clear hS3 hX3 hI0 hO3 y0 y1 y2 y3 y4 y5 y6 hS2
  rintro ⟨⟨S0, d0⟩, w4⟩ ⟨hI, hcl, hX4, hS4⟩
  dsimp only at hI hcl hX4 hS4 ⊢
  have hX4w : Ext w w4 := hxc.trans hX4
  have hlen0 := hI.len
  cases d0 with
  | false =>
    have hcc4 : Cells w4 gc 0 c.vals := hcells.ext hX4
    have RS4 := (hS4.row (i := 0) rfl).row encB_ok
    have hned := ref16_needed c (some ⟨g3, 0, none⟩) c.gates.2.2.length S0 w4 (hC.ext hX4w) hz RS4 hlen0 hused
    rw [show S0.length = c.gates.2.2.length from hlen0] at hned
    repeat' (first
      | (show WL _ _ _ _ _ _ _; first | apply WL.nil | (refine WL.au (k := ?_)))
      | (show Z _ _ _ _ _; apply Z.then_normal)
      | (show W _ _ _ _ _ _; first | apply W.seq | apply W.region))
    refine W.condKT rfl rfl ?_
    repeat' (first
      | (apply WL.call; exact rfl; exact rfl; exact rfl; exact rfl; exact hned; rintro v' w' ⟨hx, a', cap', rfl, hO⟩; (obtain ⟨al, rfl⟩ : ∃ x, x = a' := ⟨_, rfl⟩; obtain ⟨cl, rfl⟩ : ∃ x, x = cap' := ⟨_, rfl⟩; obtain ⟨w5, rfl⟩ : ∃ x, x = w' := ⟨_, rfl⟩; obtain ⟨hO5, rfl⟩ : ∃ x, x = hO := ⟨_, rfl⟩; obtain ⟨hx5, rfl⟩ : ∃ x, x = hx := ⟨_, rfl⟩))
      | (show WL _ _ _ _ _ _ _; first | apply WL.nil | (refine WL.au (k := ?_)))
      | (show Z _ _ _ _ _; apply Z.then_normal)
      | (show W _ _ _ _ _ _; first | apply W.seq | apply W.region | apply W.block | apply W.skip))
    have hX5 : Ext wc w5 := hX4.trans hx5
    obtain ⟨NL, hNL⟩ : ∃ L, L = needL c.t S0 := ⟨_, rfl⟩
    rw [← hNL] at hO5 ⊢
    have hS5 : Lt.Sep wc.heap.size w5 [prow 1 encI 3 wc.heap.size al cl NL, prow 1 encB 4 wc.heap.size (some ⟨g3, 0, none⟩) c.gates.2.2.length S0, PG] := Sep.newRow' hS4 hx5 hO5 (Below.size hX4)
    refine W.loop (σ := (List Bool × Bool × Nat) × World) (fun s => s.1.2.2 ≤ c.gates.2.2.length ∧ RdS c.t S0 s.1.1 s.1.2.1 s.1.2.2 ∧ Ext wc s.2 ∧ Lt.Sep wc.heap.size s.2 [prow 1 encI 3 wc.heap.size al cl NL, prow 1 encB 4 wc.heap.size (some ⟨g3, 0, none⟩) c.gates.2.2.length s.1.1, PG]) (fun s => [(1, .pointer (some ⟨gc, 0, none⟩)), (2, .pointer (some ⟨g2, 0, none⟩)), (3, .slice (some ⟨g3, 0, none⟩) c.gates.2.2.length c.gates.2.2.length), (4, .bool s.1.2.1), (5, .slice al NL.length cl), (6, .int .i64 s.1.2.2)]) (fun s => s.2) (fun s => c.gates.2.2.length - s.1.2.2) ((S0, true, 0), w5) ⟨Nat.zero_le _, RdS.start hI, hX5, hS5⟩ ⟨rfl, rfl, rfl, rfl, rfl, rfl, trivial⟩ rfl ?_
    clear hS5 hX5 hO5 hx5 RS4 hcc4 hned
    rintro ⟨⟨S, d, k⟩, w6⟩ ⟨hk, hR, hX6, hS6⟩
    dsimp only at hk hR hX6 hS6 ⊢
    have hlen := hR.inv.len
    obtain ⟨y0, y1, y2, y3, y4, y5, y6, _⟩ := hcells.ext hX6
    have RG := hC.gates.row.ext (hxc.trans hX6)
    have RN := (hS6.row (i := 0) rfl).row encI_ok
    have hOs := hS6.row (i := 1) rfl
    by_cases hlt : k < c.gates.2.2.length
    · obtain ⟨g, hgg⟩ := getI c.gates.2.2 hlt
      obtain ⟨b, hbb⟩ := getI S (show k < S.length by rw [hlen]; exact hlt)
      have hgo := hown g.1 (List.mem_append.2 (.inr (List.mem_map.2 ⟨g, List.mem_of_getElem? hgg, rfl⟩)))
      have hbb' : S[((k : Nat) : Int).toNat]? = some b := by rw [Int.toNat_natCast]; exact hbb
      have hlS : S.length = c.gates.2.2.length := hlen
      have hgg' : c.gates.2.2[((k : Nat) : Int).toNat]? = some g := by rw [Int.toNat_natCast]; exact hgg
      cases b with
      | true =>
        have hR2 := hR.skip hgg (.inl hbb)
        repeat' (first
          | (show WL _ _ _ _ _ _ _; first | apply WL.nil | (refine WL.au (k := ?_)))
          | (show Z _ _ _ _ _; apply Z.then_normal)
          | (show W _ _ _ _ _ _; first | apply W.seq | apply W.region))
        refine W.condKT rfl (dec_true (by omega)) ?_
        repeat' (first
          | (apply WL.indexO tOk; exact rfl; exact rfl; exact rfl; exact rfl; exact rfl; exact rfl; exact rfl; exact rfl; assumption; (exact extA); exact encB_ok; (first | exact rfl | (focus (simp only [List.length_set]; done)) | (focus (simp; done)) | (focus (simp [*]; done)) | omega | (focus (simp only [List.length_set]; omega))); omega; assumption; intro gb ha hc; cases ha; have hcc := hc; first | (obtain ⟨h1, h2, h3, _⟩ := hc) | (obtain ⟨h1, h2, _⟩ := hc) | (obtain ⟨h1, _⟩ := hc))
          | (show WL _ _ _ _ _ _ _; first | apply WL.nil | (refine WL.au (k := ?_)) | (apply WL.guardF; exact rfl; exact rfl))
          | (show Z _ _ _ _ _; apply Z.then_normal)
          | (show W _ _ _ _ _ _; first | apply W.seq | apply W.region | apply W.block | apply W.skip))
        refine W.condKF rfl rfl ?_
        repeat' (first
          | (show WL _ _ _ _ _ _ _; first | apply WL.nil | (refine WL.au (k := ?_)))
          | (show Z _ _ _ _ _; first | apply Z.then_normal | apply Z.block_normal)
          | (show W _ _ _ _ _ _; first | apply W.region | apply W.skip))
        exact Z.again ((S, d, k + 1), w6) ⟨by dsimp only; omega, hR2, hX6, hS6⟩ (by dsimp only; omega) ⟨rfl, rfl, rfl, rfl, rfl, rfl, trivial⟩ rfl
      | false =>
        by_cases hn : g.1 / 2 ∈ NL
        · have hR2 := hR.put hI hgg hbb (by rw [← hNL]; exact hn)
          repeat' (first
            | (show WL _ _ _ _ _ _ _; first | apply WL.nil | (refine WL.au (k := ?_)))
            | (show Z _ _ _ _ _; apply Z.then_normal)
            | (show W _ _ _ _ _ _; first | apply W.seq | apply W.region))
          refine W.condKT rfl (dec_true (by omega)) ?_
          repeat' (first
            | (apply WL.indexO tOk; exact rfl; exact rfl; exact rfl; exact rfl; exact rfl; exact rfl; exact rfl; exact rfl; assumption; (exact extA); exact encB_ok; (first | exact rfl | (focus (simp only [List.length_set]; done)) | (focus (simp; done)) | (focus (simp [*]; done)) | omega | (focus (simp only [List.length_set]; omega))); omega; assumption; intro gb ha hc; cases ha; have hcc := hc; first | (obtain ⟨h1, h2, h3, _⟩ := hc) | (obtain ⟨h1, h2, _⟩ := hc) | (obtain ⟨h1, _⟩ := hc))
            | ((show WL _ _ _ (⟨_, .call ⟨.value (.func 116), _, _⟩, _, _, _, _⟩ :: _) _ _ _); apply WL.callS; exact rfl; exact rfl; exact rfl; exact rfl; exact ref_Has _ _ NL _ _ RN)
            | (show WL _ _ _ _ _ _ _; first | apply WL.nil | (refine WL.au (k := ?_)) | (apply WL.index tOk; exact rfl; exact rfl; exact rfl; exact rfl; exact rfl; exact rfl; exact rfl; exact rfl; assumption; (exact extA); exact rfl; omega; assumption; intro b off h; have hcc := h; first | (obtain ⟨h1, h2, h3, h4, h5, h6, _⟩ := h) | (obtain ⟨h1, h2, h3, _⟩ := h) | (obtain ⟨h1, h2, _⟩ := h) | (obtain ⟨h1, _⟩ := h)))
            | (show Z _ _ _ _ _; apply Z.then_normal)
            | (show W _ _ _ _ _ _; first | apply W.seq | apply W.region | apply W.block | apply W.skip))
          refine W.condKT rfl (dec_true hn) ?_
          repeat' (first
            | (apply WL.indexO tOk; exact rfl; exact rfl; exact rfl; exact rfl; exact rfl; exact rfl; exact rfl; exact rfl; assumption; (exact extA); exact encB_ok; (first | exact rfl | (focus (simp only [List.length_set]; done)) | (focus (simp; done)) | (focus (simp [*]; done)) | omega | (focus (simp only [List.length_set]; omega))); omega; assumption; intro gb ha hc; cases ha; have hcc := hc; first | (obtain ⟨h1, h2, h3, _⟩ := hc) | (obtain ⟨h1, h2, _⟩ := hc) | (obtain ⟨h1, _⟩ := hc))
            | (apply WL.storeO (z' := (true)) tOk; exact rfl; exact rfl; exact rfl; exact rfl; assumption; (exact extA); exact rfl; exact rfl; exact rfl; exact encB_ok; assumption; exact rfl; (exact extA); intro w' hO hX' hU)
            | (show WL _ _ _ _ _ _ _; first | apply WL.nil | (refine WL.au (k := ?_)))
            | (show Z _ _ _ _ _; first | apply Z.then_normal | apply Z.block_normal)
            | (show W _ _ _ _ _ _; apply W.region))
          rw [Int.toNat_natCast] at hO
          have hS7 := Sep.updRow (i := 1) rfl hU hO (.inl rfl) hS6 (Ext.refl _) (Below.size hX6)
          exact Z.again ((S.set k true, false, k + 1), w') ⟨by dsimp only; omega, hR2, hX', hS7⟩ (by dsimp only; omega) ⟨rfl, rfl, rfl, rfl, rfl, rfl, trivial⟩ rfl
        · have hR2 := hR.skip hgg (.inr (by rw [← hNL]; exact hn))
          repeat' (first
            | (show WL _ _ _ _ _ _ _; first | apply WL.nil | (refine WL.au (k := ?_)))
            | (show Z _ _ _ _ _; apply Z.then_normal)
            | (show W _ _ _ _ _ _; first | apply W.seq | apply W.region))
          refine W.condKT rfl (dec_true (by omega)) ?_
          repeat' (first
            | (apply WL.indexO tOk; exact rfl; exact rfl; exact rfl; exact rfl; exact rfl; exact rfl; exact rfl; exact rfl; assumption; (exact extA); exact encB_ok; (first | exact rfl | (focus (simp only [List.length_set]; done)) | (focus (simp; done)) | (focus (simp [*]; done)) | omega | (focus (simp only [List.length_set]; omega))); omega; assumption; intro gb ha hc; cases ha; have hcc := hc; first | (obtain ⟨h1, h2, h3, _⟩ := hc) | (obtain ⟨h1, h2, _⟩ := hc) | (obtain ⟨h1, _⟩ := hc))
            | ((show WL _ _ _ (⟨_, .call ⟨.value (.func 116), _, _⟩, _, _, _, _⟩ :: _) _ _ _); apply WL.callS; exact rfl; exact rfl; exact rfl; exact rfl; exact ref_Has _ _ NL _ _ RN)
            | (show WL _ _ _ _ _ _ _; first | apply WL.nil | (refine WL.au (k := ?_)) | (apply WL.index tOk; exact rfl; exact rfl; exact rfl; exact rfl; exact rfl; exact rfl; exact rfl; exact rfl; assumption; (exact extA); exact rfl; omega; assumption; intro b off h; have hcc := h; first | (obtain ⟨h1, h2, h3, h4, h5, h6, _⟩ := h) | (obtain ⟨h1, h2, h3, _⟩ := h) | (obtain ⟨h1, h2, _⟩ := h) | (obtain ⟨h1, _⟩ := h)))
            | (show Z _ _ _ _ _; apply Z.then_normal)
            | (show W _ _ _ _ _ _; first | apply W.seq | apply W.region | apply W.block | apply W.skip))
          refine W.condKF rfl (dec_false hn) ?_
          repeat' (first
            | (show WL _ _ _ _ _ _ _; first | apply WL.nil | (refine WL.au (k := ?_)))
            | (show Z _ _ _ _ _; first | apply Z.then_normal | apply Z.block_normal)
            | (show W _ _ _ _ _ _; first | apply W.region | apply W.skip))
          exact Z.again ((S, d, k + 1), w6) ⟨by dsimp only; omega, hR2, hX6, hS6⟩ (by dsimp only; omega) ⟨rfl, rfl, rfl, rfl, rfl, rfl, trivial⟩ rfl
    · obtain rfl : k = c.gates.2.2.length := by omega
      repeat' (first
        | (show WL _ _ _ _ _ _ _; first | apply WL.nil | (refine WL.au (k := ?_)))
        | (show Z _ _ _ _ _; apply Z.then_normal)
        | (show W _ _ _ _ _ _; first | apply W.seq | apply W.region))
      refine W.condKF rfl (dec_false (by omega)) ?_
      repeat' (first
        | (show Z _ _ _ _ _; first | apply Z.block_normal | apply Z.then_exit | apply Z.block_exit)
        | (show W _ _ _ _ _ _; apply W.exit))
      refine Z.again ((S, d), w6) ⟨hR.inv, fun hd => ?_, hX6, hS6.drop 1⟩ ?_ ⟨rfl, rfl, rfl, rfl, trivial⟩ rfl
      · have hd : d = true := hd
        obtain ⟨h1, h2⟩ := hR.done hd
        intro i g hgi hn
        dsimp only at hn ⊢
        rw [h1] at hn ⊢
        exact h2 i g (lt_of_get hgi) hgi hn
      · dsimp only
        cases d with
        | true => rw [(hR.done rfl).1]; simp
        | false => have := hR.less rfl; simp; omega
  | true =>
    have hcc4 : Cells w4 gc 0 c.vals := hcells.ext hX4
    have hcl' := hcl rfl
    have hkeep := fun (i : Nat) (g : T3) (h : c.gates.2.2[i]? = some g) => stay_keep (c := c.t) hI hcl' h
    repeat' (first
      | (show WL _ _ _ _ _ _ _; first | apply WL.nil | (refine WL.au (k := ?_)))
      | (show Z _ _ _ _ _; apply Z.then_normal)
      | (show W _ _ _ _ _ _; first | apply W.seq | apply W.region))
    refine W.condKF rfl rfl ?_
    repeat' (first
      | (apply WL.alloc tOk; exact rfl; exact rfl; exact rfl; intro gb w' hb hge hx; (obtain ⟨g7, rfl⟩ : ∃ x, x = gb := ⟨_, rfl⟩; obtain ⟨w5, rfl⟩ : ∃ x, x = w' := ⟨_, rfl⟩; obtain ⟨hx5, rfl⟩ : ∃ x, x = hx := ⟨_, rfl⟩; obtain ⟨hge7, rfl⟩ : ∃ x, x = hge := ⟨_, rfl⟩))
      | (apply WL.storeB (w0 := w4) tOk; exact rfl; exact rfl; exact rfl; exact rfl; assumption; (exact extA); exact rfl; exact rfl; exact rfl; (exact extA); (first | assumption | omega | (focus (apply Nat.le_trans; rotate_left; assumption; exact Below.size (by (exact extA)); done))); intro w' hb hc hX' hU; have hcc := hc; obtain ⟨h1, h2, _⟩ := hc; (obtain ⟨w6, rfl⟩ : ∃ x, x = w' := ⟨_, rfl⟩; obtain ⟨hb6, rfl⟩ : ∃ x, x = hb := ⟨_, rfl⟩; obtain ⟨hX6, rfl⟩ : ∃ x, x = hX' := ⟨_, rfl⟩))
      | (show WL _ _ _ _ _ _ _; first | apply WL.nil | (refine WL.au (k := ?_)))
      | (show Z _ _ _ _ _; first | apply Z.then_normal | apply Z.then_exit | apply Z.block_exit)
      | (show W _ _ _ _ _ _; first | apply W.seq | apply W.region | apply W.exit))
    have hX46 : Ext wc w6 := hX4.trans hX6
    have hS6 : Lt.Sep wc.heap.size w6 [pcell g7 c.vals.toArray 28, prow 1 encB 4 wc.heap.size (some ⟨g3, 0, none⟩) c.gates.2.2.length S0, PG] := Sep.newCell hS4 hX6 hb6 hge7 (Below.size hX4)
    clear hcc h1 h2 hU hS4
    repeat' (first
      | (apply WL.lit (len := 0) tOk; exact rfl; exact rfl; exact rfl; exact rfl; exact rfl; exact rfl; (first | exact rfl | kernel_rfl | (simp [Instr.fill, catCells]; done)); exact rfl; intro gb w' hb hge hc hx; have hO0 := Own.of_block0 (enc := enc3) (s := 3) hb hge; (obtain ⟨g45, rfl⟩ : ∃ x, x = gb := ⟨_, rfl⟩; obtain ⟨w7, rfl⟩ : ∃ x, x = w' := ⟨_, rfl⟩; obtain ⟨hx7, rfl⟩ : ∃ x, x = hx := ⟨_, rfl⟩; obtain ⟨hb7, rfl⟩ : ∃ x, x = hb := ⟨_, rfl⟩; obtain ⟨hge45, rfl⟩ : ∃ x, x = hge := ⟨_, rfl⟩))
      | (show WL _ _ _ _ _ _ _; (refine WL.au (k := ?_))))
    have hS : Lt.Sep wc.heap.size w7 [prow 3 enc3 106 wc.heap.size (some ⟨g45, 0, none⟩) 0 [], pcell g7 c.vals.toArray 28, prow 1 encB 4 wc.heap.size (some ⟨g3, 0, none⟩) c.gates.2.2.length S0, PG] := Sep.newRow' hS6 hx7 hO0 (Below.size hX46)
    have hX7 : Ext wc w7 := hX46.trans hx7
    have hg7 : wc.heap.size ≤ g7 := (hS.lt (i := 1) rfl rfl).1
    have hC1 := hS.cell (i := 1) rfl
    repeat' (first
      | (apply WL.storeF (w0 := wc) tOk; exact rfl; exact rfl; exact rfl; exact rfl; assumption; (exact extA); exact rfl; exact rfl; exact rfl; exact rfl; (exact extA); (first | assumption | omega | (focus (apply Nat.le_trans; rotate_left; assumption; exact Below.size (by (exact extA))))); intro w' hb hX' hU; replace hS := Sep.updCell (i := 1) rfl hU hb hS (by (exact extA)) (by (first | exact Nat.le_refl _ | exact Below.size (by (exact extA)))); (try simp only [List.set_cons_zero, List.set_cons_succ] at hS); (try have hR0 := hS.row (i := 0) rfl); (try have hR1 := hS.row (i := 1) rfl); (try have hR2 := hS.row (i := 2) rfl); (try have hR3 := hS.row (i := 3) rfl); (try have hR4 := hS.row (i := 4) rfl); (try have hC0 := hS.cell (i := 0) rfl); (try have hD0 := (cells_heap hC0).1); (try have hE0 := (cells_heap hC0).2.1); (try have hF0 := (cells_heap hC0).2.2.1); (try have hG0 := (cells_heap hC0).2.2.2.1); (try have hC1 := hS.cell (i := 1) rfl); (try have hD1 := (cells_heap hC1).1); (try have hE1 := (cells_heap hC1).2.1); (try have hF1 := (cells_heap hC1).2.2.1); (try have hG1 := (cells_heap hC1).2.2.2.1); (try have hC2 := hS.cell (i := 2) rfl); (try have hD2 := (cells_heap hC2).1); (try have hE2 := (cells_heap hC2).2.1); (try have hF2 := (cells_heap hC2).2.2.1); (try have hG2 := (cells_heap hC2).2.2.2.1); (try have hC3 := hS.cell (i := 3) rfl); (try have hD3 := (cells_heap hC3).1); (try have hE3 := (cells_heap hC3).2.1); (try have hF3 := (cells_heap hC3).2.2.1); (try have hG3 := (cells_heap hC3).2.2.2.1); (try have hC4 := hS.cell (i := 4) rfl); (try have hD4 := (cells_heap hC4).1); (try have hE4 := (cells_heap hC4).2.1); (try have hF4 := (cells_heap hC4).2.2.1); (try have hG4 := (cells_heap hC4).2.2.2.1); (try have hM0 := hS.map (i := 0) rfl); (try have hM1 := hS.map (i := 1) rfl); (try have hM2 := hS.map (i := 2) rfl); (try have hM3 := hS.map (i := 3) rfl); (try have hM4 := hS.map (i := 4) rfl))
      | (show WL _ _ _ _ _ _ _; first | apply WL.nil | (refine WL.au (k := ?_)))
      | (show Z _ _ _ _ _; apply Z.then_normal)
      | (show W _ _ _ _ _ _; first | apply W.seq | apply W.region | apply W.block))
    have hS8 : Lt.Sep wc.heap.size w' [prow 3 enc3 106 wc.heap.size (some ⟨g45, 0, none⟩) 0 ((c.gates.2.2.take 0).filter (keepG c.t)), pcell g7 (([.int .i64 c.max, rowVal c.ins, rowVal c.lat, rowVal c.outs, rowVal c.bads, rowVal c.cons, .slice (some ⟨g45, 0, none⟩) ((c.gates.2.2.take 0).filter (keepG c.t)).length 0, rowVal c.syms, .string c.com] : List Value)).toArray 28, prow 1 encB 4 wc.heap.size (some ⟨g3, 0, none⟩) c.gates.2.2.length S0, PG] := hS
    refine W.loopW c.gates.2.2.length (fun k w' => k ≤ c.gates.2.2.length ∧ Ext wc w' ∧ ∃ ag cg, Lt.Sep wc.heap.size w' [prow 3 enc3 106 wc.heap.size ag cg ((c.gates.2.2.take k).filter (keepG c.t)), pcell g7 (([.int .i64 c.max, rowVal c.ins, rowVal c.lat, rowVal c.outs, rowVal c.bads, rowVal c.cons, .slice ag ((c.gates.2.2.take k).filter (keepG c.t)).length cg, rowVal c.syms, .string c.com] : List Value)).toArray 28, prow 1 encB 4 wc.heap.size (some ⟨g3, 0, none⟩) c.gates.2.2.length S0, PG]) (fun k => [(1, .pointer (some ⟨gc, 0, none⟩)), (2, .pointer (some ⟨g2, 0, none⟩)), (3, .slice (some ⟨g3, 0, none⟩) c.gates.2.2.length c.gates.2.2.length), (7, .pointer (some ⟨g7, 0, none⟩)), (8, .int .i64 k)]) ⟨Nat.zero_le _, hX', _, _, hS8⟩ (fun k w' h => h.1) ⟨rfl, rfl, rfl, rfl, rfl, trivial⟩ ?_
    clear hS hS8 hS6 hU hX' hX7 hX46 hcc4 hC1 hX6 hb6 hx7 hb7 hO0
    rintro k w8 ⟨hk, hX8, ag, cg, hS⟩
    obtain ⟨y0, y1, y2, y3, y4, y5, y6, _⟩ := hcells.ext hX8
    have RG := hC.gates.row.ext (hxc.trans hX8)
    have hOs := hS.row (i := 2) rfl
    by_cases hlt : k < c.gates.2.2.length
    · obtain ⟨g, hgg⟩ := getI c.gates.2.2 hlt
      have hkk := hkeep k g hgg
      have hkk' : S0[((k : Nat) : Int).toNat]? = some (keepG c.t g) := by rw [Int.toNat_natCast]; exact hkk
      have e1 := keep_take (c := c.t) hgg
      have hfl : ((c.gates.2.2.take k).filter (keepG c.t)).length ≤ k := Nat.le_trans (List.length_filter_le _ _) (by rw [List.length_take]; omega)
      have hlS : S0.length = c.gates.2.2.length := hlen0
      obtain ⟨b, hb9⟩ : ∃ b, keepG c.t g = b := ⟨_, rfl⟩
      rw [hb9] at hkk' e1
      cases b with
      | false =>
        repeat' (first
          | (show WL _ _ _ _ _ _ _; first | apply WL.nil | (refine WL.au (k := ?_)))
          | (show Z _ _ _ _ _; apply Z.then_normal)
          | (show W _ _ _ _ _ _; first | apply W.seq | apply W.region))
        refine W.condKT rfl (dec_true (by omega)) ?_
        repeat' (first
          | (apply WL.indexO tOk; exact rfl; exact rfl; exact rfl; exact rfl; exact rfl; exact rfl; exact rfl; exact rfl; assumption; (exact extA); exact encB_ok; (first | exact rfl | (focus (simp only [List.length_set]; done)) | (focus (simp; done)) | (focus (simp [*]; done)) | omega | (focus (simp only [List.length_set]; omega))); omega; assumption; intro gb ha hc; cases ha; have hcc := hc; first | (obtain ⟨h1, h2, h3, _⟩ := hc) | (obtain ⟨h1, h2, _⟩ := hc) | (obtain ⟨h1, _⟩ := hc))
          | (show WL _ _ _ _ _ _ _; first | apply WL.nil | (refine WL.au (k := ?_)))
          | (show Z _ _ _ _ _; apply Z.then_normal)
          | (show W _ _ _ _ _ _; first | apply W.seq | apply W.region | apply W.block | apply W.skip))
        refine W.condKF rfl rfl ?_
        repeat' (first
          | (show WL _ _ _ _ _ _ _; first | apply WL.nil | (refine WL.au (k := ?_)))
          | (show Z _ _ _ _ _; first | apply Z.then_normal | apply Z.block_normal)
          | (show W _ _ _ _ _ _; first | apply W.region | apply W.skip))
        have e2 : (c.gates.2.2.take (k + 1)).filter (keepG c.t) = (c.gates.2.2.take k).filter (keepG c.t) := by rw [if_neg (by decide), List.append_nil] at e1; exact e1
        exact Z.againW ⟨by omega, hX8, ag, cg, by rw [e2]; exact hS⟩ ⟨rfl, rfl, rfl, rfl, rfl, trivial⟩
      | true =>
        have e2 : (c.gates.2.2.take (k + 1)).filter (keepG c.t) = (c.gates.2.2.take k).filter (keepG c.t) ++ [g] := by rw [if_pos rfl] at e1; exact e1
        have RRc := hC.gates.row.ext hxc
        have hgg' : c.gates.2.2[((k : Nat) : Int).toNat]? = some g := by rw [Int.toNat_natCast]; exact hgg
        repeat' (first
          | (show WL _ _ _ _ _ _ _; first | apply WL.nil | (refine WL.au (k := ?_)))
          | (show Z _ _ _ _ _; apply Z.then_normal)
          | (show W _ _ _ _ _ _; first | apply W.seq | apply W.region))
        refine W.condKT rfl (dec_true (by omega)) ?_
        repeat' (first
          | (apply WL.indexO tOk; exact rfl; exact rfl; exact rfl; exact rfl; exact rfl; exact rfl; exact rfl; exact rfl; assumption; (exact extA); exact encB_ok; (first | exact rfl | (focus (simp only [List.length_set]; done)) | (focus (simp; done)) | (focus (simp [*]; done)) | omega | (focus (simp only [List.length_set]; omega))); omega; assumption; intro gb ha hc; cases ha; have hcc := hc; first | (obtain ⟨h1, h2, h3, _⟩ := hc) | (obtain ⟨h1, h2, _⟩ := hc) | (obtain ⟨h1, _⟩ := hc))
          | (show WL _ _ _ _ _ _ _; first | apply WL.nil | (refine WL.au (k := ?_)))
          | (show Z _ _ _ _ _; apply Z.then_normal)
          | (show W _ _ _ _ _ _; first | apply W.seq | apply W.region | apply W.block | apply W.skip))
        refine W.condKT rfl rfl ?_
        clear y0 y1 y2 y3 y4 y5 y6
        obtain ⟨u0, u1, u2, u3, u4, u5, u6, _⟩ := id hcells
        have hRg := hS.row (i := 0) rfl
        have hc7 := hS.cell (i := 1) rfl
        obtain ⟨n0, n1, n2, n3, n4, n5, n6, _⟩ := cells_heap (hS.cell (i := 1) rfl)
        repeat' (first
          | (show W _ _ (.region 16 _ _) _ _ _; apply W.regionG (.fl true 0 (.fl true 2 (.fl true 4 (.fl false 3 (.fl true 5 (.fl false 6 (.br 1 (.br 7 (.br 8 (.fl true 9 (.br 10 .done .stop)) .stop) .stop) (.br 7 (.br 1 (.br 8 (.fl true 9 (.br 10 .done .stop)) .stop) .stop) .stop)))))))) [1, 6, 7, 8] (Ext wc) tMix; kernel_rfl)
          | (apply WL.lit tOk; exact rfl; exact rfl; exact rfl; exact rfl; exact rfl; exact rfl; (first | exact rfl | kernel_rfl | (simp [Instr.fill, catCells]; done)); exact rfl; intro gb w' hb hge hc hx)
          | (apply WL.append1 (z := (g)) tOk enc3_ok; exact rfl; exact rfl; exact rfl; exact rfl; exact rfl; exact rfl; exact rfl; exact rfl; exact rfl; exact rfl; assumption; (exact extA); (first | exact rfl | (focus (simp only [List.length_set]; done)) | (focus (simp; done)) | (focus (simp [*]; done)) | omega | (focus (simp only [List.length_set]; omega))); (first | assumption | (refine Cells.ext ?_ (by assumption); exact extA)); exact rfl; exact rfl; (exact extA); (first | omega | (simp; omega) | (simp at *; omega)); intro a' cap' w' hO hX' hU hF; (first | replace hS := Sep.updRow (i := 0) rfl hU hO hF hS (by (exact extA)) (by (first | exact Nat.le_refl _ | exact Below.size (by (exact extA)))) | replace hS := Sep.updRow (i := 1) rfl hU hO hF hS (by (exact extA)) (by (first | exact Nat.le_refl _ | exact Below.size (by (exact extA)))) | replace hS := Sep.updRow (i := 2) rfl hU hO hF hS (by (exact extA)) (by (first | exact Nat.le_refl _ | exact Below.size (by (exact extA)))) | replace hS := Sep.updRow (i := 3) rfl hU hO hF hS (by (exact extA)) (by (first | exact Nat.le_refl _ | exact Below.size (by (exact extA)))) | replace hS := Sep.updRow (i := 4) rfl hU hO hF hS (by (exact extA)) (by (first | exact Nat.le_refl _ | exact Below.size (by (exact extA)))) | replace hS := Sep.updRow (i := 5) rfl hU hO hF hS (by (exact extA)) (by (first | exact Nat.le_refl _ | exact Below.size (by (exact extA))))); (try simp only [List.set_cons_zero, List.set_cons_succ] at hS); (try have hR0 := hS.row (i := 0) rfl); (try have hR1 := hS.row (i := 1) rfl); (try have hR2 := hS.row (i := 2) rfl); (try have hR3 := hS.row (i := 3) rfl); (try have hR4 := hS.row (i := 4) rfl); (try have hC0 := hS.cell (i := 0) rfl); (try have hD0 := (cells_heap hC0).1); (try have hE0 := (cells_heap hC0).2.1); (try have hF0 := (cells_heap hC0).2.2.1); (try have hG0 := (cells_heap hC0).2.2.2.1); (try have hC1 := hS.cell (i := 1) rfl); (try have hD1 := (cells_heap hC1).1); (try have hE1 := (cells_heap hC1).2.1); (try have hF1 := (cells_heap hC1).2.2.1); (try have hG1 := (cells_heap hC1).2.2.2.1); (try have hC2 := hS.cell (i := 2) rfl); (try have hD2 := (cells_heap hC2).1); (try have hE2 := (cells_heap hC2).2.1); (try have hF2 := (cells_heap hC2).2.2.1); (try have hG2 := (cells_heap hC2).2.2.2.1); (try have hC3 := hS.cell (i := 3) rfl); (try have hD3 := (cells_heap hC3).1); (try have hE3 := (cells_heap hC3).2.1); (try have hF3 := (cells_heap hC3).2.2.1); (try have hG3 := (cells_heap hC3).2.2.2.1); (try have hC4 := hS.cell (i := 4) rfl); (try have hD4 := (cells_heap hC4).1); (try have hE4 := (cells_heap hC4).2.1); (try have hF4 := (cells_heap hC4).2.2.1); (try have hG4 := (cells_heap hC4).2.2.2.1); (try have hM0 := hS.map (i := 0) rfl); (try have hM1 := hS.map (i := 1) rfl); (try have hM2 := hS.map (i := 2) rfl); (try have hM3 := hS.map (i := 3) rfl); (try have hM4 := hS.map (i := 4) rfl))
          | (apply WL.storeF (w0 := wc) tOk; exact rfl; exact rfl; exact rfl; exact rfl; assumption; (exact extA); exact rfl; exact rfl; exact rfl; exact rfl; (exact extA); (first | assumption | omega | (focus (apply Nat.le_trans; rotate_left; assumption; exact Below.size (by (exact extA))))); intro w' hb hX' hU; replace hS := Sep.updCell (i := 1) rfl hU hb hS (by (exact extA)) (by (first | exact Nat.le_refl _ | exact Below.size (by (exact extA)))); (try simp only [List.set_cons_zero, List.set_cons_succ] at hS); (try have hR0 := hS.row (i := 0) rfl); (try have hR1 := hS.row (i := 1) rfl); (try have hR2 := hS.row (i := 2) rfl); (try have hR3 := hS.row (i := 3) rfl); (try have hR4 := hS.row (i := 4) rfl); (try have hC0 := hS.cell (i := 0) rfl); (try have hD0 := (cells_heap hC0).1); (try have hE0 := (cells_heap hC0).2.1); (try have hF0 := (cells_heap hC0).2.2.1); (try have hG0 := (cells_heap hC0).2.2.2.1); (try have hC1 := hS.cell (i := 1) rfl); (try have hD1 := (cells_heap hC1).1); (try have hE1 := (cells_heap hC1).2.1); (try have hF1 := (cells_heap hC1).2.2.1); (try have hG1 := (cells_heap hC1).2.2.2.1); (try have hC2 := hS.cell (i := 2) rfl); (try have hD2 := (cells_heap hC2).1); (try have hE2 := (cells_heap hC2).2.1); (try have hF2 := (cells_heap hC2).2.2.1); (try have hG2 := (cells_heap hC2).2.2.2.1); (try have hC3 := hS.cell (i := 3) rfl); (try have hD3 := (cells_heap hC3).1); (try have hE3 := (cells_heap hC3).2.1); (try have hF3 := (cells_heap hC3).2.2.1); (try have hG3 := (cells_heap hC3).2.2.2.1); (try have hC4 := hS.cell (i := 4) rfl); (try have hD4 := (cells_heap hC4).1); (try have hE4 := (cells_heap hC4).2.1); (try have hF4 := (cells_heap hC4).2.2.1); (try have hG4 := (cells_heap hC4).2.2.2.1); (try have hM0 := hS.map (i := 0) rfl); (try have hM1 := hS.map (i := 1) rfl); (try have hM2 := hS.map (i := 2) rfl); (try have hM3 := hS.map (i := 3) rfl); (try have hM4 := hS.map (i := 4) rfl))
          | (show WL _ _ _ _ _ _ _; first | apply WL.nil | (refine WL.au (k := ?_)))
          | (show SG _ _ _ _ _ _ _ _ _; first | apply SG.done | (apply SG.fl0; exact rfl) | (apply SG.fl1; exact rfl; (focus ((intro m; first | assumption | (apply Ext.at; (exact extA)) | apply But.of_at; first | exact But.upd (by assumption) | exact But.ext (by (exact extA)) | (refine But.trans ?_ (But.upd (by assumption)); exact But.ext (by (exact extA))) | exact But.at _ _ _); done))) | (apply SG.br1; exact rfl) | (apply SG.br; exact rfl))
          | (show FL _ _ _ _ _ _ _ _; first | (apply FL.loadE tOk; exact rfl; exact rfl; exact rfl; exact rfl; exact rfl; assumption) | (apply FL.loadAE tOk; exact rfl; exact rfl; exact rfl; exact rfl; exact rfl; assumption; exact rfl) | (apply FL.indexE tOk; exact rfl; exact rfl; exact rfl; exact rfl; exact rfl; exact rfl; exact rfl; exact rfl; assumption; exact rfl; omega; assumption; intro b off h; have hcc := h; first | (obtain ⟨h1, h2, h3, h4, h5, h6, _⟩ := h) | (obtain ⟨h1, h2, h3, _⟩ := h) | (obtain ⟨h1, h2, _⟩ := h) | (obtain ⟨h1, _⟩ := h)))
          | (show FL _ _ _ _ _ _ _ _; first | apply FL.nilS | (refine FL.au (k := ?_)))
          | (show Z _ _ _ _ _; first | (apply Z.sgL; exact rfl) | (apply Z.sgE; (focus ((intro m; first | assumption | (apply Ext.at; (exact extA)) | apply But.of_at; first | exact But.upd (by assumption) | exact But.ext (by (exact extA)) | (refine But.trans ?_ (But.upd (by assumption)); exact But.ext (by (exact extA))) | exact But.at _ _ _); done))))
          | (show Z _ _ _ _ _; first | apply Z.then_normal | apply Z.block_normal)
          | (show W _ _ _ _ _ _; apply W.region))
        all_goals exact Z.againW ⟨by omega, (by (exact extA)), a', cap', by rw [e2]; exact hS⟩ ⟨rfl, rfl, rfl, rfl, rfl, trivial⟩
    obtain rfl : k = c.gates.2.2.length := by omega
    rw [List.take_length] at hS
    obtain ⟨dd, hdd⟩ : ∃ dd : Circ, dd = ⟨c.max, c.ins, c.lat, c.outs, c.bads, c.cons, (ag, cg, c.gates.2.2.filter (keepG c.t)), c.syms, c.com⟩ := ⟨_, rfl⟩
    have hcd : Cells w8 g7 0 dd.vals := by rw [hdd]; exact cells_heap (hS.cell (i := 1) rfl)
    have hb2' : w8.heap[g2]? = some (.cells (Value.cells (.agg #[.int .i64 0, .slice none 0 0, .slice none 0 0, .slice none 0 0, .slice none 0 0, .slice none 0 0, .slice none 0 0, .slice none 0 0, .string ⟨#[]⟩])) 28 (0, 0)) := by
      rw [← hzC]; rw [hPG] at hS; exact hS.cell (i := 3) rfl
    have hg2w : w.heap.size ≤ g2 := Nat.le_trans (Below.size hxc) hge2
    have hXw8 : Ext w w8 := hxc.trans hX8
    repeat' (first
      | (show WL _ _ _ _ _ _ _; first | apply WL.nil | (refine WL.au (k := ?_)))
      | (show Z _ _ _ _ _; apply Z.then_normal)
      | (show W _ _ _ _ _ _; first | apply W.seq | apply W.region))
    refine W.condKF rfl (dec_false (by omega)) ?_
    repeat' (first
      | (apply WL.storeB (w0 := w) tOk; exact rfl; exact rfl; exact rfl; exact rfl; assumption; (exact extA); exact rfl; exact rfl; exact rfl; (exact extA); (first | assumption | omega | (focus (apply Nat.le_trans; rotate_left; assumption; exact Below.size (by (exact extA)); done))); intro w' hb hc hX' hU; have hcc := hc; obtain ⟨h1, h2, _⟩ := hc; (obtain ⟨w17, rfl⟩ : ∃ x, x = w' := ⟨_, rfl⟩; obtain ⟨hb17, rfl⟩ : ∃ x, x = hb := ⟨_, rfl⟩; obtain ⟨hX17, rfl⟩ : ∃ x, x = hX' := ⟨_, rfl⟩))
      | (show WL _ _ _ _ _ _ _; first | apply WL.nil | (refine WL.au (k := ?_)))
      | (show Z _ _ _ _ _; first | apply Z.then_normal | apply Z.then_exit | apply Z.block_exit)
      | (show W _ _ _ _ _ _; first | apply W.seq | apply W.region | apply W.ret | apply W.exit))
    rw [hPG] at hS
    have hS17 := Sep.updCell (i := 3) rfl hU hb17 hS (Ext.refl _) (Below.size hX8)
    have o0 := hS17.row (i := 0) rfl
    have hCw := hC.ext hX17
    have hCd : CAt w17 dd := by
      rw [hdd]
      exact ⟨hCw.ins, hCw.lat, hCw.outs, hCw.bads, hCw.cons, ⟨o0.row enc3_ok, o0.capLe, o0.noneCap⟩, hCw.syms⟩
    exact Z.bodyC tOk Try.results52 rfl rfl rfl rfl (cells_heap hb17) fun m => ⟨hX17.at m, dd, rfl, by rw [hdd]; rfl, hCd.ext ((Ext.refl _).at m)⟩
end Go.Proofs.Ythpnahapiodflaa
namespace Go.Proofs.Ythpnahapiodflaa
open Go Go.Lt Go.RowKit
set_option linter.unusedVariables false
set_option linter.unusedSimpArgs false
set_option maxRecDepth 20000

/-- A literal has a new one. -/
def LitOk (A : List Int) (l : Int) : Prop := 0 ≤ l ∧ l ≤ 4294967296 ∧ ∃ z, A[(l / 2).toNat]? = some z ∧ 0 ≤ z ∧ z % 2 = 0 ∧ z ≤ 4294967296
theorem net_litOk {c : CirT} (h : GoodC' c) (hz : SzC c 100000) {l : Int} (hl : l ∈ c.used ∨ l ∈ c.own) : LitOk (cNet c).2 l := by
  have hm := h.max
  have hn := net_len h hz
  rcases hl with hl | hl
  · have hu := h.used l hl
    obtain ⟨z, h1, h2, h3, h4⟩ := net_lit h hl
    exact ⟨hu.1, by omega, z, h1, h2, h3, by omega⟩
  · have ho := h.own l hl
    obtain ⟨k, hk⟩ := List.mem_iff_getElem?.1 (seq_all h hl)
    have h1 := (cNet_ok h).1.has k l hk
    have h2 := lt_of_get hk
    have h3 := (cNet_ok h).1.len1
    exact ⟨by omega, by omega, _, h1, by omega, by omega, by omega⟩
end Go.Proofs.Ythpnahapiodflaa
namespace Go.Lt
open Go.RowKit
set_option linter.unusedVariables false
section
variable {P : Program} {N : Nat} {e : Env} {w : World} {T : Tab} {ti : TI}
theorem Z.bodyCT {fn : Func} {R : Value → World → Prop} {b ty : Nat} {vs : List Value} {t u : Nat} {x : Value} (hT : OkTab P T) (hr : fn.results = #[.cell t ty, .tmp u]) (hv : get e t = some (.pointer (some ⟨b, 0, none⟩))) (hx : get e u = some x)
    (ht : tget T ty = some ti) (ha : isAggD ti.desc = true) (hs : ti.size = vs.length) (hc : Cells w b 0 vs) (hR : ∀ m, R (.tuple #[.agg vs.toArray, x]) (at' w m)) :
    Z N (bodyPost P fn fun x w' => ∃ v, x = .returned v ∧ R v w') .ret e w := ⟨fun a m hf => by
  have h1 := run_isAgg' (hT.at ht) (at' w m); rw [ha] at h1
  have h3 := run_sizeOf' (hT.at ht) (at' w m); rw [hs] at h3
  have h2 := run_loadCellsFrom (P := P) (acc := #[]) (off := 0) (i := 0) (b := b) (hc.ext ((Ext.refl w).at m))
  refine bodyPost_ret (v := .tuple #[.agg vs.toArray, x]) ?_ hf.defers ⟨_, rfl, hR m⟩
  have h4 := hf.slots _ _ hv
  have h5 := hf.slots _ _ hx
  simp [results, hr, Array.getD_eq_getD_getElem?, h4, h5, asAddr, loadVar, h1, h3, loadCells, h2]⟩
end
end Go.Lt
namespace Go.Proofs.Ythpnahapiodflaa
open Go Go.Lt Go.RowKit
set_option linter.unusedVariables false
set_option linter.unusedSimpArgs false
set_option maxRecDepth 20000

/-- It holds as long as the blocks from b on stay as they are in w. -/
def Stay (b : Nat) (w : World) (P : World → Prop) : Prop := ∀ w', w.heap.size ≤ w'.heap.size → (∀ k, b ≤ k → k < w.heap.size → w'.heap[k]? = w.heap[k]?) → P w'
theorem Sep.stay {B b : Nat} {w : World} {ps : List Piece} (hS : Lt.Sep B w ps) (hb : b ≤ B) : Stay b w (fun w' => Lt.Sep B w' ps) := by
  intro w' hsz hk
  refine ⟨fun i p h => ⟨p.keep (hS.holds i p h).1 (fun k hp => hk k (Nat.le_trans hb ((hS.holds i p h).2 k hp).1) ((hS.holds i p h).2 k hp).2), fun k hp => ⟨((hS.holds i p h).2 k hp).1, Nat.lt_of_lt_of_le ((hS.holds i p h).2 k hp).2 hsz⟩⟩, hS.apart⟩
theorem Own.stay {α : Type} {s : Nat} {enc : α → List Value} {el B b cap : Nat} {w w' : World} {a : Option Addr} {l : List α} (h : Own s enc el B w a cap l) (hb : b ≤ B) (hk : ∀ k, b ≤ k → k < w.heap.size → w'.heap[k]? = w.heap[k]?) : Own s enc el B w' a cap l :=
  h.keep fun k hp => hk k (Nat.le_trans hb (h.blk_lt k hp).1) (h.blk_lt k hp).2
end Go.Proofs.Ythpnahapiodflaa
