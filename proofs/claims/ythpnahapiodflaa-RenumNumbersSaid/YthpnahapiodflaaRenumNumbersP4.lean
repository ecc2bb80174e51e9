/- Part 4 of what the claim RenumNumbers needs: lemmas and contracts, printed from longer texts. No conditions. -/
import Derived.Test.YthpnahapiodflaaRows
import Derived.Lib.SmallJoins
import Derived.KernelRfl
import Derived.WalkKit
import Derived.ProofKit
import Derived.Deep.Quiet
import Derived.Deep.LoopGhost
import Derived.StillTail
import Derived.Test.YthpnahapiodflaaProg
import Derived.OpenShut
import Derived.ShutString
import Derived.ChangeOld
import Derived.Deep.Slices
import Derived.SizedLaws
import Derived.Laws.StructEq
import Derived.Laws.CopyRow
import Derived.Laws.IdiomCopy
import Derived.Test.YthpnahapiodflaaRenumNumbersP3
namespace Go.Proofs.Ythpnahapiodflaa
open Go Go.Lt Go.RowKit
set_option linter.unusedVariables false
set_option linter.unusedSimpArgs false
set_option maxRecDepth 20000

/-- Up to a place all is -1, behind the first. -/
structure AtK (m k : Nat) (A : List Int) : Prop where
  len : A.length = m + 1
  zero : A[0]? = some 0
  neg : ∀ u : Nat, 1 ≤ u → u < k → A[u]? = some (-1)
theorem AtK.all {m : Nat} {A : List Int} (h : AtK m (m + 1) A) : A = cAt0 (m : Int) := by
  apply List.ext_getElem?
  intro u
  have hr := PutOk.start m
  by_cases hu : u < m + 1
  · cases u with
    | zero => rw [h.zero]; exact hr.zero.symm
    | succ u => rw [h.neg (u + 1) (by omega) hu]; exact (hr.not (u + 1) (by omega) (by omega) (fun l hl => by cases hl)).symm
  · rw [List.getElem?_eq_none (by have := h.len; omega)]
    have h2 : (cAt0 (m : Int)).length = m + 1 := hr.len2
    exact (List.getElem?_eq_none (by omega)).symm
theorem Sep.perm4 {B : Nat} {w : World} {p q r s : Piece} (hS : Lt.Sep B w [p, q, r, s]) : Lt.Sep B w [r, p, s, q] := by
  refine hS.pick (fun i => match i with | 0 => 2 | 1 => 0 | 2 => 3 | _ => 1) (fun i x h => ?_) (fun i j hi hj hne => ?_)
  · match i, h with
    | 0, h => exact h
    | 1, h => exact h
    | 2, h => exact h
    | 3, h => exact h
  · have hi' : i < 4 := hi
    have hj' : j < 4 := hj
    match i, j, hi', hj', hne with
    | 0, 1, _, _, _ => decide
    | 0, 2, _, _, _ => decide
    | 0, 3, _, _, _ => decide
    | 1, 0, _, _, _ => decide
    | 1, 2, _, _, _ => decide
    | 1, 3, _, _, _ => decide
    | 2, 0, _, _, _ => decide
    | 2, 1, _, _, _ => decide
    | 2, 3, _, _, _ => decide
    | 3, 0, _, _, _ => decide
    | 3, 1, _, _, _ => decide
    | 3, 2, _, _, _ => decide
    | 0, 0, _, _, h => exact absurd rfl h
    | 1, 1, _, _, h => exact absurd rfl h
    | 2, 2, _, _, h => exact absurd rfl h
    | 3, 3, _, _, h => exact absurd rfl h
set_option maxHeartbeats 32000000 in
theorem circ_Net (c : Circ) (w : World) (hC : CAt w c) (hg : GoodC' c.t) (hz : SzC c.t 100000) :
    Lt.Spec Try.prog 87 [c.val] w (IsFresh2 2 encN 104 1 encI 3 w (cNet c.t).1 (cNet c.t).2) := by
  have z1 : c.ins.2.2.length ≤ 100000 := hz.1
  have z2 : c.lat.2.2.length ≤ 100000 := hz.2.1
  have z6 : c.gates.2.2.length ≤ 100000 := hz.2.2.2.2.2
  have hm : 0 ≤ c.max ∧ c.max ≤ 16777216 := hg.max
  have hcm : c.t.max = c.max := rfl
  obtain ⟨m, hmm⟩ : ∃ m : Nat, c.max = (m : Int) := ⟨c.max.toNat, by omega⟩
  have hmt : c.max.toNat = m := by omega
  have hown : ∀ x ∈ c.t.own, 2 ≤ x ∧ x % 2 = 0 ∧ x ≤ 2 * c.max := hg.own
  have hused : ∀ x ∈ c.t.used, 0 ≤ x ∧ x ≤ 2 * c.max + 1 := hg.used
  refine Spec.of _ Try.func87 rfl Try.ntmps87 (by kernel_rfl) rfl ?_
  repeat' (first
    | (apply WL.box; exact rfl; exact rfl; exact rfl; intro gb w' hb hge hc hx; have hcc := hc; (first | (obtain ⟨h1, h2, h3, _⟩ := hc) | (obtain ⟨h1, h2, _⟩ := hc)); (have hcells := hcc; obtain ⟨y0, y1, y2, y3, y4, y5, y6, _⟩ := hcc; obtain ⟨gc, rfl⟩ : ∃ x, x = gb := ⟨_, rfl⟩; obtain ⟨wc, rfl⟩ : ∃ x, x = w' := ⟨_, rfl⟩; obtain ⟨hxc, rfl⟩ : ∃ x, x = hx := ⟨_, rfl⟩; have hS : Lt.Sep wc.heap.size wc [prow 2 encN 104 wc.heap.size none 0 []] := Sep.newRow Sep.none' (Ext.refl _) Own.nil (fun k hk => by cases hk) (Nat.le_refl _)))
    | (apply WL.alloc tOk; exact rfl; exact rfl; exact rfl; intro gb w' hb hge hx; replace hS := Sep.newCell (Sep.ext hS (by (exact extA))) hx hb hge (by (first | exact Nat.le_refl _ | exact Below.size (by (exact extA)))); (try simp only [List.set_cons_zero, List.set_cons_succ] at hS); (try have hR0 := hS.row (i := 0) rfl); (try have hR1 := hS.row (i := 1) rfl); (try have hR2 := hS.row (i := 2) rfl); (try have hR3 := hS.row (i := 3) rfl); (try have hR4 := hS.row (i := 4) rfl); (try have hC0 := hS.cell (i := 0) rfl); (try have hD0 := (cells_heap hC0).1); (try have hE0 := (cells_heap hC0).2.1); (try have hF0 := (cells_heap hC0).2.2.1); (try have hG0 := (cells_heap hC0).2.2.2.1); (try have hC1 := hS.cell (i := 1) rfl); (try have hD1 := (cells_heap hC1).1); (try have hE1 := (cells_heap hC1).2.1); (try have hF1 := (cells_heap hC1).2.2.1); (try have hG1 := (cells_heap hC1).2.2.2.1); (try have hC2 := hS.cell (i := 2) rfl); (try have hD2 := (cells_heap hC2).1); (try have hE2 := (cells_heap hC2).2.1); (try have hF2 := (cells_heap hC2).2.2.1); (try have hG2 := (cells_heap hC2).2.2.2.1); (try have hC3 := hS.cell (i := 3) rfl); (try have hD3 := (cells_heap hC3).1); (try have hE3 := (cells_heap hC3).2.1); (try have hF3 := (cells_heap hC3).2.2.1); (try have hG3 := (cells_heap hC3).2.2.2.1); (try have hC4 := hS.cell (i := 4) rfl); (try have hD4 := (cells_heap hC4).1); (try have hE4 := (cells_heap hC4).2.1); (try have hF4 := (cells_heap hC4).2.2.1); (try have hG4 := (cells_heap hC4).2.2.2.1); (try have hM0 := hS.map (i := 0) rfl); (try have hM1 := hS.map (i := 1) rfl); (try have hM2 := hS.map (i := 2) rfl); (try have hM3 := hS.map (i := 3) rfl); (try have hM4 := hS.map (i := 4) rfl); (first | (have h_0 := g4; clear h_0) | (obtain ⟨g4, rfl⟩ : ∃ x, x = gb := ⟨_, rfl⟩)))
    | (apply WL.make (w0 := wc) (z := (0:Int)) tOk; exact rfl; exact rfl; exact rfl; exact rfl; exact rfl; exact rfl; exact rfl; exact rfl; exact rfl; exact encI_ok; exact rfl; exact rfl; (exact extA); (first | omega | (simp; omega) | (simp at *; omega)); intro gb w' hO hge hx; replace hS := Sep.newRow (Sep.ext hS (by (exact extA))) hx hO (fun k hk => by cases hk; exact hge) (by (first | exact Nat.le_refl _ | exact Below.size (by (exact extA)))); (try simp only [List.set_cons_zero, List.set_cons_succ] at hS); (try have hR0 := hS.row (i := 0) rfl); (try have hR1 := hS.row (i := 1) rfl); (try have hR2 := hS.row (i := 2) rfl); (try have hR3 := hS.row (i := 3) rfl); (try have hR4 := hS.row (i := 4) rfl); (try have hC0 := hS.cell (i := 0) rfl); (try have hD0 := (cells_heap hC0).1); (try have hE0 := (cells_heap hC0).2.1); (try have hF0 := (cells_heap hC0).2.2.1); (try have hG0 := (cells_heap hC0).2.2.2.1); (try have hC1 := hS.cell (i := 1) rfl); (try have hD1 := (cells_heap hC1).1); (try have hE1 := (cells_heap hC1).2.1); (try have hF1 := (cells_heap hC1).2.2.1); (try have hG1 := (cells_heap hC1).2.2.2.1); (try have hC2 := hS.cell (i := 2) rfl); (try have hD2 := (cells_heap hC2).1); (try have hE2 := (cells_heap hC2).2.1); (try have hF2 := (cells_heap hC2).2.2.1); (try have hG2 := (cells_heap hC2).2.2.2.1); (try have hC3 := hS.cell (i := 3) rfl); (try have hD3 := (cells_heap hC3).1); (try have hE3 := (cells_heap hC3).2.1); (try have hF3 := (cells_heap hC3).2.2.1); (try have hG3 := (cells_heap hC3).2.2.2.1); (try have hC4 := hS.cell (i := 4) rfl); (try have hD4 := (cells_heap hC4).1); (try have hE4 := (cells_heap hC4).2.1); (try have hF4 := (cells_heap hC4).2.2.1); (try have hG4 := (cells_heap hC4).2.2.2.1); (try have hM0 := hS.map (i := 0) rfl); (try have hM1 := hS.map (i := 1) rfl); (try have hM2 := hS.map (i := 2) rfl); (try have hM3 := hS.map (i := 3) rfl); (try have hM4 := hS.map (i := 4) rfl); (obtain ⟨ga, rfl⟩ : ∃ x, x = gb := ⟨_, rfl⟩))
    | (apply WL.storeB (w0 := wc) tOk; exact rfl; exact rfl; exact rfl; exact rfl; assumption; (exact extA); exact rfl; exact rfl; exact rfl; (exact extA); (first | assumption | omega | (focus (apply Nat.le_trans; rotate_left; assumption; exact Below.size (by (exact extA)); done))); intro w' hb hc hX' hU; have hcc := hc; obtain ⟨h1, h2, _⟩ := hc; (first | replace hS := Sep.updCell (i := 0) rfl hU hb hS (by (exact extA)) (by (first | exact Nat.le_refl _ | exact Below.size (by (exact extA)))) | replace hS := Sep.updCell (i := 1) rfl hU hb hS (by (exact extA)) (by (first | exact Nat.le_refl _ | exact Below.size (by (exact extA)))) | replace hS := Sep.updCell (i := 2) rfl hU hb hS (by (exact extA)) (by (first | exact Nat.le_refl _ | exact Below.size (by (exact extA)))) | replace hS := Sep.updCell (i := 3) rfl hU hb hS (by (exact extA)) (by (first | exact Nat.le_refl _ | exact Below.size (by (exact extA))))); (try simp only [List.set_cons_zero, List.set_cons_succ] at hS); (try have hR0 := hS.row (i := 0) rfl); (try have hR1 := hS.row (i := 1) rfl); (try have hR2 := hS.row (i := 2) rfl); (try have hR3 := hS.row (i := 3) rfl); (try have hR4 := hS.row (i := 4) rfl); (try have hC0 := hS.cell (i := 0) rfl); (try have hD0 := (cells_heap hC0).1); (try have hE0 := (cells_heap hC0).2.1); (try have hF0 := (cells_heap hC0).2.2.1); (try have hG0 := (cells_heap hC0).2.2.2.1); (try have hC1 := hS.cell (i := 1) rfl); (try have hD1 := (cells_heap hC1).1); (try have hE1 := (cells_heap hC1).2.1); (try have hF1 := (cells_heap hC1).2.2.1); (try have hG1 := (cells_heap hC1).2.2.2.1); (try have hC2 := hS.cell (i := 2) rfl); (try have hD2 := (cells_heap hC2).1); (try have hE2 := (cells_heap hC2).2.1); (try have hF2 := (cells_heap hC2).2.2.1); (try have hG2 := (cells_heap hC2).2.2.2.1); (try have hC3 := hS.cell (i := 3) rfl); (try have hD3 := (cells_heap hC3).1); (try have hE3 := (cells_heap hC3).2.1); (try have hF3 := (cells_heap hC3).2.2.1); (try have hG3 := (cells_heap hC3).2.2.2.1); (try have hC4 := hS.cell (i := 4) rfl); (try have hD4 := (cells_heap hC4).1); (try have hE4 := (cells_heap hC4).2.1); (try have hF4 := (cells_heap hC4).2.2.1); (try have hG4 := (cells_heap hC4).2.2.2.1); (try have hM0 := hS.map (i := 0) rfl); (try have hM1 := hS.map (i := 1) rfl); (try have hM2 := hS.map (i := 2) rfl); (try have hM3 := hS.map (i := 3) rfl); (try have hM4 := hS.map (i := 4) rfl))
    | (show WL _ _ _ _ _ _ _; first | apply WL.nil | (refine WL.au (k := ?_)))
    | (show Z _ _ _ _ _; apply Z.then_normal)
    | (show W _ _ _ _ _ _; first | apply W.seq | apply W.region | apply W.block))
  obtain ⟨g5, rfl⟩ : ∃ x, x = gb := ⟨_, rfl⟩
  have e1 : (c.max + 1).toNat = m + 1 := by omega
  rw [e1, List.length_replicate] at hS
  have hS2 : Lt.Sep wc.heap.size w' (netP wc.heap.size g4 g5 none 0 (some ⟨ga, 0, none⟩) (m + 1) ([], List.replicate (m + 1) 0)) := by
    have := Sep.perm4 hS
    unfold netP
    rw [List.length_replicate]
    exact this
  have hA0 : AtK m 1 (List.replicate (m + 1) 0) := ⟨by simp, rfl, fun u h1 h2 => by omega⟩
  have hX1 : Ext wc w' := (by (exact extA))
  refine W.loopW (m + 1) (fun k w' => k ≤ m ∧ Ext wc w' ∧ ∃ A, AtK m (k + 1) A ∧ Lt.Sep wc.heap.size w' (netP wc.heap.size g4 g5 none 0 (some ⟨ga, 0, none⟩) (m + 1) ([], A))) (fun k => [(1, .pointer (some ⟨gc, 0, none⟩)), (4, .pointer (some ⟨g4, 0, none⟩)), (5, .pointer (some ⟨g5, 0, none⟩)), (6, .int .i64 ((k : Int) + 1))]) ⟨Nat.zero_le _, hX1, _, hA0, hS2⟩ (fun k w' h => by have := h.1; omega) ⟨rfl, rfl, rfl, rfl, trivial⟩ ?_
  clear hS hS2 hA0 hX1
  rintro k w3 ⟨hk, hX3, A, hA, hS⟩
  have hlA := hA.len
  have hlA2 : (([], A) : NA).2.length = m + 1 := hA.len
  have k1 := (cells_heap (hS.cell (i := 1) rfl)).1
  have hAo := hS.row (i := 3) rfl
  by_cases hlt : k < m
  · obtain ⟨yv, hyv⟩ := getI A (show ((k : Int) + 1).toNat < A.length by omega)
    repeat' (first
      | (show WL _ _ _ _ _ _ _; first | apply WL.nil | (refine WL.au (k := ?_)))
      | (show Z _ _ _ _ _; apply Z.then_normal)
      | (show W _ _ _ _ _ _; first | apply W.seq | apply W.region))
    refine W.condKT rfl (dec_true (by omega)) ?_
    repeat' (first
      | (apply WL.indexO tOk; exact rfl; exact rfl; exact rfl; exact rfl; exact rfl; exact rfl; exact rfl; exact rfl; assumption; (exact extA); exact encI_ok; (first | exact rfl | (focus (simp only [List.length_set]; done)) | (focus (simp; done)) | (focus (simp [*]; done)) | omega | (focus (simp only [List.length_set]; omega))); omega; assumption; intro gb ha hc; cases ha; have hcc := hc; first | (obtain ⟨h1, h2, h3, _⟩ := hc) | (obtain ⟨h1, h2, _⟩ := hc) | (obtain ⟨h1, _⟩ := hc))
      | (apply WL.storeO (z' := ((-1 : Int))) tOk; exact rfl; exact rfl; exact rfl; exact rfl; assumption; (exact extA); exact rfl; exact rfl; exact rfl; exact encI_ok; assumption; exact rfl; (exact extA); intro w' hO hX' hU)
      | (show WL _ _ _ _ _ _ _; first | apply WL.nil | (refine WL.au (k := ?_)))
      | (show Z _ _ _ _ _; first | apply Z.then_normal | apply Z.block_normal)
      | (show W _ _ _ _ _ _; first | apply W.seq | apply W.region | apply W.block | apply W.skip))
    have hS3 := Sep.updRow (i := 3) rfl hU hO (.inl rfl) hS (Ext.refl _) (Below.size hX3)
    refine Z.againW ⟨by omega, (by (exact extA)), A.set ((k : Int) + 1).toNat (-1), ⟨by simp [hlA], ?_, fun u h1 h2 => ?_⟩, ?_⟩ ⟨rfl, rfl, rfl, rfl, trivial⟩
    · rw [List.getElem?_set_ne (by omega)]; exact hA.zero
    · by_cases hu : u = k + 1
      · subst hu; rw [show ((k : Int) + 1).toNat = k + 1 by omega, List.getElem?_set_self (by omega)]
      · rw [List.getElem?_set_ne (by omega)]; exact hA.neg u h1 (by omega)
    · unfold netP
      rw [List.length_set]
      exact hS3
  obtain rfl : k = m := by omega
  obtain rfl := hA.all
  repeat' (first
    | (show WL _ _ _ _ _ _ _; first | apply WL.nil | (refine WL.au (k := ?_)))
    | (show Z _ _ _ _ _; apply Z.then_normal)
    | (show W _ _ _ _ _ _; first | apply W.seq | apply W.region))
  refine W.condKF rfl (dec_false (by omega)) ?_
  repeat' (first
    | (show WL _ _ _ _ _ _ _; first | apply WL.nil | (refine WL.au (k := ?_)))
    | (show Z _ _ _ _ _; first | apply Z.then_normal | apply Z.then_exit | apply Z.block_exit)
    | (show W _ _ _ _ _ _; first | apply W.seq | apply W.region | apply W.block | apply W.exit))
  have Ri := hC.ins.row.ext hxc
  have Rl := hC.lat.row.ext hxc
  have Rg := hC.gates.row.ext hxc
  have hown1 : ∀ x ∈ c.ins.2.2, 2 ≤ x ∧ x % 2 = 0 ∧ x ≤ 2 * c.max := fun x hx => hown x (List.mem_append_left _ (List.mem_append_left _ hx))
  have hown2 : ∀ x ∈ c.lat.2.2, 2 ≤ x.1 ∧ x.1 % 2 = 0 ∧ x.1 ≤ 2 * c.max := fun x hx => hown x.1 (List.mem_append_left _ (List.mem_append_right _ (List.mem_map.2 ⟨x, hx, rfl⟩)))
  have e10 : cS1 c.t 0 = ([], cAt0 (k : Int)) := by rw [cS1_0, hcm, hmm]
  refine W.loopW c.ins.2.2.length (fun j w' => j ≤ c.ins.2.2.length ∧ Ext wc w' ∧ ∃ an cn, Lt.Sep wc.heap.size w' (netP wc.heap.size g4 g5 an cn (some ⟨ga, 0, none⟩) (k + 1) (cS1 c.t j) ++ [])) (fun j => [(1, .pointer (some ⟨gc, 0, none⟩)), (4, .pointer (some ⟨g4, 0, none⟩)), (5, .pointer (some ⟨g5, 0, none⟩)), (7, .func (.func 137) #[] #[.pointer (some ⟨g4, 0, none⟩), .pointer (some ⟨g5, 0, none⟩)]), (31, rowVal c.ins), (32, .int .i64 (c.ins.2.2.length : Nat)), (33, .int .i64 j)]) ⟨Nat.zero_le _, hX3, none, 0, by rw [e10]; exact hS⟩ (fun k w' h => h.1) ⟨rfl, rfl, rfl, rfl, rfl, rfl, rfl, trivial⟩ ?_
  clear hS hAo k1 hX3 hlA hlA2 hA
  rintro j w4 ⟨hj, hX4, an, cn, hS⟩
  have hl1 : (cS1 c.t j).1.length = j ∧ (cS1 c.t j).2.length = c.max.toNat + 1 := cS1_len c.t hj
  by_cases hlt : j < c.ins.2.2.length
  · obtain ⟨x, hgx⟩ := getI c.ins.2.2 hlt
    have hxo := hown1 x (List.mem_of_getElem? hgx)
    have e1 := cS1_s (c := c.t) hgx
    have hcall := circ_Net1 wc w4 g4 g5 an cn (some ⟨ga, 0, none⟩) (k + 1) (cS1 c.t j) [] x (-1, 0) hX4 hS (by omega) (by omega) (by omega)
    repeat' (first
      | (show WL _ _ _ _ _ _ _; first | apply WL.nil | (refine WL.au (k := ?_)))
      | (show Z _ _ _ _ _; apply Z.then_normal)
      | (show W _ _ _ _ _ _; first | apply W.seq | apply W.region))
    refine W.condKT rfl (dec_true (by omega)) ?_
    repeat' (first
      | (apply WL.build tOk; exact rfl; exact rfl; exact rfl; exact rfl; exact rfl; exact rfl; exact rfl; kernel_rfl)
      | ((show WL _ _ _ (⟨_, .call ⟨.value (.tmp _), _, _⟩, _, _, _, _⟩ :: _) _ _ _; apply WL.call; exact rfl; exact rfl; exact rfl; exact rfl; exact hcall; rintro v' w5 ⟨rfl, hX5, an2, cn2, hS5⟩))
      | (show WL _ _ _ _ _ _ _; first | apply WL.nil | (refine WL.au (k := ?_)) | (apply WL.index tOk; exact rfl; exact rfl; exact rfl; exact rfl; exact rfl; exact rfl; exact rfl; exact rfl; assumption; (exact extA); exact rfl; omega; assumption; intro b off h; have hcc := h; first | (obtain ⟨h1, h2, h3, h4, h5, h6, _⟩ := h) | (obtain ⟨h1, h2, h3, _⟩ := h) | (obtain ⟨h1, h2, _⟩ := h) | (obtain ⟨h1, _⟩ := h)))
      | (show Z _ _ _ _ _; first | apply Z.then_normal | apply Z.block_normal)
      | (show W _ _ _ _ _ _; first | apply W.seq | apply W.region | apply W.block | apply W.skip))
    exact Z.againW ⟨by omega, hX5, an2, cn2, by rw [e1]; exact hS5⟩ ⟨rfl, rfl, rfl, rfl, rfl, rfl, rfl, trivial⟩
  obtain rfl : j = c.ins.2.2.length := by omega
  repeat' (first
    | (show WL _ _ _ _ _ _ _; first | apply WL.nil | (refine WL.au (k := ?_)))
    | (show Z _ _ _ _ _; apply Z.then_normal)
    | (show W _ _ _ _ _ _; first | apply W.seq | apply W.region))
  refine W.condKF rfl (dec_false (by omega)) ?_
  repeat' (first
    | (show WL _ _ _ _ _ _ _; first | apply WL.nil | (refine WL.au (k := ?_)))
    | (show Z _ _ _ _ _; first | apply Z.then_normal | apply Z.then_exit | apply Z.block_exit)
    | (show W _ _ _ _ _ _; first | apply W.seq | apply W.region | apply W.block | apply W.exit))
  have e20 : cS2 c.t 0 = cS1 c.t c.ins.2.2.length := cS2_0 c.t
  refine W.loopW c.lat.2.2.length (fun j w' => j ≤ c.lat.2.2.length ∧ Ext wc w' ∧ ∃ an cn, Lt.Sep wc.heap.size w' (netP wc.heap.size g4 g5 an cn (some ⟨ga, 0, none⟩) (k + 1) (cS2 c.t j) ++ [])) (fun j => [(1, .pointer (some ⟨gc, 0, none⟩)), (4, .pointer (some ⟨g4, 0, none⟩)), (5, .pointer (some ⟨g5, 0, none⟩)), (7, .func (.func 137) #[] #[.pointer (some ⟨g4, 0, none⟩), .pointer (some ⟨g5, 0, none⟩)]), (43, rowVal c.lat), (44, .int .i64 (c.lat.2.2.length : Nat)), (45, .int .i64 j)]) ⟨Nat.zero_le _, hX4, an, cn, by rw [e20]; exact hS⟩ (fun k w' h => h.1) ⟨rfl, rfl, rfl, rfl, rfl, rfl, rfl, trivial⟩ ?_
  clear hS hX4 hl1 hj hlt
  rintro j w4 ⟨hj, hX4, an, cn, hS⟩
  have hl1 : (cS2 c.t j).1.length = c.ins.2.2.length + j ∧ (cS2 c.t j).2.length = c.max.toNat + 1 := cS2_len c.t hj
  by_cases hlt : j < c.lat.2.2.length
  · obtain ⟨x, hgx⟩ := getI c.lat.2.2 hlt
    have hxo := hown2 x (List.mem_of_getElem? hgx)
    have e1 := cS2_s (c := c.t) hgx
    have hcall := fun (w9 : World) (h9 : Ext w4 w9) => circ_Net1 wc w9 g4 g5 an cn (some ⟨ga, 0, none⟩) (k + 1) (cS2 c.t j) [] x.1 (-1, 0) (hX4.trans h9) (hS.ext h9) (by omega) (by omega) (by omega)
    repeat' (first
      | (show WL _ _ _ _ _ _ _; first | apply WL.nil | (refine WL.au (k := ?_)))
      | (show Z _ _ _ _ _; apply Z.then_normal)
      | (show W _ _ _ _ _ _; first | apply W.seq | apply W.region))
    refine W.condKT rfl (dec_true (by omega)) ?_
    repeat' (first
      | (apply WL.alloc tOk; exact rfl; exact rfl; exact rfl; intro gb w' hb hge hx)
      | (apply WL.storeB (w0 := w4) tOk; exact rfl; exact rfl; exact rfl; exact rfl; assumption; (exact extA); exact rfl; exact rfl; exact rfl; (exact extA); (first | assumption | omega | (focus (apply Nat.le_trans; rotate_left; assumption; exact Below.size (by (exact extA)); done))); intro w' hb hc hX' hU; have hcc := hc; obtain ⟨h1, h2, _⟩ := hc; (have hC8 := cells_heap hb; obtain ⟨i0, i1, i2, _⟩ := hC8))
      | (apply WL.build tOk; exact rfl; exact rfl; exact rfl; exact rfl; exact rfl; exact rfl; exact rfl; kernel_rfl)
      | ((show WL _ _ _ (⟨_, .call ⟨.value (.tmp _), _, _⟩, _, _, _, _⟩ :: _) _ _ _; apply WL.call; exact rfl; exact rfl; exact rfl; exact rfl; exact hcall _ (by (exact extA)); rintro v' w5 ⟨rfl, hX5, an2, cn2, hS5⟩))
      | (show WL _ _ _ _ _ _ _; first | apply WL.nil | (refine WL.au (k := ?_)) | (apply WL.index tOk; exact rfl; exact rfl; exact rfl; exact rfl; exact rfl; exact rfl; exact rfl; exact rfl; assumption; (exact extA); exact rfl; omega; assumption; intro b off h; have hcc := h; first | (obtain ⟨h1, h2, h3, h4, h5, h6, _⟩ := h) | (obtain ⟨h1, h2, h3, _⟩ := h) | (obtain ⟨h1, h2, _⟩ := h) | (obtain ⟨h1, _⟩ := h)))
      | (show Z _ _ _ _ _; first | apply Z.then_normal | apply Z.block_normal)
      | (show W _ _ _ _ _ _; first | apply W.seq | apply W.region | apply W.block | apply W.skip))
    exact Z.againW ⟨by omega, hX5, an2, cn2, by rw [e1]; exact hS5⟩ ⟨rfl, rfl, rfl, rfl, rfl, rfl, rfl, trivial⟩
  obtain rfl : j = c.lat.2.2.length := by omega
  repeat' (first
    | (show WL _ _ _ _ _ _ _; first | apply WL.nil | (refine WL.au (k := ?_)))
    | (show Z _ _ _ _ _; apply Z.then_normal)
    | (show W _ _ _ _ _ _; first | apply W.seq | apply W.region))
  refine W.condKF rfl (dec_false (by omega)) ?_
  have hgm : ∀ g ∈ c.gates.2.2, g.1 ∈ c.t.own ∧ g.2.1 ∈ c.t.used ∧ g.2.2 ∈ c.t.used := fun g hg =>
    ⟨List.mem_append.2 (.inr (List.mem_map.2 ⟨g, hg, rfl⟩)), List.mem_append.2 (.inr (List.mem_flatMap.2 ⟨g, hg, by simp⟩)), List.mem_append.2 (.inr (List.mem_flatMap.2 ⟨g, hg, by simp⟩))⟩
  have hok : gsOk c.gates.2.2 := fun g hg => by
    obtain ⟨r1, r2, r3⟩ := hgm g hg
    have := hown _ r1
    have := hused _ r2
    have := hused _ r3
    omega
  have h7 : ¬ Twice c.t := fun ⟨i, x, a1, a2⟩ => by
    have h3 := List.pairwise_iff_getElem.1 (List.nodup_iff_pairwise_ne.1 hg.once)
    obtain ⟨j, hj, he⟩ := List.mem_take_iff_getElem.1 a2
    obtain ⟨hi, he2⟩ := List.getElem?_eq_some_iff.1 a1
    exact h3 j i (by omega) hi (by omega) (by rw [he, he2])
  have honce : Once c.gates.2.2 := once_of (c := c.t) h7 fun x hx => (hown x hx).2.1
  have hcells4 := hcells.ext hX4
  have x0 : Cells w4 gc 0 c.vals := hcells4
  repeat' (first
    | ((show WL _ _ _ (⟨_, .call ⟨.value (.func 111), _, _⟩, _, _, _, _⟩ :: _) _ _ _); apply WL.call; exact rfl; exact rfl; exact rfl; exact rfl; exact circ_Order c _ (Rg.ext (by (exact extA))) hok (by omega) honce; rintro v' w' ⟨hx, a', cap', rfl, hO⟩; (obtain ⟨hOd, rfl⟩ : ∃ x, x = hO := ⟨_, rfl⟩; obtain ⟨hxd, rfl⟩ : ∃ x, x = hx := ⟨_, rfl⟩; obtain ⟨wd, rfl⟩ : ∃ x, x = w' := ⟨_, rfl⟩; obtain ⟨ad, rfl⟩ : ∃ x, x = a' := ⟨_, rfl⟩; obtain ⟨cd, rfl⟩ : ∃ x, x = cap' := ⟨_, rfl⟩))
    | (show WL _ _ _ _ _ _ _; first | apply WL.nil | (refine WL.au (k := ?_)))
    | (show Z _ _ _ _ _; first | apply Z.then_normal | apply Z.then_exit | apply Z.block_exit)
    | (show W _ _ _ _ _ _; first | apply W.seq | apply W.region | apply W.block | apply W.exit))
  have hS0 : Lt.Sep wc.heap.size wd (netP wc.heap.size g4 g5 an cn (some ⟨ga, 0, none⟩) (k + 1) (cS2 c.t c.lat.2.2.length) ++ [prow 1 encI 3 wc.heap.size ad cd (natI (ordL c.gates.2.2))]) := by
    have h1 := hS.newRow' hxd hOd (Below.size hX4)
    rw [List.append_nil] at h1
    exact Sep.comm (ps := [prow 1 encI 3 wc.heap.size ad cd (natI (ordL c.gates.2.2))]) h1
  have hXd : Ext wc wd := (by (exact extA))
  have e30 : cS3 c.t 0 = cS2 c.t c.lat.2.2.length := cS3_0 c.t
  have hnl : (natI (ordL c.gates.2.2)).length = (ordL c.gates.2.2).length := by simp [natI]
  have hol : (ordL c.gates.2.2).length ≤ c.gates.2.2.length := (ordL_is c.gates.2.2).1.le
  refine W.loopW (ordL c.gates.2.2).length (fun j w' => j ≤ (ordL c.gates.2.2).length ∧ Ext wc w' ∧ ∃ an cn, Lt.Sep wc.heap.size w' (netP wc.heap.size g4 g5 an cn (some ⟨ga, 0, none⟩) (k + 1) (cS3 c.t j) ++ [prow 1 encI 3 wc.heap.size ad cd (natI (ordL c.gates.2.2))])) (fun j => [(1, .pointer (some ⟨gc, 0, none⟩)), (4, .pointer (some ⟨g4, 0, none⟩)), (5, .pointer (some ⟨g5, 0, none⟩)), (7, .func (.func 137) #[] #[.pointer (some ⟨g4, 0, none⟩), .pointer (some ⟨g5, 0, none⟩)]), (12, .func (.func 138) #[] #[.pointer (some ⟨g5, 0, none⟩)]), (57, .slice ad (natI (ordL c.gates.2.2)).length cd), (58, .int .i64 (natI (ordL c.gates.2.2)).length), (59, .int .i64 j)]) ⟨Nat.zero_le _, hXd, an, cn, by rw [e30]; exact hS0⟩ (fun k w' h => h.1) ⟨rfl, rfl, rfl, rfl, rfl, rfl, rfl, rfl, trivial⟩ ?_
  clear hS hS0 hX4 hl1 hj hlt hcells4 x0 hXd
  rintro j w4 ⟨hj, hX4, an, cn, hS⟩
  have hl1 : (cS3 c.t j).1.length = c.ins.2.2.length + c.lat.2.2.length + j ∧ (cS3 c.t j).2.length = c.max.toNat + 1 := cS3_len c.t hj
  by_cases hlt : j < (ordL c.gates.2.2).length
  · obtain ⟨i, hi⟩ := getI (ordL c.gates.2.2) hlt
    obtain ⟨g, za, zb, hgg, hza, hzb, ka, kb⟩ := cS3_get hg (c := c.t) hi
    have hgg : c.gates.2.2[i]? = some g := hgg
    have hgi : c.gates.2.2[((i : Nat) : Int).toNat]? = some g := by rw [Int.toNat_natCast]; exact hgg
    have hgo := hok g (List.mem_of_getElem? hgg)
    have hgw := hown g.1 (hgm g (List.mem_of_getElem? hgg)).1
    have hgl := lt_of_get hgg
    have hni : (natI (ordL c.gates.2.2))[((j : Nat) : Int).toNat]? = some (i : Int) := by rw [Int.toNat_natCast, natI, List.getElem?_map, hi]; rfl
    have e1 : cS3 c.t (j + 1) = cput (cS3 c.t j) g.1 (litI (cS3 c.t j).2 g.2.1, litI (cS3 c.t j).2 g.2.2) := by rw [cS3_s (c := c.t) hi]; unfold cGate; rw [gAt_of hgg]
    have k1 := (cells_heap (hS.cell (i := 1) rfl)).1
    have RA := (hS.row (i := 3) rfl).row encI_ok
    have RO := (hS.row (i := 4) rfl).row encI_ok
    have hcall := fun (w9 : World) (h9 : Ext w4 w9) => circ_Net1 wc w9 g4 g5 an cn (some ⟨ga, 0, none⟩) (k + 1) (cS3 c.t j) [prow 1 encI 3 wc.heap.size ad cd (natI (ordL c.gates.2.2))] g.1 (litI (cS3 c.t j).2 g.2.1, litI (cS3 c.t j).2 g.2.2) (hX4.trans h9) (hS.ext h9) (by omega) (by omega) (by omega)
    repeat' (first
      | (show WL _ _ _ _ _ _ _; first | apply WL.nil | (refine WL.au (k := ?_)))
      | (show Z _ _ _ _ _; apply Z.then_normal)
      | (show W _ _ _ _ _ _; first | apply W.seq | apply W.region))
    refine W.condKT rfl (dec_true (by omega)) ?_
    repeat' (first
      | (apply WL.alloc tOk; exact rfl; exact rfl; exact rfl; intro gb w' hb hge hx)
      | (apply WL.storeB (w0 := w4) tOk; exact rfl; exact rfl; exact rfl; exact rfl; assumption; (exact extA); exact rfl; exact rfl; exact rfl; (exact extA); (first | assumption | omega | (focus (apply Nat.le_trans; rotate_left; assumption; exact Below.size (by (exact extA)); done))); intro w' hb hc hX' hU; have hcc := hc; obtain ⟨h1, h2, _⟩ := hc; (obtain ⟨w6, rfl⟩ : ∃ x, x = w' := ⟨_, rfl⟩; obtain ⟨hX6, rfl⟩ : ∃ x, x = hX' := ⟨_, rfl⟩; have hC8 := cells_heap hb; obtain ⟨i0, i1, i2, _⟩ := hC8))
      | (show WL _ _ _ _ _ _ _; first | apply WL.nil | (refine WL.au (k := ?_)) | (apply WL.index tOk; exact rfl; exact rfl; exact rfl; exact rfl; exact rfl; exact rfl; exact rfl; exact rfl; assumption; (exact extA); exact rfl; omega; assumption; intro b off h; have hcc := h; first | (obtain ⟨h1, h2, h3, h4, h5, h6, _⟩ := h) | (obtain ⟨h1, h2, h3, _⟩ := h) | (obtain ⟨h1, h2, _⟩ := h) | (obtain ⟨h1, _⟩ := h)))
      | (show Z _ _ _ _ _; apply Z.then_normal)
      | (show W _ _ _ _ _ _; first | apply W.seq | apply W.region | apply W.block | apply W.skip))
    have k1' := hX6.cell k1
    have RA' := RA.ext hX6
    repeat' (first
      | (apply W.regionQS 12 tMix; kernel_rfl; exact rfl; kernel_rfl; kernel_rfl)
      | (apply QL.build tOk; exact rfl; exact rfl; exact rfl; exact rfl; exact rfl; exact rfl; exact rfl; kernel_rfl)
      | ((show QL _ _ _ _ (⟨_, .call ⟨.value (.tmp _), _, _⟩, _, _, _, _⟩ :: _) _ _); apply QL.callS; exact rfl; exact rfl; exact rfl; exact rfl; exact circ_Net2 _ g5 _ _ (cS3 c.t j).2 g.2.1 za k1' RA' (by omega) (by omega) hza (by omega))
      | ((show QL _ _ _ _ (⟨_, .call ⟨.value (.tmp _), _, _⟩, _, _, _, _⟩ :: _) _ _); apply QL.callS; exact rfl; exact rfl; exact rfl; exact rfl; exact circ_Net2 _ g5 _ _ (cS3 c.t j).2 g.2.2 zb k1' RA' (by omega) (by omega) hzb (by omega))
      | ((show WL _ _ _ (⟨_, .call ⟨.value (.tmp _), _, _⟩, _, _, _, _⟩ :: _) _ _ _; apply WL.call; exact rfl; exact rfl; exact rfl; exact rfl; exact hcall _ (by (exact extA)); rintro v' w5 ⟨rfl, hX5, an2, cn2, hS5⟩))
      | (show WL _ _ _ _ _ _ _; first | apply WL.nil | (refine WL.au (k := ?_)))
      | (show QL _ _ _ _ _ _ _; first | apply QL.nil | (refine QL.au (k := ?_)))
      | (show Z _ _ _ _ _; first | apply Z.tail | apply Z.then_normal | apply Z.block_normal)
      | (show W _ _ _ _ _ _; apply W.region))
    exact Z.againW ⟨by omega, hX5, an2, cn2, by rw [e1]; exact hS5⟩ ⟨rfl, rfl, rfl, rfl, rfl, rfl, rfl, rfl, trivial⟩
  obtain rfl : j = (ordL c.gates.2.2).length := by omega
  repeat' (first
    | (show WL _ _ _ _ _ _ _; first | apply WL.nil | (refine WL.au (k := ?_)))
    | (show Z _ _ _ _ _; apply Z.then_normal)
    | (show W _ _ _ _ _ _; first | apply W.seq | apply W.region))
  refine W.condKF rfl (dec_false (by omega)) ?_
  have e39 : cS3 c.t (ordL c.gates.2.2).length = cNet c.t := cS3_all c.t
  rw [e39] at hS
  have k0 := (cells_heap (hS.cell (i := 0) rfl)).1
  have k1 := (cells_heap (hS.cell (i := 1) rfl)).1
  have hwc := Below.size hxc
  repeat' (first
    | (show QL _ _ _ _ _ _ _; first | apply QL.nil | (refine QL.au (k := ?_)))
    | (show Z _ _ _ _ _; first | apply Z.then_normal | apply Z.then_exit | apply Z.block_exit)
    | (show W _ _ _ _ _ _; first | apply W.seq | apply W.ret | apply W.exit | (apply W.regionD tMix; kernel_rfl)))
  exact Z.body2 Try.results87 rfl rfl fun q => ⟨Ext.at (by (exact extA)) q, an, cn, some ⟨ga, 0, none⟩, k + 1, rfl, ((hS.row (i := 2) rfl).base hwc).ext ((Ext.refl _).at q), ((hS.row (i := 3) rfl).base hwc).ext ((Ext.refl _).at q)⟩
end Go.Proofs.Ythpnahapiodflaa
namespace Go.Proofs.Ythpnahapiodflaa
open Go Go.Lt Go.RowKit
set_option linter.unusedVariables false
set_option linter.unusedSimpArgs false
set_option maxRecDepth 20000

theorem ordL_nil : ordL [] = [] := (IsOrd.ord (gs := []) (L := []) ⟨PreOrd.nil _, fun i ⟨g, hg, _⟩ => by simp at hg⟩).symm
end Go.Proofs.Ythpnahapiodflaa
namespace Go.Proofs.Ythpnahapiodflaa
open Go Go.Lt Go.RowKit
set_option linter.unusedVariables false
set_option linter.unusedSimpArgs false
set_option maxRecDepth 20000

theorem few_sz2 {c : CirT} {m : Int} (h : FewC c m) (hm : m ≤ 100000) : SzC c 100000 ∧ c.syms.length ≤ 100000 := by
  obtain ⟨h1, h2, h3, h4, h5, h6, h7, _⟩ := few_iff.1 h
  exact ⟨⟨by omega, by omega, by omega, by omega, by omega, by omega⟩, by omega⟩
end Go.Proofs.Ythpnahapiodflaa
namespace Go.Proofs.Ythpnahapiodflaa
open Go Go.Lt Go.RowKit
set_option linter.unusedVariables false
set_option linter.unusedSimpArgs false
set_option maxRecDepth 20000

theorem factLt : FactEq Try.prog 69 := ⟨by kernel_rfl, by kernel_rfl⟩
theorem factGt : FactEq Try.prog 106 := ⟨by kernel_rfl, by kernel_rfl⟩
theorem factSy : FactEq Try.prog 110 := ⟨by kernel_rfl, by kernel_rfl⟩
theorem enc3_inj {x y : T3} (h : enc3 x = enc3 y) : x = y := by
  obtain ⟨a, b, c⟩ := x
  obtain ⟨d, e, f⟩ := y
  simp only [enc3, List.cons.injEq, Value.int.injEq, true_and, and_true] at h
  obtain ⟨rfl, rfl, rfl⟩ := h
  rfl
theorem encY_inj {x y : Sy} (h : encY x = encY y) : x = y := by
  obtain ⟨a, b, c⟩ := x
  obtain ⟨d, e, f⟩ := y
  simp only [encY, List.cons.injEq, Value.int.injEq, Value.string.injEq, true_and, and_true] at h
  obtain ⟨rfl, rfl, rfl⟩ := h
  rfl
theorem ne_iff {α : Type} {enc : α → List Value} (inj : ∀ {x y}, enc x = enc y → x = y) {x y : α} (h : ¬ x = y) : enc x ≠ enc y := fun he => h (inj he)
theorem clone_L (a : Option Addr) (cap : Nat) (l : List T3) (w : World) (R : Row 3 enc3 w a l) (hna : a = none → cap = 0) (hl : l.length ≤ 1048576) :
    Lt.Spec Try.prog 140 [.slice a l.length cap] w (IsFresh 3 enc3 69 w l) := by
  by_cases ha : a = none
  · subst ha
    have hl0 : l = [] := by
      cases l with
      | nil => rfl
      | cons x r => obtain ⟨b, off, h1, _⟩ := R.elem 0 x rfl; cases h1
    subst hl0
    refine Spec.of _ Try.func140 rfl Try.ntmps140 (by kernel_rfl) rfl ?_
    repeat' (first
      | (apply WL.eqSl tOk; exact rfl; exact rfl; exact rfl; exact rfl; exact rfl; exact rfl)
      | (apply W.condKT; exact rfl; (focus (exact dec_true rfl; done)))
      | (show WL _ _ _ _ _ _ _; first | apply WL.nil | (refine WL.au (k := ?_)))
      | (show Z _ _ _ _ _; first | apply Z.then_normal | apply Z.then_ret)
      | (show W _ _ _ _ _ _; first | apply W.seq | apply W.region | apply W.ret))
    exact Z.body1 Try.results140 rfl fun m => ⟨(Ext.refl _).at m, none, 0, rfl, Own.nil⟩
  · refine Spec.of _ Try.func140 rfl Try.ntmps140 (by kernel_rfl) rfl ?_
    repeat' (first
      | (apply WL.eqSl tOk; exact rfl; exact rfl; exact rfl; exact rfl; exact rfl; exact rfl)
      | (apply W.condKF; exact rfl; (focus (exact dec_false ha; done)))
      | (apply WL.lit (len := 0) tOk; exact rfl; exact rfl; exact rfl; exact rfl; exact rfl; exact rfl; (first | exact rfl | kernel_rfl | (simp [Instr.fill, catCells]; done)); exact rfl; intro gb w' hb hge hc hx; have hO0 := Own.of_block0 (enc := enc3) (s := 3) hb hge)
      | (apply WL.appendS tOk enc3_ok; exact rfl; exact rfl; exact rfl; exact rfl; exact rfl; exact rfl; exact rfl; exact rfl; exact rfl; exact rfl; assumption; (exact extA); (first | exact rfl | (focus (simp only [List.length_set]; done)) | (focus (simp; done)) | (focus (simp [*]; done)) | omega | (focus (simp only [List.length_set]; omega))); assumption; (exact extA); (first | exact rfl | (focus (simp only [List.length_set]; done)) | (focus (simp; done)) | (focus (simp [*]; done)) | omega | (focus (simp only [List.length_set]; omega))); (first | assumption | (intro h; cases h) | exact Own.noneCap (by assumption)); exact rfl; (exact extA); (first | omega | (simp; omega) | (simp at *; omega)); intro a' cap' w' hO hX' hU hF)
      | (show WL _ _ _ _ _ _ _; first | apply WL.nil | (refine WL.au (k := ?_)))
      | (show Z _ _ _ _ _; apply Z.then_normal)
      | (show W _ _ _ _ _ _; first | apply W.seq | apply W.region | apply W.skip | apply W.ret))
    exact Z.body1 Try.results140 rfl fun m => ⟨Ext.at (by (exact extA)) m, a', cap', by rw [List.nil_append], by rw [List.nil_append] at hO; exact hO⟩
theorem clone_G (a : Option Addr) (cap : Nat) (l : List T3) (w : World) (R : Row 3 enc3 w a l) (hna : a = none → cap = 0) (hl : l.length ≤ 1048576) :
    Lt.Spec Try.prog 141 [.slice a l.length cap] w (IsFresh 3 enc3 106 w l) := by
  by_cases ha : a = none
  · subst ha
    have hl0 : l = [] := by
      cases l with
      | nil => rfl
      | cons x r => obtain ⟨b, off, h1, _⟩ := R.elem 0 x rfl; cases h1
    subst hl0
    refine Spec.of _ Try.func141 rfl Try.ntmps141 (by kernel_rfl) rfl ?_
    repeat' (first
      | (apply WL.eqSl tOk; exact rfl; exact rfl; exact rfl; exact rfl; exact rfl; exact rfl)
      | (apply W.condKT; exact rfl; (focus (exact dec_true rfl; done)))
      | (show WL _ _ _ _ _ _ _; first | apply WL.nil | (refine WL.au (k := ?_)))
      | (show Z _ _ _ _ _; first | apply Z.then_normal | apply Z.then_ret)
      | (show W _ _ _ _ _ _; first | apply W.seq | apply W.region | apply W.ret))
    exact Z.body1 Try.results141 rfl fun m => ⟨(Ext.refl _).at m, none, 0, rfl, Own.nil⟩
  · refine Spec.of _ Try.func141 rfl Try.ntmps141 (by kernel_rfl) rfl ?_
    repeat' (first
      | (apply WL.eqSl tOk; exact rfl; exact rfl; exact rfl; exact rfl; exact rfl; exact rfl)
      | (apply W.condKF; exact rfl; (focus (exact dec_false ha; done)))
      | (apply WL.lit (len := 0) tOk; exact rfl; exact rfl; exact rfl; exact rfl; exact rfl; exact rfl; (first | exact rfl | kernel_rfl | (simp [Instr.fill, catCells]; done)); exact rfl; intro gb w' hb hge hc hx; have hO0 := Own.of_block0 (enc := enc3) (s := 3) hb hge)
      | (apply WL.appendS tOk enc3_ok; exact rfl; exact rfl; exact rfl; exact rfl; exact rfl; exact rfl; exact rfl; exact rfl; exact rfl; exact rfl; assumption; (exact extA); (first | exact rfl | (focus (simp only [List.length_set]; done)) | (focus (simp; done)) | (focus (simp [*]; done)) | omega | (focus (simp only [List.length_set]; omega))); assumption; (exact extA); (first | exact rfl | (focus (simp only [List.length_set]; done)) | (focus (simp; done)) | (focus (simp [*]; done)) | omega | (focus (simp only [List.length_set]; omega))); (first | assumption | (intro h; cases h) | exact Own.noneCap (by assumption)); exact rfl; (exact extA); (first | omega | (simp; omega) | (simp at *; omega)); intro a' cap' w' hO hX' hU hF)
      | (show WL _ _ _ _ _ _ _; first | apply WL.nil | (refine WL.au (k := ?_)))
      | (show Z _ _ _ _ _; apply Z.then_normal)
      | (show W _ _ _ _ _ _; first | apply W.seq | apply W.region | apply W.skip | apply W.ret))
    exact Z.body1 Try.results141 rfl fun m => ⟨Ext.at (by (exact extA)) m, a', cap', by rw [List.nil_append], by rw [List.nil_append] at hO; exact hO⟩
theorem clone_Y (a : Option Addr) (cap : Nat) (l : List Sy) (w : World) (R : Row 3 encY w a l) (hna : a = none → cap = 0) (hl : l.length ≤ 1048576) :
    Lt.Spec Try.prog 142 [.slice a l.length cap] w (IsFresh 3 encY 110 w l) := by
  by_cases ha : a = none
  · subst ha
    have hl0 : l = [] := by
      cases l with
      | nil => rfl
      | cons x r => obtain ⟨b, off, h1, _⟩ := R.elem 0 x rfl; cases h1
    subst hl0
    refine Spec.of _ Try.func142 rfl Try.ntmps142 (by kernel_rfl) rfl ?_
    repeat' (first
      | (apply WL.eqSl tOk; exact rfl; exact rfl; exact rfl; exact rfl; exact rfl; exact rfl)
      | (apply W.condKT; exact rfl; (focus (exact dec_true rfl; done)))
      | (show WL _ _ _ _ _ _ _; first | apply WL.nil | (refine WL.au (k := ?_)))
      | (show Z _ _ _ _ _; first | apply Z.then_normal | apply Z.then_ret)
      | (show W _ _ _ _ _ _; first | apply W.seq | apply W.region | apply W.ret))
    exact Z.body1 Try.results142 rfl fun m => ⟨(Ext.refl _).at m, none, 0, rfl, Own.nil⟩
  · refine Spec.of _ Try.func142 rfl Try.ntmps142 (by kernel_rfl) rfl ?_
    repeat' (first
      | (apply WL.eqSl tOk; exact rfl; exact rfl; exact rfl; exact rfl; exact rfl; exact rfl)
      | (apply W.condKF; exact rfl; (focus (exact dec_false ha; done)))
      | (apply WL.lit (len := 0) tOk; exact rfl; exact rfl; exact rfl; exact rfl; exact rfl; exact rfl; (first | exact rfl | kernel_rfl | (simp [Instr.fill, catCells]; done)); exact rfl; intro gb w' hb hge hc hx; have hO0 := Own.of_block0 (enc := encY) (s := 3) hb hge)
      | (apply WL.appendS tOk encY_ok; exact rfl; exact rfl; exact rfl; exact rfl; exact rfl; exact rfl; exact rfl; exact rfl; exact rfl; exact rfl; assumption; (exact extA); (first | exact rfl | (focus (simp only [List.length_set]; done)) | (focus (simp; done)) | (focus (simp [*]; done)) | omega | (focus (simp only [List.length_set]; omega))); assumption; (exact extA); (first | exact rfl | (focus (simp only [List.length_set]; done)) | (focus (simp; done)) | (focus (simp [*]; done)) | omega | (focus (simp only [List.length_set]; omega))); (first | assumption | (intro h; cases h) | exact Own.noneCap (by assumption)); exact rfl; (exact extA); (first | omega | (simp; omega) | (simp at *; omega)); intro a' cap' w' hO hX' hU hF)
      | (show WL _ _ _ _ _ _ _; first | apply WL.nil | (refine WL.au (k := ?_)))
      | (show Z _ _ _ _ _; apply Z.then_normal)
      | (show W _ _ _ _ _ _; first | apply W.seq | apply W.region | apply W.skip | apply W.ret))
    exact Z.body1 Try.results142 rfl fun m => ⟨Ext.at (by (exact extA)) m, a', cap', by rw [List.nil_append], by rw [List.nil_append] at hO; exact hO⟩
end Go.Proofs.Ythpnahapiodflaa
namespace Go.Lt
open Go.RowKit
set_option linter.unusedVariables false
set_option linter.unusedSimpArgs false
section
variable {P : Program} {T : Tab} {e : Env} {dd : Option Tmp} {tt ty t : TypeId} {x y : Operand} {ps : String} {af : Array Edge} {g : Option (Nat × Bool)} {i : TI} {u v : ByteArray}
theorem loop_eq (u : ByteArray) : ∀ (n i : Nat) (r : List UInt8), u.size - i = n → ByteArray.toList.loop u i r = r.reverse ++ u.data.toList.drop i := by
  intro n
  induction n with
  | zero =>
    intro i r h
    unfold ByteArray.toList.loop
    rw [if_neg (by omega), List.drop_eq_nil_of_le (by show u.data.size ≤ i; have : u.size = u.data.size := rfl; omega), List.append_nil]
  | succ n ih =>
    intro i r h
    unfold ByteArray.toList.loop
    have hi : i < u.data.toList.length := by show i < u.data.size; have : u.size = u.data.size := rfl; omega
    rw [if_pos (by omega), ih (i + 1) _ (by omega), List.reverse_cons, List.append_assoc, List.drop_eq_getElem_cons hi]
    congr 1
    rw [List.singleton_append]
    congr 1
    show u.data[i]! = u.data.toList[i]
    have hi2 : i < u.data.size := hi
    rw [getElem!_pos u.data i hi2]; rfl
theorem bytesL (u : ByteArray) : u.toList = u.data.toList := by
  unfold ByteArray.toList
  rw [loop_eq u u.size 0 [] rfl]; rfl
theorem bytesL_inj {u v : ByteArray} (h : u.toList = v.toList) : u = v := by
  rw [bytesL, bytesL] at h
  exact ByteArray.ext (Array.ext' h)
theorem yneStr (hT : OkTab P T) (hx : ev e x = some (.string u)) (hy : ev e y = some (.string v)) (ht : tget T t = some i) (hd : i.desc = .string) : Yields P e ⟨dd, .binOp .neq t x y ty, tt, ps, af, g⟩ (.bool (dec (u ≠ v))) := by
  intro ρ hρ w
  have h1 : (eqGuard .neq t x y (.string u) (.string v)).run P w = .ok () w := by simp [eqGuard]
  have h3 : (!dec (u = v)) = dec (u ≠ v) := by
    by_cases hh : u = v
    · rw [dec_true hh, dec_false (fun h => h hh)]; rfl
    · rw [dec_false hh, dec_true hh]; rfl
  have h2 : (binOp .neq t (.string u) (.string v)).run P w = .ok (.bool (dec (u ≠ v))) w := by
    by_cases h : u = v
    · subst h; rw [dec_false (fun h => h rfl)]; simp [binOp, Op.stringOp]
    · rw [dec_true h]; have hh : ¬ u.toList = v.toList := fun q => h (bytesL_inj q); simp [binOp, Op.stringOp, hh]
  simp [execOp, hρ _ _ hx, hρ _ _ hy, h1, h2]
variable {N d : Nat} {w : World} {Q : Exit → Act → World → Prop} {C : World → Prop} {ops l : List Oper}
theorem WL.neStr (hT : OkTab P T) (hg : gate ops e g = some true) (hd : Nat.blt d N = true) (hx : ev e x = some (.string u)) (hy : ev e y = some (.string v)) (ht : tget T t = some i) (htd : i.desc = .string) (k : WL P N ops.toArray l ((d, .bool (dec (u ≠ v))) :: e) w Q) : WL P N ops.toArray (⟨some d, .binOp .neq t x y ty, tt, ps, af, g⟩ :: l) e w Q := WL.step hg hd (yneStr hT hx hy ht htd).in k
theorem QL.neStr (hT : OkTab P T) (hg : gate ops e g = some true) (hd : Nat.blt d N = true) (hx : ev e x = some (.string u)) (hy : ev e y = some (.string v)) (ht : tget T t = some i) (htd : i.desc = .string) (k : QL P N C ops.toArray l ((d, .bool (dec (u ≠ v))) :: e) Q) : QL P N C ops.toArray (⟨some d, .binOp .neq t x y ty, tt, ps, af, g⟩ :: l) e Q := QL.step hg hd (yneStr hT hx hy ht htd).in k
end
end Go.Lt
namespace Go.Proofs.Ythpnahapiodflaa
open Go Go.Lt Go.RowKit
set_option linter.unusedVariables false
set_option linter.unusedSimpArgs false
set_option maxRecDepth 20000

set_option maxHeartbeats 32000000 in
theorem ref11_Same (a b : Circ) (w : World) (hCa : CAt w a) (hCb : CAt w b) : Pure Try.prog 32 [a.val, b.val] w (.bool (dec (a.t = b.t))) := by
  by_cases e0 : a.max = b.max
  rotate_left
  · skip
    refine Spec.of _ Try.func32 rfl Try.ntmps32 (by kernel_rfl) rfl ?_
    repeat' (first
      | (apply WL.box; exact rfl; exact rfl; exact rfl; intro gb w' hb hge hc hx; have hcc := hc; (first | (obtain ⟨h1, h2, h3, _⟩ := hc) | (obtain ⟨h1, h2, _⟩ := hc)); (first | (have h_0 := xA0; clear h_0; have hB := hcc; obtain ⟨xB0, xB1, xB2, xB3, xB4, xB5, xB6, xB7, xB8, _⟩ := hcc; (obtain ⟨gB, rfl⟩ : ∃ x, x = gb := ⟨_, rfl⟩; obtain ⟨wB, rfl⟩ : ∃ x, x = w' := ⟨_, rfl⟩; obtain ⟨hxB, rfl⟩ : ∃ x, x = hx := ⟨_, rfl⟩)) | (have hA := hcc; obtain ⟨xA0, xA1, xA2, xA3, xA4, xA5, xA6, xA7, xA8, _⟩ := hcc; (obtain ⟨gA, rfl⟩ : ∃ x, x = gb := ⟨_, rfl⟩; obtain ⟨wA, rfl⟩ : ∃ x, x = w' := ⟨_, rfl⟩; obtain ⟨hxA, rfl⟩ : ∃ x, x = hx := ⟨_, rfl⟩))))
      | (apply WL.gT; exact rfl; exact rfl; (focus (first | exact dec_true e0; done)))
      | (show WL _ _ _ _ _ _ _; first | apply WL.nil | (refine WL.au (k := ?_)) | (apply WL.guardF; exact rfl; exact rfl))
      | (show Z _ _ _ _ _; first | apply Z.then_normal | apply Z.then_ret)
      | (show W _ _ _ _ _ _; first | apply W.seq | apply W.region | apply W.ret | (apply W.condT; exact rfl)))
    exact Z.body1 Try.results32 rfl fun m => ⟨congrArg Value.bool (dec_false (show ¬ a.t = b.t from fun h => e0 (congrArg CirT.max h))).symm, Ext.at (by (exact extA)) m⟩
  by_cases e1 : a.com = b.com
  rotate_left
  · skip
    refine Spec.of _ Try.func32 rfl Try.ntmps32 (by kernel_rfl) rfl ?_
    repeat' (first
      | (apply WL.box; exact rfl; exact rfl; exact rfl; intro gb w' hb hge hc hx; have hcc := hc; (first | (obtain ⟨h1, h2, h3, _⟩ := hc) | (obtain ⟨h1, h2, _⟩ := hc)); (first | (have h_0 := xA0; clear h_0; have hB := hcc; obtain ⟨xB0, xB1, xB2, xB3, xB4, xB5, xB6, xB7, xB8, _⟩ := hcc; (obtain ⟨gB, rfl⟩ : ∃ x, x = gb := ⟨_, rfl⟩; obtain ⟨wB, rfl⟩ : ∃ x, x = w' := ⟨_, rfl⟩; obtain ⟨hxB, rfl⟩ : ∃ x, x = hx := ⟨_, rfl⟩)) | (have hA := hcc; obtain ⟨xA0, xA1, xA2, xA3, xA4, xA5, xA6, xA7, xA8, _⟩ := hcc; (obtain ⟨gA, rfl⟩ : ∃ x, x = gb := ⟨_, rfl⟩; obtain ⟨wA, rfl⟩ : ∃ x, x = w' := ⟨_, rfl⟩; obtain ⟨hxA, rfl⟩ : ∃ x, x = hx := ⟨_, rfl⟩))))
      | (apply WL.neStr tOk; exact rfl; exact rfl; exact rfl; exact rfl; exact rfl; exact rfl)
      | (apply WL.gT; exact rfl; exact rfl; (focus (first | exact dec_false (fun h => h e0) | exact dec_true e1; done)))
      | (apply WL.gF; exact rfl; exact rfl; (focus (first | exact dec_false (fun h => h e0) | exact dec_true e1; done)))
      | (show WL _ _ _ _ _ _ _; first | apply WL.nil | (refine WL.au (k := ?_)) | (apply WL.guardF; exact rfl; exact rfl))
      | (show Z _ _ _ _ _; first | apply Z.then_normal | apply Z.then_ret)
      | (show W _ _ _ _ _ _; first | apply W.seq | apply W.region | apply W.ret | (apply W.condT; exact rfl)))
    exact Z.body1 Try.results32 rfl fun m => ⟨congrArg Value.bool (dec_false (show ¬ a.t = b.t from fun h => e1 (congrArg CirT.com h))).symm, Ext.at (by (exact extA)) m⟩
  by_cases e2 : a.ins.2.2 = b.ins.2.2
  rotate_left
  · skip
    refine Spec.of _ Try.func32 rfl Try.ntmps32 (by kernel_rfl) rfl ?_
    repeat' (first
      | (apply WL.box; exact rfl; exact rfl; exact rfl; intro gb w' hb hge hc hx; have hcc := hc; (first | (obtain ⟨h1, h2, h3, _⟩ := hc) | (obtain ⟨h1, h2, _⟩ := hc)); (first | (have h_0 := xA0; clear h_0; have hB := hcc; obtain ⟨xB0, xB1, xB2, xB3, xB4, xB5, xB6, xB7, xB8, _⟩ := hcc; (obtain ⟨gB, rfl⟩ : ∃ x, x = gb := ⟨_, rfl⟩; obtain ⟨wB, rfl⟩ : ∃ x, x = w' := ⟨_, rfl⟩; obtain ⟨hxB, rfl⟩ : ∃ x, x = hx := ⟨_, rfl⟩)) | (have hA := hcc; obtain ⟨xA0, xA1, xA2, xA3, xA4, xA5, xA6, xA7, xA8, _⟩ := hcc; (obtain ⟨gA, rfl⟩ : ∃ x, x = gb := ⟨_, rfl⟩; obtain ⟨wA, rfl⟩ : ∃ x, x = w' := ⟨_, rfl⟩; obtain ⟨hxA, rfl⟩ : ∃ x, x = hx := ⟨_, rfl⟩))))
      | (apply WL.neStr tOk; exact rfl; exact rfl; exact rfl; exact rfl; exact rfl; exact rfl)
      | (apply WL.gT; exact rfl; exact rfl; (focus (first | exact dec_false (fun h => h e0) | exact dec_false (fun h => h e1) | (rw [dec_false e2]; rfl); done)))
      | (apply WL.gF; exact rfl; exact rfl; (focus (first | exact dec_false (fun h => h e0) | exact dec_false (fun h => h e1) | (rw [dec_false e2]; rfl); done)))
      | ((show WL _ _ _ (⟨_, .call ⟨.value (.func 33), _, _⟩, _, _, _, _⟩ :: _) _ _ _); apply WL.callS; exact rfl; exact rfl; exact rfl; exact rfl; exact ref_Ints _ _ _ _ _ _ _ (hCa.ins.row.ext (by (exact extA))) (hCb.ins.row.ext (by (exact extA))))
      | (show WL _ _ _ _ _ _ _; first | apply WL.nil | (refine WL.au (k := ?_)) | (apply WL.guardF; exact rfl; exact rfl))
      | (show Z _ _ _ _ _; first | apply Z.then_normal | apply Z.then_ret)
      | (show W _ _ _ _ _ _; first | apply W.seq | apply W.region | apply W.ret | (apply W.condT; exact rfl)))
    exact Z.body1 Try.results32 rfl fun m => ⟨congrArg Value.bool (dec_false (show ¬ a.t = b.t from fun h => e2 (congrArg CirT.ins h))).symm, Ext.at (by (exact extA)) m⟩
  by_cases e3 : a.outs.2.2 = b.outs.2.2
  rotate_left
  · skip
    refine Spec.of _ Try.func32 rfl Try.ntmps32 (by kernel_rfl) rfl ?_
    repeat' (first
      | (apply WL.box; exact rfl; exact rfl; exact rfl; intro gb w' hb hge hc hx; have hcc := hc; (first | (obtain ⟨h1, h2, h3, _⟩ := hc) | (obtain ⟨h1, h2, _⟩ := hc)); (first | (have h_0 := xA0; clear h_0; have hB := hcc; obtain ⟨xB0, xB1, xB2, xB3, xB4, xB5, xB6, xB7, xB8, _⟩ := hcc; (obtain ⟨gB, rfl⟩ : ∃ x, x = gb := ⟨_, rfl⟩; obtain ⟨wB, rfl⟩ : ∃ x, x = w' := ⟨_, rfl⟩; obtain ⟨hxB, rfl⟩ : ∃ x, x = hx := ⟨_, rfl⟩)) | (have hA := hcc; obtain ⟨xA0, xA1, xA2, xA3, xA4, xA5, xA6, xA7, xA8, _⟩ := hcc; (obtain ⟨gA, rfl⟩ : ∃ x, x = gb := ⟨_, rfl⟩; obtain ⟨wA, rfl⟩ : ∃ x, x = w' := ⟨_, rfl⟩; obtain ⟨hxA, rfl⟩ : ∃ x, x = hx := ⟨_, rfl⟩))))
      | (apply WL.neStr tOk; exact rfl; exact rfl; exact rfl; exact rfl; exact rfl; exact rfl)
      | (apply WL.gT; exact rfl; exact rfl; (focus (first | exact dec_false (fun h => h e0) | exact dec_false (fun h => h e1) | (rw [dec_true e2]; rfl) | (rw [dec_false e3]; rfl); done)))
      | (apply WL.gF; exact rfl; exact rfl; (focus (first | exact dec_false (fun h => h e0) | exact dec_false (fun h => h e1) | (rw [dec_true e2]; rfl) | (rw [dec_false e3]; rfl); done)))
      | ((show WL _ _ _ (⟨_, .call ⟨.value (.func 33), _, _⟩, _, _, _, _⟩ :: _) _ _ _); apply WL.callS; exact rfl; exact rfl; exact rfl; exact rfl; exact ref_Ints _ _ _ _ _ _ _ (hCa.ins.row.ext (by (exact extA))) (hCb.ins.row.ext (by (exact extA))))
      | ((show WL _ _ _ (⟨_, .call ⟨.value (.func 33), _, _⟩, _, _, _, _⟩ :: _) _ _ _); apply WL.callS; exact rfl; exact rfl; exact rfl; exact rfl; exact ref_Ints _ _ _ _ _ _ _ (hCa.outs.row.ext (by (exact extA))) (hCb.outs.row.ext (by (exact extA))))
      | (show WL _ _ _ _ _ _ _; first | apply WL.nil | (refine WL.au (k := ?_)) | (apply WL.guardF; exact rfl; exact rfl))
      | (show Z _ _ _ _ _; first | apply Z.then_normal | apply Z.then_ret)
      | (show W _ _ _ _ _ _; first | apply W.seq | apply W.region | apply W.ret | (apply W.condT; exact rfl)))
    exact Z.body1 Try.results32 rfl fun m => ⟨congrArg Value.bool (dec_false (show ¬ a.t = b.t from fun h => e3 (congrArg CirT.outs h))).symm, Ext.at (by (exact extA)) m⟩
  by_cases e4 : a.bads.2.2 = b.bads.2.2
  rotate_left
  · skip
    refine Spec.of _ Try.func32 rfl Try.ntmps32 (by kernel_rfl) rfl ?_
    repeat' (first
      | (apply WL.box; exact rfl; exact rfl; exact rfl; intro gb w' hb hge hc hx; have hcc := hc; (first | (obtain ⟨h1, h2, h3, _⟩ := hc) | (obtain ⟨h1, h2, _⟩ := hc)); (first | (have h_0 := xA0; clear h_0; have hB := hcc; obtain ⟨xB0, xB1, xB2, xB3, xB4, xB5, xB6, xB7, xB8, _⟩ := hcc; (obtain ⟨gB, rfl⟩ : ∃ x, x = gb := ⟨_, rfl⟩; obtain ⟨wB, rfl⟩ : ∃ x, x = w' := ⟨_, rfl⟩; obtain ⟨hxB, rfl⟩ : ∃ x, x = hx := ⟨_, rfl⟩)) | (have hA := hcc; obtain ⟨xA0, xA1, xA2, xA3, xA4, xA5, xA6, xA7, xA8, _⟩ := hcc; (obtain ⟨gA, rfl⟩ : ∃ x, x = gb := ⟨_, rfl⟩; obtain ⟨wA, rfl⟩ : ∃ x, x = w' := ⟨_, rfl⟩; obtain ⟨hxA, rfl⟩ : ∃ x, x = hx := ⟨_, rfl⟩))))
      | (apply WL.neStr tOk; exact rfl; exact rfl; exact rfl; exact rfl; exact rfl; exact rfl)
      | (apply WL.gT; exact rfl; exact rfl; (focus (first | exact dec_false (fun h => h e0) | exact dec_false (fun h => h e1) | (rw [dec_true e2]; rfl) | (rw [dec_true e3]; rfl) | (rw [dec_false e4]; rfl); done)))
      | (apply WL.gF; exact rfl; exact rfl; (focus (first | exact dec_false (fun h => h e0) | exact dec_false (fun h => h e1) | (rw [dec_true e2]; rfl) | (rw [dec_true e3]; rfl) | (rw [dec_false e4]; rfl); done)))
      | ((show WL _ _ _ (⟨_, .call ⟨.value (.func 33), _, _⟩, _, _, _, _⟩ :: _) _ _ _); apply WL.callS; exact rfl; exact rfl; exact rfl; exact rfl; exact ref_Ints _ _ _ _ _ _ _ (hCa.ins.row.ext (by (exact extA))) (hCb.ins.row.ext (by (exact extA))))
      | ((show WL _ _ _ (⟨_, .call ⟨.value (.func 33), _, _⟩, _, _, _, _⟩ :: _) _ _ _); apply WL.callS; exact rfl; exact rfl; exact rfl; exact rfl; exact ref_Ints _ _ _ _ _ _ _ (hCa.outs.row.ext (by (exact extA))) (hCb.outs.row.ext (by (exact extA))))
      | ((show WL _ _ _ (⟨_, .call ⟨.value (.func 33), _, _⟩, _, _, _, _⟩ :: _) _ _ _); apply WL.callS; exact rfl; exact rfl; exact rfl; exact rfl; exact ref_Ints _ _ _ _ _ _ _ (hCa.bads.row.ext (by (exact extA))) (hCb.bads.row.ext (by (exact extA))))
      | (show WL _ _ _ _ _ _ _; first | apply WL.nil | (refine WL.au (k := ?_)) | (apply WL.guardF; exact rfl; exact rfl))
      | (show Z _ _ _ _ _; first | apply Z.then_normal | apply Z.then_ret)
      | (show W _ _ _ _ _ _; first | apply W.seq | apply W.region | apply W.ret | (apply W.condT; exact rfl)))
    exact Z.body1 Try.results32 rfl fun m => ⟨congrArg Value.bool (dec_false (show ¬ a.t = b.t from fun h => e4 (congrArg CirT.bads h))).symm, Ext.at (by (exact extA)) m⟩
  by_cases e5 : a.cons.2.2 = b.cons.2.2
  rotate_left
  · skip
    refine Spec.of _ Try.func32 rfl Try.ntmps32 (by kernel_rfl) rfl ?_
    repeat' (first
      | (apply WL.box; exact rfl; exact rfl; exact rfl; intro gb w' hb hge hc hx; have hcc := hc; (first | (obtain ⟨h1, h2, h3, _⟩ := hc) | (obtain ⟨h1, h2, _⟩ := hc)); (first | (have h_0 := xA0; clear h_0; have hB := hcc; obtain ⟨xB0, xB1, xB2, xB3, xB4, xB5, xB6, xB7, xB8, _⟩ := hcc; (obtain ⟨gB, rfl⟩ : ∃ x, x = gb := ⟨_, rfl⟩; obtain ⟨wB, rfl⟩ : ∃ x, x = w' := ⟨_, rfl⟩; obtain ⟨hxB, rfl⟩ : ∃ x, x = hx := ⟨_, rfl⟩)) | (have hA := hcc; obtain ⟨xA0, xA1, xA2, xA3, xA4, xA5, xA6, xA7, xA8, _⟩ := hcc; (obtain ⟨gA, rfl⟩ : ∃ x, x = gb := ⟨_, rfl⟩; obtain ⟨wA, rfl⟩ : ∃ x, x = w' := ⟨_, rfl⟩; obtain ⟨hxA, rfl⟩ : ∃ x, x = hx := ⟨_, rfl⟩))))
      | (apply WL.neStr tOk; exact rfl; exact rfl; exact rfl; exact rfl; exact rfl; exact rfl)
      | (apply WL.gF; exact rfl; exact rfl; (focus (first | exact dec_false (fun h => h e0) | exact dec_false (fun h => h e1) | (rw [dec_true e2]; rfl) | (rw [dec_true e3]; rfl) | (rw [dec_true e4]; rfl) | (rw [dec_false e5]; rfl); done)))
      | (apply W.condKT; exact rfl; (focus (first | exact dec_false (fun h => h e0) | exact dec_false (fun h => h e1) | (rw [dec_true e2]; rfl) | (rw [dec_true e3]; rfl) | (rw [dec_true e4]; rfl) | (rw [dec_false e5]; rfl); done)))
      | ((show WL _ _ _ (⟨_, .call ⟨.value (.func 33), _, _⟩, _, _, _, _⟩ :: _) _ _ _); apply WL.callS; exact rfl; exact rfl; exact rfl; exact rfl; exact ref_Ints _ _ _ _ _ _ _ (hCa.ins.row.ext (by (exact extA))) (hCb.ins.row.ext (by (exact extA))))
      | ((show WL _ _ _ (⟨_, .call ⟨.value (.func 33), _, _⟩, _, _, _, _⟩ :: _) _ _ _); apply WL.callS; exact rfl; exact rfl; exact rfl; exact rfl; exact ref_Ints _ _ _ _ _ _ _ (hCa.outs.row.ext (by (exact extA))) (hCb.outs.row.ext (by (exact extA))))
      | ((show WL _ _ _ (⟨_, .call ⟨.value (.func 33), _, _⟩, _, _, _, _⟩ :: _) _ _ _); apply WL.callS; exact rfl; exact rfl; exact rfl; exact rfl; exact ref_Ints _ _ _ _ _ _ _ (hCa.bads.row.ext (by (exact extA))) (hCb.bads.row.ext (by (exact extA))))
      | ((show WL _ _ _ (⟨_, .call ⟨.value (.func 33), _, _⟩, _, _, _, _⟩ :: _) _ _ _); apply WL.callS; exact rfl; exact rfl; exact rfl; exact rfl; exact ref_Ints _ _ _ _ _ _ _ (hCa.cons.row.ext (by (exact extA))) (hCb.cons.row.ext (by (exact extA))))
      | (show WL _ _ _ _ _ _ _; first | apply WL.nil | (refine WL.au (k := ?_)))
      | (show Z _ _ _ _ _; first | apply Z.then_normal | apply Z.then_ret)
      | (show W _ _ _ _ _ _; first | apply W.seq | apply W.region | apply W.ret))
    exact Z.body1 Try.results32 rfl fun m => ⟨congrArg Value.bool (dec_false (show ¬ a.t = b.t from fun h => e5 (congrArg CirT.cons h))).symm, Ext.at (by (exact extA)) m⟩
  by_cases l0 : a.lat.2.2.length = b.lat.2.2.length
  rotate_left
  · skip
    refine Spec.of _ Try.func32 rfl Try.ntmps32 (by kernel_rfl) rfl ?_
    repeat' (first
      | (apply WL.box; exact rfl; exact rfl; exact rfl; intro gb w' hb hge hc hx; have hcc := hc; (first | (obtain ⟨h1, h2, h3, _⟩ := hc) | (obtain ⟨h1, h2, _⟩ := hc)); (first | (have h_0 := xA0; clear h_0; have hB := hcc; obtain ⟨xB0, xB1, xB2, xB3, xB4, xB5, xB6, xB7, xB8, _⟩ := hcc; (obtain ⟨gB, rfl⟩ : ∃ x, x = gb := ⟨_, rfl⟩; obtain ⟨wB, rfl⟩ : ∃ x, x = w' := ⟨_, rfl⟩; obtain ⟨hxB, rfl⟩ : ∃ x, x = hx := ⟨_, rfl⟩)) | (have hA := hcc; obtain ⟨xA0, xA1, xA2, xA3, xA4, xA5, xA6, xA7, xA8, _⟩ := hcc; (obtain ⟨gA, rfl⟩ : ∃ x, x = gb := ⟨_, rfl⟩; obtain ⟨wA, rfl⟩ : ∃ x, x = w' := ⟨_, rfl⟩; obtain ⟨hxA, rfl⟩ : ∃ x, x = hx := ⟨_, rfl⟩))))
      | (apply WL.neStr tOk; exact rfl; exact rfl; exact rfl; exact rfl; exact rfl; exact rfl)
      | (apply WL.gT; exact rfl; exact rfl; (focus (first | exact dec_false (fun h => h e0) | exact dec_false (fun h => h e1) | (rw [dec_true e2]; rfl) | (rw [dec_true e3]; rfl) | (rw [dec_true e4]; rfl) | (rw [dec_true e5]; rfl) | exact dec_true (show ((a.lat.2.2.length : Nat) : Int) ≠ (b.lat.2.2.length : Nat) by omega); done)))
      | (apply WL.gF; exact rfl; exact rfl; (focus (first | exact dec_false (fun h => h e0) | exact dec_false (fun h => h e1) | (rw [dec_true e2]; rfl) | (rw [dec_true e3]; rfl) | (rw [dec_true e4]; rfl) | (rw [dec_true e5]; rfl) | exact dec_true (show ((a.lat.2.2.length : Nat) : Int) ≠ (b.lat.2.2.length : Nat) by omega); done)))
      | (apply W.condKF; exact rfl; (focus (first | exact dec_false (fun h => h e0) | exact dec_false (fun h => h e1) | (rw [dec_true e2]; rfl) | (rw [dec_true e3]; rfl) | (rw [dec_true e4]; rfl) | (rw [dec_true e5]; rfl) | exact dec_true (show ((a.lat.2.2.length : Nat) : Int) ≠ (b.lat.2.2.length : Nat) by omega); done)))
      | ((show WL _ _ _ (⟨_, .call ⟨.value (.func 33), _, _⟩, _, _, _, _⟩ :: _) _ _ _); apply WL.callS; exact rfl; exact rfl; exact rfl; exact rfl; exact ref_Ints _ _ _ _ _ _ _ (hCa.ins.row.ext (by (exact extA))) (hCb.ins.row.ext (by (exact extA))))
      | ((show WL _ _ _ (⟨_, .call ⟨.value (.func 33), _, _⟩, _, _, _, _⟩ :: _) _ _ _); apply WL.callS; exact rfl; exact rfl; exact rfl; exact rfl; exact ref_Ints _ _ _ _ _ _ _ (hCa.outs.row.ext (by (exact extA))) (hCb.outs.row.ext (by (exact extA))))
      | ((show WL _ _ _ (⟨_, .call ⟨.value (.func 33), _, _⟩, _, _, _, _⟩ :: _) _ _ _); apply WL.callS; exact rfl; exact rfl; exact rfl; exact rfl; exact ref_Ints _ _ _ _ _ _ _ (hCa.bads.row.ext (by (exact extA))) (hCb.bads.row.ext (by (exact extA))))
      | ((show WL _ _ _ (⟨_, .call ⟨.value (.func 33), _, _⟩, _, _, _, _⟩ :: _) _ _ _); apply WL.callS; exact rfl; exact rfl; exact rfl; exact rfl; exact ref_Ints _ _ _ _ _ _ _ (hCa.cons.row.ext (by (exact extA))) (hCb.cons.row.ext (by (exact extA))))
      | (show WL _ _ _ _ _ _ _; first | apply WL.nil | (refine WL.au (k := ?_)) | (apply WL.guardF; exact rfl; exact rfl))
      | (show Z _ _ _ _ _; first | apply Z.then_normal | apply Z.then_ret)
      | (show W _ _ _ _ _ _; first | apply W.seq | apply W.region | apply W.skip | apply W.ret | (apply W.condT; exact rfl)))
    exact Z.body1 Try.results32 rfl fun m => ⟨congrArg Value.bool (dec_false (show ¬ a.t = b.t from fun h => l0 (congrArg (fun c : CirT => c.lat.length) h))).symm, Ext.at (by (exact extA)) m⟩
  by_cases l1 : a.gates.2.2.length = b.gates.2.2.length
  rotate_left
  · skip
    refine Spec.of _ Try.func32 rfl Try.ntmps32 (by kernel_rfl) rfl ?_
    repeat' (first
      | (apply WL.box; exact rfl; exact rfl; exact rfl; intro gb w' hb hge hc hx; have hcc := hc; (first | (obtain ⟨h1, h2, h3, _⟩ := hc) | (obtain ⟨h1, h2, _⟩ := hc)); (first | (have h_0 := xA0; clear h_0; have hB := hcc; obtain ⟨xB0, xB1, xB2, xB3, xB4, xB5, xB6, xB7, xB8, _⟩ := hcc; (obtain ⟨gB, rfl⟩ : ∃ x, x = gb := ⟨_, rfl⟩; obtain ⟨wB, rfl⟩ : ∃ x, x = w' := ⟨_, rfl⟩; obtain ⟨hxB, rfl⟩ : ∃ x, x = hx := ⟨_, rfl⟩)) | (have hA := hcc; obtain ⟨xA0, xA1, xA2, xA3, xA4, xA5, xA6, xA7, xA8, _⟩ := hcc; (obtain ⟨gA, rfl⟩ : ∃ x, x = gb := ⟨_, rfl⟩; obtain ⟨wA, rfl⟩ : ∃ x, x = w' := ⟨_, rfl⟩; obtain ⟨hxA, rfl⟩ : ∃ x, x = hx := ⟨_, rfl⟩))))
      | (apply WL.neStr tOk; exact rfl; exact rfl; exact rfl; exact rfl; exact rfl; exact rfl)
      | (apply WL.gT; exact rfl; exact rfl; (focus (first | exact dec_false (fun h => h e0) | exact dec_false (fun h => h e1) | (rw [dec_true e2]; rfl) | (rw [dec_true e3]; rfl) | (rw [dec_true e4]; rfl) | (rw [dec_true e5]; rfl) | exact dec_false (show ¬ ((a.lat.2.2.length : Nat) : Int) ≠ (b.lat.2.2.length : Nat) by omega) | exact dec_true (show ((a.gates.2.2.length : Nat) : Int) ≠ (b.gates.2.2.length : Nat) by omega); done)))
      | (apply WL.gF; exact rfl; exact rfl; (focus (first | exact dec_false (fun h => h e0) | exact dec_false (fun h => h e1) | (rw [dec_true e2]; rfl) | (rw [dec_true e3]; rfl) | (rw [dec_true e4]; rfl) | (rw [dec_true e5]; rfl) | exact dec_false (show ¬ ((a.lat.2.2.length : Nat) : Int) ≠ (b.lat.2.2.length : Nat) by omega) | exact dec_true (show ((a.gates.2.2.length : Nat) : Int) ≠ (b.gates.2.2.length : Nat) by omega); done)))
      | (apply W.condKF; exact rfl; (focus (first | exact dec_false (fun h => h e0) | exact dec_false (fun h => h e1) | (rw [dec_true e2]; rfl) | (rw [dec_true e3]; rfl) | (rw [dec_true e4]; rfl) | (rw [dec_true e5]; rfl) | exact dec_false (show ¬ ((a.lat.2.2.length : Nat) : Int) ≠ (b.lat.2.2.length : Nat) by omega) | exact dec_true (show ((a.gates.2.2.length : Nat) : Int) ≠ (b.gates.2.2.length : Nat) by omega); done)))
      | ((show WL _ _ _ (⟨_, .call ⟨.value (.func 33), _, _⟩, _, _, _, _⟩ :: _) _ _ _); apply WL.callS; exact rfl; exact rfl; exact rfl; exact rfl; exact ref_Ints _ _ _ _ _ _ _ (hCa.ins.row.ext (by (exact extA))) (hCb.ins.row.ext (by (exact extA))))
      | ((show WL _ _ _ (⟨_, .call ⟨.value (.func 33), _, _⟩, _, _, _, _⟩ :: _) _ _ _); apply WL.callS; exact rfl; exact rfl; exact rfl; exact rfl; exact ref_Ints _ _ _ _ _ _ _ (hCa.outs.row.ext (by (exact extA))) (hCb.outs.row.ext (by (exact extA))))
      | ((show WL _ _ _ (⟨_, .call ⟨.value (.func 33), _, _⟩, _, _, _, _⟩ :: _) _ _ _); apply WL.callS; exact rfl; exact rfl; exact rfl; exact rfl; exact ref_Ints _ _ _ _ _ _ _ (hCa.bads.row.ext (by (exact extA))) (hCb.bads.row.ext (by (exact extA))))
      | ((show WL _ _ _ (⟨_, .call ⟨.value (.func 33), _, _⟩, _, _, _, _⟩ :: _) _ _ _); apply WL.callS; exact rfl; exact rfl; exact rfl; exact rfl; exact ref_Ints _ _ _ _ _ _ _ (hCa.cons.row.ext (by (exact extA))) (hCb.cons.row.ext (by (exact extA))))
      | (show WL _ _ _ _ _ _ _; first | apply WL.nil | (refine WL.au (k := ?_)) | (apply WL.guardF; exact rfl; exact rfl))
      | (show Z _ _ _ _ _; first | apply Z.then_normal | apply Z.then_ret)
      | (show W _ _ _ _ _ _; first | apply W.seq | apply W.region | apply W.skip | apply W.ret | (apply W.condT; exact rfl)))
    exact Z.body1 Try.results32 rfl fun m => ⟨congrArg Value.bool (dec_false (show ¬ a.t = b.t from fun h => l1 (congrArg (fun c : CirT => c.gates.length) h))).symm, Ext.at (by (exact extA)) m⟩
  by_cases l2 : a.syms.2.2.length = b.syms.2.2.length
  rotate_left
  · skip
    refine Spec.of _ Try.func32 rfl Try.ntmps32 (by kernel_rfl) rfl ?_
    repeat' (first
      | (apply WL.box; exact rfl; exact rfl; exact rfl; intro gb w' hb hge hc hx; have hcc := hc; (first | (obtain ⟨h1, h2, h3, _⟩ := hc) | (obtain ⟨h1, h2, _⟩ := hc)); (first | (have h_0 := xA0; clear h_0; have hB := hcc; obtain ⟨xB0, xB1, xB2, xB3, xB4, xB5, xB6, xB7, xB8, _⟩ := hcc; (obtain ⟨gB, rfl⟩ : ∃ x, x = gb := ⟨_, rfl⟩; obtain ⟨wB, rfl⟩ : ∃ x, x = w' := ⟨_, rfl⟩; obtain ⟨hxB, rfl⟩ : ∃ x, x = hx := ⟨_, rfl⟩)) | (have hA := hcc; obtain ⟨xA0, xA1, xA2, xA3, xA4, xA5, xA6, xA7, xA8, _⟩ := hcc; (obtain ⟨gA, rfl⟩ : ∃ x, x = gb := ⟨_, rfl⟩; obtain ⟨wA, rfl⟩ : ∃ x, x = w' := ⟨_, rfl⟩; obtain ⟨hxA, rfl⟩ : ∃ x, x = hx := ⟨_, rfl⟩))))
      | (apply WL.neStr tOk; exact rfl; exact rfl; exact rfl; exact rfl; exact rfl; exact rfl)
      | (apply WL.gF; exact rfl; exact rfl; (focus (first | exact dec_false (fun h => h e0) | exact dec_false (fun h => h e1) | (rw [dec_true e2]; rfl) | (rw [dec_true e3]; rfl) | (rw [dec_true e4]; rfl) | (rw [dec_true e5]; rfl) | exact dec_false (show ¬ ((a.lat.2.2.length : Nat) : Int) ≠ (b.lat.2.2.length : Nat) by omega) | exact dec_false (show ¬ ((a.gates.2.2.length : Nat) : Int) ≠ (b.gates.2.2.length : Nat) by omega) | exact dec_true (show ((a.syms.2.2.length : Nat) : Int) ≠ (b.syms.2.2.length : Nat) by omega); done)))
      | (apply W.condKT; exact rfl; (focus (first | exact dec_false (fun h => h e0) | exact dec_false (fun h => h e1) | (rw [dec_true e2]; rfl) | (rw [dec_true e3]; rfl) | (rw [dec_true e4]; rfl) | (rw [dec_true e5]; rfl) | exact dec_false (show ¬ ((a.lat.2.2.length : Nat) : Int) ≠ (b.lat.2.2.length : Nat) by omega) | exact dec_false (show ¬ ((a.gates.2.2.length : Nat) : Int) ≠ (b.gates.2.2.length : Nat) by omega) | exact dec_true (show ((a.syms.2.2.length : Nat) : Int) ≠ (b.syms.2.2.length : Nat) by omega); done)))
      | (apply W.condKF; exact rfl; (focus (first | exact dec_false (fun h => h e0) | exact dec_false (fun h => h e1) | (rw [dec_true e2]; rfl) | (rw [dec_true e3]; rfl) | (rw [dec_true e4]; rfl) | (rw [dec_true e5]; rfl) | exact dec_false (show ¬ ((a.lat.2.2.length : Nat) : Int) ≠ (b.lat.2.2.length : Nat) by omega) | exact dec_false (show ¬ ((a.gates.2.2.length : Nat) : Int) ≠ (b.gates.2.2.length : Nat) by omega) | exact dec_true (show ((a.syms.2.2.length : Nat) : Int) ≠ (b.syms.2.2.length : Nat) by omega); done)))
      | ((show WL _ _ _ (⟨_, .call ⟨.value (.func 33), _, _⟩, _, _, _, _⟩ :: _) _ _ _); apply WL.callS; exact rfl; exact rfl; exact rfl; exact rfl; exact ref_Ints _ _ _ _ _ _ _ (hCa.ins.row.ext (by (exact extA))) (hCb.ins.row.ext (by (exact extA))))
      | ((show WL _ _ _ (⟨_, .call ⟨.value (.func 33), _, _⟩, _, _, _, _⟩ :: _) _ _ _); apply WL.callS; exact rfl; exact rfl; exact rfl; exact rfl; exact ref_Ints _ _ _ _ _ _ _ (hCa.outs.row.ext (by (exact extA))) (hCb.outs.row.ext (by (exact extA))))
      | ((show WL _ _ _ (⟨_, .call ⟨.value (.func 33), _, _⟩, _, _, _, _⟩ :: _) _ _ _); apply WL.callS; exact rfl; exact rfl; exact rfl; exact rfl; exact ref_Ints _ _ _ _ _ _ _ (hCa.bads.row.ext (by (exact extA))) (hCb.bads.row.ext (by (exact extA))))
      | ((show WL _ _ _ (⟨_, .call ⟨.value (.func 33), _, _⟩, _, _, _, _⟩ :: _) _ _ _); apply WL.callS; exact rfl; exact rfl; exact rfl; exact rfl; exact ref_Ints _ _ _ _ _ _ _ (hCa.cons.row.ext (by (exact extA))) (hCb.cons.row.ext (by (exact extA))))
      | (show WL _ _ _ _ _ _ _; first | apply WL.nil | (refine WL.au (k := ?_)))
      | (show Z _ _ _ _ _; first | apply Z.then_normal | apply Z.then_ret)
      | (show W _ _ _ _ _ _; first | apply W.seq | apply W.region | apply W.skip | apply W.ret))
    exact Z.body1 Try.results32 rfl fun m => ⟨congrArg Value.bool (dec_false (show ¬ a.t = b.t from fun h => l2 (congrArg (fun c : CirT => c.syms.length) h))).symm, Ext.at (by (exact extA)) m⟩
  refine Spec.of _ Try.func32 rfl Try.ntmps32 (by kernel_rfl) rfl ?_
  repeat' (first
    | (apply WL.box; exact rfl; exact rfl; exact rfl; intro gb w' hb hge hc hx; have hcc := hc; (first | (obtain ⟨h1, h2, h3, _⟩ := hc) | (obtain ⟨h1, h2, _⟩ := hc)); (first | (have h_0 := xA0; clear h_0; have hB := hcc; obtain ⟨xB0, xB1, xB2, xB3, xB4, xB5, xB6, xB7, xB8, _⟩ := hcc; (obtain ⟨gB, rfl⟩ : ∃ x, x = gb := ⟨_, rfl⟩; obtain ⟨wB, rfl⟩ : ∃ x, x = w' := ⟨_, rfl⟩; obtain ⟨hxB, rfl⟩ : ∃ x, x = hx := ⟨_, rfl⟩)) | (have hA := hcc; obtain ⟨xA0, xA1, xA2, xA3, xA4, xA5, xA6, xA7, xA8, _⟩ := hcc; (obtain ⟨gA, rfl⟩ : ∃ x, x = gb := ⟨_, rfl⟩; obtain ⟨wA, rfl⟩ : ∃ x, x = w' := ⟨_, rfl⟩; obtain ⟨hxA, rfl⟩ : ∃ x, x = hx := ⟨_, rfl⟩))))
    | (apply WL.neStr tOk; exact rfl; exact rfl; exact rfl; exact rfl; exact rfl; exact rfl)
    | (apply WL.gF; exact rfl; exact rfl; (focus (first | exact dec_false (fun h => h e0) | exact dec_false (fun h => h e1) | (rw [dec_true e2]; rfl) | (rw [dec_true e3]; rfl) | (rw [dec_true e4]; rfl) | (rw [dec_true e5]; rfl) | exact dec_false (show ¬ ((a.lat.2.2.length : Nat) : Int) ≠ (b.lat.2.2.length : Nat) by omega) | exact dec_false (show ¬ ((a.gates.2.2.length : Nat) : Int) ≠ (b.gates.2.2.length : Nat) by omega) | exact dec_false (show ¬ ((a.syms.2.2.length : Nat) : Int) ≠ (b.syms.2.2.length : Nat) by omega); done)))
    | (apply W.condKF; exact rfl; (focus (first | exact dec_false (fun h => h e0) | exact dec_false (fun h => h e1) | (rw [dec_true e2]; rfl) | (rw [dec_true e3]; rfl) | (rw [dec_true e4]; rfl) | (rw [dec_true e5]; rfl) | exact dec_false (show ¬ ((a.lat.2.2.length : Nat) : Int) ≠ (b.lat.2.2.length : Nat) by omega) | exact dec_false (show ¬ ((a.gates.2.2.length : Nat) : Int) ≠ (b.gates.2.2.length : Nat) by omega) | exact dec_false (show ¬ ((a.syms.2.2.length : Nat) : Int) ≠ (b.syms.2.2.length : Nat) by omega); done)))
    | ((show WL _ _ _ (⟨_, .call ⟨.value (.func 33), _, _⟩, _, _, _, _⟩ :: _) _ _ _); apply WL.callS; exact rfl; exact rfl; exact rfl; exact rfl; exact ref_Ints _ _ _ _ _ _ _ (hCa.ins.row.ext (by (exact extA))) (hCb.ins.row.ext (by (exact extA))))
    | ((show WL _ _ _ (⟨_, .call ⟨.value (.func 33), _, _⟩, _, _, _, _⟩ :: _) _ _ _); apply WL.callS; exact rfl; exact rfl; exact rfl; exact rfl; exact ref_Ints _ _ _ _ _ _ _ (hCa.outs.row.ext (by (exact extA))) (hCb.outs.row.ext (by (exact extA))))
    | ((show WL _ _ _ (⟨_, .call ⟨.value (.func 33), _, _⟩, _, _, _, _⟩ :: _) _ _ _); apply WL.callS; exact rfl; exact rfl; exact rfl; exact rfl; exact ref_Ints _ _ _ _ _ _ _ (hCa.bads.row.ext (by (exact extA))) (hCb.bads.row.ext (by (exact extA))))
    | ((show WL _ _ _ (⟨_, .call ⟨.value (.func 33), _, _⟩, _, _, _, _⟩ :: _) _ _ _); apply WL.callS; exact rfl; exact rfl; exact rfl; exact rfl; exact ref_Ints _ _ _ _ _ _ _ (hCa.cons.row.ext (by (exact extA))) (hCb.cons.row.ext (by (exact extA))))
    | (show WL _ _ _ _ _ _ _; first | apply WL.nil | (refine WL.au (k := ?_)))
    | (show Z _ _ _ _ _; apply Z.then_normal)
    | (show W _ _ _ _ _ _; first | apply W.seq | apply W.region | apply W.block | apply W.skip))
  have hX : Ext w wB := (by (exact extA))
  have hA' := hA.ext hxB
  have ka2 : wB.cell? ⟨gA, 0 + 1 + 1, none⟩ = some (rowVal a.lat) := hA'.2.2.1
  have ka6 : wB.cell? ⟨gA, 0 + 1 + 1 + 1 + 1 + 1 + 1, none⟩ = some (rowVal a.gates) := hA'.2.2.2.2.2.2.1
  have ka7 : wB.cell? ⟨gA, 0 + 1 + 1 + 1 + 1 + 1 + 1 + 1, none⟩ = some (rowVal a.syms) := hA'.2.2.2.2.2.2.2.1
  have Ra0 := hCa.lat.row.ext hX
  have Rb0 := hCb.lat.row.ext hX
  have hln0 := Ra0.len
  refine W.loop1 a.lat.2.2.length (fun k => k ≤ a.lat.2.2.length ∧ ∀ i, i < k → a.lat.2.2[i]? = b.lat.2.2[i]?) (fun k => [(2, .pointer (some ⟨gA, 0, none⟩)), (3, .pointer (some ⟨gB, 0, none⟩)), (5, .int .i64 k)]) ⟨by omega, fun i hi => by omega⟩ (fun k h => h.1) ⟨rfl, rfl, rfl, trivial⟩ ?_
  rintro k ⟨hk, heq⟩
  by_cases hlt : k < a.lat.2.2.length
  · obtain ⟨x, hx⟩ := getI a.lat.2.2 hlt
    obtain ⟨y, hy⟩ := getI b.lat.2.2 (show k < b.lat.2.2.length by omega)
    by_cases hxy : x = y
    · subst hxy
      repeat' (first
        | (apply W.condKT; exact rfl; (focus (first | exact dec_true (show ((k : Nat) : Int) < (a.lat.2.2.length : Int) by omega) | exact dec_false (fun h => h rfl); done)))
        | (apply W.condKF; exact rfl; (focus (first | exact dec_true (show ((k : Nat) : Int) < (a.lat.2.2.length : Int) by omega) | exact dec_false (fun h => h rfl); done)))
        | (apply QL.neqS tOk; exact rfl; exact rfl; exact rfl; exact rfl; exact rfl; exact rfl; exact rfl; exact factLt)
        | (show WL _ _ _ _ _ _ _; first | apply WL.nil | (refine WL.au (k := ?_)))
        | (show QL _ _ _ _ _ _ _; first | apply QL.nil | (refine QL.au (k := ?_)) | (apply QL.index tOk; exact rfl; exact rfl; exact rfl; exact rfl; exact rfl; exact rfl; exact rfl; exact rfl; assumption; (exact extA); exact rfl; omega; assumption; intro b off h; have hcc := h; first | (obtain ⟨h1, h2, h3, h4, h5, h6, _⟩ := h) | (obtain ⟨h1, h2, h3, _⟩ := h) | (obtain ⟨h1, h2, _⟩ := h) | (obtain ⟨h1, _⟩ := h)))
        | (show Z _ _ _ _ _; first | apply Z.then_normal | apply Z.block_normal)
        | (show W _ _ _ _ _ _; first | apply W.seq | apply W.region | apply W.block | apply W.skip | (apply W.regionD tMix; kernel_rfl)))
      exact Z.again1 ⟨by omega, eq_snoc heq hx hy rfl⟩ ⟨rfl, rfl, rfl, trivial⟩
    · repeat' (first
        | (apply W.condKT; exact rfl; (focus (first | exact dec_true (show ((k : Nat) : Int) < (a.lat.2.2.length : Int) by omega) | exact dec_true (ne_iff enc3_inj hxy); done)))
        | (apply QL.neqS tOk; exact rfl; exact rfl; exact rfl; exact rfl; exact rfl; exact rfl; exact rfl; exact factLt)
        | (show WL _ _ _ _ _ _ _; first | apply WL.nil | (refine WL.au (k := ?_)))
        | (show QL _ _ _ _ _ _ _; first | apply QL.nil | (refine QL.au (k := ?_)) | (apply QL.index tOk; exact rfl; exact rfl; exact rfl; exact rfl; exact rfl; exact rfl; exact rfl; exact rfl; assumption; (exact extA); exact rfl; omega; assumption; intro b off h; have hcc := h; first | (obtain ⟨h1, h2, h3, h4, h5, h6, _⟩ := h) | (obtain ⟨h1, h2, h3, _⟩ := h) | (obtain ⟨h1, h2, _⟩ := h) | (obtain ⟨h1, _⟩ := h)))
        | (show Z _ _ _ _ _; first | apply Z.then_normal | apply Z.then_ret | apply Z.block_ret)
        | (show W _ _ _ _ _ _; first | apply W.seq | apply W.region | apply W.block | apply W.skip | apply W.ret | (apply W.regionD tMix; kernel_rfl)))
      exact Z.body1 Try.results32 rfl fun m => ⟨congrArg Value.bool (dec_false (fun h => ne_at hx hy hxy (congrArg CirT.lat h))).symm, Ext.at (by (exact extA)) m⟩
  have e6 := eq_all heq l0 (by omega)
  repeat' (first
    | (apply W.condKF; exact rfl; (focus (exact dec_false (show ¬ ((k : Nat) : Int) < (a.lat.2.2.length : Int) by omega); done)))
    | (show WL _ _ _ _ _ _ _; first | apply WL.nil | (refine WL.au (k := ?_)))
    | (show Z _ _ _ _ _; first | apply Z.then_normal | apply Z.then_exit | apply Z.block_exit)
    | (show W _ _ _ _ _ _; first | apply W.seq | apply W.region | apply W.block | apply W.exit))
  clear heq hlt hk
  have Ra1 := hCa.gates.row.ext hX
  have Rb1 := hCb.gates.row.ext hX
  have hln1 := Ra1.len
  refine W.loop1 a.gates.2.2.length (fun k => k ≤ a.gates.2.2.length ∧ ∀ i, i < k → a.gates.2.2[i]? = b.gates.2.2[i]?) (fun k => [(2, .pointer (some ⟨gA, 0, none⟩)), (3, .pointer (some ⟨gB, 0, none⟩)), (6, .int .i64 k)]) ⟨by omega, fun i hi => by omega⟩ (fun k h => h.1) ⟨rfl, rfl, rfl, trivial⟩ ?_
  rintro k ⟨hk, heq⟩
  by_cases hlt : k < a.gates.2.2.length
  · obtain ⟨x, hx⟩ := getI a.gates.2.2 hlt
    obtain ⟨y, hy⟩ := getI b.gates.2.2 (show k < b.gates.2.2.length by omega)
    by_cases hxy : x = y
    · subst hxy
      repeat' (first
        | (apply W.condKT; exact rfl; (focus (first | exact dec_true (show ((k : Nat) : Int) < (a.gates.2.2.length : Int) by omega) | exact dec_false (fun h => h rfl); done)))
        | (apply W.condKF; exact rfl; (focus (first | exact dec_true (show ((k : Nat) : Int) < (a.gates.2.2.length : Int) by omega) | exact dec_false (fun h => h rfl); done)))
        | (apply QL.neqS tOk; exact rfl; exact rfl; exact rfl; exact rfl; exact rfl; exact rfl; exact rfl; exact factGt)
        | (show WL _ _ _ _ _ _ _; first | apply WL.nil | (refine WL.au (k := ?_)))
        | (show QL _ _ _ _ _ _ _; first | apply QL.nil | (refine QL.au (k := ?_)) | (apply QL.index tOk; exact rfl; exact rfl; exact rfl; exact rfl; exact rfl; exact rfl; exact rfl; exact rfl; assumption; (exact extA); exact rfl; omega; assumption; intro b off h; have hcc := h; first | (obtain ⟨h1, h2, h3, h4, h5, h6, _⟩ := h) | (obtain ⟨h1, h2, h3, _⟩ := h) | (obtain ⟨h1, h2, _⟩ := h) | (obtain ⟨h1, _⟩ := h)))
        | (show Z _ _ _ _ _; first | apply Z.then_normal | apply Z.block_normal)
        | (show W _ _ _ _ _ _; first | apply W.seq | apply W.region | apply W.block | apply W.skip | (apply W.regionD tMix; kernel_rfl)))
      exact Z.again1 ⟨by omega, eq_snoc heq hx hy rfl⟩ ⟨rfl, rfl, rfl, trivial⟩
    · repeat' (first
        | (apply W.condKT; exact rfl; (focus (first | exact dec_true (show ((k : Nat) : Int) < (a.gates.2.2.length : Int) by omega) | exact dec_true (ne_iff enc3_inj hxy); done)))
        | (apply QL.neqS tOk; exact rfl; exact rfl; exact rfl; exact rfl; exact rfl; exact rfl; exact rfl; exact factGt)
        | (show WL _ _ _ _ _ _ _; first | apply WL.nil | (refine WL.au (k := ?_)))
        | (show QL _ _ _ _ _ _ _; first | apply QL.nil | (refine QL.au (k := ?_)) | (apply QL.index tOk; exact rfl; exact rfl; exact rfl; exact rfl; exact rfl; exact rfl; exact rfl; exact rfl; assumption; (exact extA); exact rfl; omega; assumption; intro b off h; have hcc := h; first | (obtain ⟨h1, h2, h3, h4, h5, h6, _⟩ := h) | (obtain ⟨h1, h2, h3, _⟩ := h) | (obtain ⟨h1, h2, _⟩ := h) | (obtain ⟨h1, _⟩ := h)))
        | (show Z _ _ _ _ _; first | apply Z.then_normal | apply Z.then_ret | apply Z.block_ret)
        | (show W _ _ _ _ _ _; first | apply W.seq | apply W.region | apply W.block | apply W.skip | apply W.ret | (apply W.regionD tMix; kernel_rfl)))
      exact Z.body1 Try.results32 rfl fun m => ⟨congrArg Value.bool (dec_false (fun h => ne_at hx hy hxy (congrArg CirT.gates h))).symm, Ext.at (by (exact extA)) m⟩
  have e7 := eq_all heq l1 (by omega)
  repeat' (first
    | (apply W.condKF; exact rfl; (focus (exact dec_false (show ¬ ((k : Nat) : Int) < (a.gates.2.2.length : Int) by omega); done)))
    | (show WL _ _ _ _ _ _ _; first | apply WL.nil | (refine WL.au (k := ?_)))
    | (show Z _ _ _ _ _; first | apply Z.then_normal | apply Z.then_exit | apply Z.block_exit)
    | (show W _ _ _ _ _ _; first | apply W.seq | apply W.region | apply W.block | apply W.exit))
  clear heq hlt hk
  have Ra2 := hCa.syms.row.ext hX
  have Rb2 := hCb.syms.row.ext hX
  have hln2 := Ra2.len
  refine W.loop1 a.syms.2.2.length (fun k => k ≤ a.syms.2.2.length ∧ ∀ i, i < k → a.syms.2.2[i]? = b.syms.2.2[i]?) (fun k => [(2, .pointer (some ⟨gA, 0, none⟩)), (3, .pointer (some ⟨gB, 0, none⟩)), (7, .int .i64 k)]) ⟨by omega, fun i hi => by omega⟩ (fun k h => h.1) ⟨rfl, rfl, rfl, trivial⟩ ?_
  rintro k ⟨hk, heq⟩
  by_cases hlt : k < a.syms.2.2.length
  · obtain ⟨x, hx⟩ := getI a.syms.2.2 hlt
    obtain ⟨y, hy⟩ := getI b.syms.2.2 (show k < b.syms.2.2.length by omega)
    by_cases hxy : x = y
    · subst hxy
      repeat' (first
        | (apply W.condKT; exact rfl; (focus (first | exact dec_true (show ((k : Nat) : Int) < (a.syms.2.2.length : Int) by omega) | exact dec_false (fun h => h rfl); done)))
        | (apply W.condKF; exact rfl; (focus (first | exact dec_true (show ((k : Nat) : Int) < (a.syms.2.2.length : Int) by omega) | exact dec_false (fun h => h rfl); done)))
        | (apply QL.neqS tOk; exact rfl; exact rfl; exact rfl; exact rfl; exact rfl; exact rfl; exact rfl; exact factSy)
        | (show WL _ _ _ _ _ _ _; first | apply WL.nil | (refine WL.au (k := ?_)))
        | (show QL _ _ _ _ _ _ _; first | apply QL.nil | (refine QL.au (k := ?_)) | (apply QL.index tOk; exact rfl; exact rfl; exact rfl; exact rfl; exact rfl; exact rfl; exact rfl; exact rfl; assumption; (exact extA); exact rfl; omega; assumption; intro b off h; have hcc := h; first | (obtain ⟨h1, h2, h3, h4, h5, h6, _⟩ := h) | (obtain ⟨h1, h2, h3, _⟩ := h) | (obtain ⟨h1, h2, _⟩ := h) | (obtain ⟨h1, _⟩ := h)))
        | (show Z _ _ _ _ _; first | apply Z.then_normal | apply Z.block_normal)
        | (show W _ _ _ _ _ _; first | apply W.seq | apply W.region | apply W.block | apply W.skip | (apply W.regionD tMix; kernel_rfl)))
      exact Z.again1 ⟨by omega, eq_snoc heq hx hy rfl⟩ ⟨rfl, rfl, rfl, trivial⟩
    · repeat' (first
        | (apply W.condKT; exact rfl; (focus (first | exact dec_true (show ((k : Nat) : Int) < (a.syms.2.2.length : Int) by omega) | exact dec_true (ne_iff encY_inj hxy); done)))
        | (apply QL.neqS tOk; exact rfl; exact rfl; exact rfl; exact rfl; exact rfl; exact rfl; exact rfl; exact factSy)
        | (show WL _ _ _ _ _ _ _; first | apply WL.nil | (refine WL.au (k := ?_)))
        | (show QL _ _ _ _ _ _ _; first | apply QL.nil | (refine QL.au (k := ?_)) | (apply QL.index tOk; exact rfl; exact rfl; exact rfl; exact rfl; exact rfl; exact rfl; exact rfl; exact rfl; assumption; (exact extA); exact rfl; omega; assumption; intro b off h; have hcc := h; first | (obtain ⟨h1, h2, h3, h4, h5, h6, _⟩ := h) | (obtain ⟨h1, h2, h3, _⟩ := h) | (obtain ⟨h1, h2, _⟩ := h) | (obtain ⟨h1, _⟩ := h)))
        | (show Z _ _ _ _ _; first | apply Z.then_normal | apply Z.then_ret | apply Z.block_ret)
        | (show W _ _ _ _ _ _; first | apply W.seq | apply W.region | apply W.block | apply W.skip | apply W.ret | (apply W.regionD tMix; kernel_rfl)))
      exact Z.body1 Try.results32 rfl fun m => ⟨congrArg Value.bool (dec_false (fun h => ne_at hx hy hxy (congrArg CirT.syms h))).symm, Ext.at (by (exact extA)) m⟩
  have e8 := eq_all heq l2 (by omega)
  repeat' (first
    | (apply W.condKF; exact rfl; (focus (exact dec_false (show ¬ ((k : Nat) : Int) < (a.syms.2.2.length : Int) by omega); done)))
    | (show WL _ _ _ _ _ _ _; first | apply WL.nil | (refine WL.au (k := ?_)))
    | (show Z _ _ _ _ _; first | apply Z.then_normal | apply Z.then_exit | apply Z.block_exit)
    | (show W _ _ _ _ _ _; first | apply W.seq | apply W.region | apply W.ret | apply W.exit))
  clear heq hlt hk
  exact Z.body1 Try.results32 rfl fun m => ⟨congrArg Value.bool (dec_true (show a.t = b.t by unfold Circ.t; rw [e0, e1, e2, e3, e4, e5, e6, e7, e8])).symm, Ext.at (by (exact extA)) m⟩
end Go.Proofs.Ythpnahapiodflaa
namespace Go.Lt
open Go.RowKit
set_option linter.unusedVariables false
theorem Z.invFresh {N : Nat} {α : Type} {s : Nat} {enc : α → List Value} {d el B cap : Nat} {l : List α} {a : Option Addr} {w w' : World} {E : Env} (hx : Ext w w') (hB : B ≤ w.heap.size) (hO : Own s enc el w.heap.size w' a cap l) :
    Z N (postI N d (prRow s enc el B l) w E) .normal ((d, .slice a l.length cap) :: E) w' :=
  Z.invRow hx (hO.base hB) (.inr fun k hk => (hO.blk_lt k hk).1)
end Go.Lt
namespace Go.Proofs.Ythpnahapiodflaa
open Go Go.Lt Go.RowKit
set_option linter.unusedVariables false
set_option linter.unusedSimpArgs false
set_option maxRecDepth 20000

theorem Sep.perm7 {B : Nat} {w : World} {a b c d e f g : Piece} {rest : List Piece} (hS : Lt.Sep B w (a :: b :: c :: d :: e :: f :: g :: rest)) : Lt.Sep B w [d, e, f, a, b, c, g] := by
  refine hS.pick (fun i => if i < 3 then i + 3 else if i < 6 then i - 3 else i) (fun i x h => ?_) (fun i j hi hj hne => ?_)
  · match i, h with
    | 0, h => exact h
    | 1, h => exact h
    | 2, h => exact h
    | 3, h => exact h
    | 4, h => exact h
    | 5, h => exact h
    | 6, h => exact h
  · show (if i < 3 then i + 3 else if i < 6 then i - 3 else i) ≠ (if j < 3 then j + 3 else if j < 6 then j - 3 else j)
    have hi' : i < 7 := hi
    have hj' : j < 7 := hj
    repeat' split
    all_goals omega
set_option maxHeartbeats 16000000 in
theorem circ_Clone (c : Circ) (w : World) (hC : CAt w c) (hz : SzC c.t 100000) (hz2 : c.t.syms.length ≤ 100000) :
    Lt.Spec Try.prog 89 [c.val] w (fun v w' => Ext w w' ∧ ∃ d : Circ, v = d.val ∧ d.t = c.t ∧ OwnC w.heap.size w' d) := by
  have z1 : c.ins.2.2.length ≤ 100000 := hz.1
  have z2 : c.lat.2.2.length ≤ 100000 := hz.2.1
  have z3 : c.outs.2.2.length ≤ 100000 := hz.2.2.1
  have z4 : c.bads.2.2.length ≤ 100000 := hz.2.2.2.1
  have z5 : c.cons.2.2.length ≤ 100000 := hz.2.2.2.2.1
  have z6 : c.gates.2.2.length ≤ 100000 := hz.2.2.2.2.2
  have z7 : c.syms.2.2.length ≤ 100000 := hz2
  have Ri := hC.ins.row
  have Ro := hC.outs.row
  have Rb := hC.bads.row
  have Rn := hC.cons.row
  have Rl := hC.lat.row
  have Rg := hC.gates.row
  have Ry := hC.syms.row
  have ni := hC.ins.none
  have no := hC.outs.none
  have nb := hC.bads.none
  have nn := hC.cons.none
  have nl := hC.lat.none
  have ng := hC.gates.none
  have ny := hC.syms.none
  refine Spec.of _ Try.func89 rfl Try.ntmps89 (by kernel_rfl) rfl ?_
  repeat' (first
    | (apply WL.box; exact rfl; exact rfl; exact rfl; intro gb w' hb hge hc hx; have hcc := hc; (first | (obtain ⟨h1, h2, h3, _⟩ := hc) | (obtain ⟨h1, h2, _⟩ := hc)); (obtain ⟨gc, rfl⟩ : ∃ x, x = gb := ⟨_, rfl⟩; obtain ⟨wc, rfl⟩ : ∃ x, x = w' := ⟨_, rfl⟩; obtain ⟨hxc, rfl⟩ : ∃ x, x = hx := ⟨_, rfl⟩; have hS : Lt.Sep w.heap.size wc [pcell gc c.vals.toArray 28] := Sep.newCell Sep.none' hxc hb hge (Nat.le_refl _)))
    | (apply WL.alloc tOk; exact rfl; exact rfl; exact rfl; intro gb w' hb hge hx; replace hS := Sep.newCell (Sep.ext hS (by (exact extA))) hx hb hge (by (first | exact Nat.le_refl _ | exact Below.size (by (exact extA)))); (try simp only [List.set_cons_zero, List.set_cons_succ] at hS); (try have hR0 := hS.row (i := 0) rfl); (try have hR1 := hS.row (i := 1) rfl); (try have hR2 := hS.row (i := 2) rfl); (try have hR3 := hS.row (i := 3) rfl); (try have hR4 := hS.row (i := 4) rfl); (try have hC0 := hS.cell (i := 0) rfl); (try have hD0 := (cells_heap hC0).1); (try have hE0 := (cells_heap hC0).2.1); (try have hF0 := (cells_heap hC0).2.2.1); (try have hG0 := (cells_heap hC0).2.2.2.1); (try have hC1 := hS.cell (i := 1) rfl); (try have hD1 := (cells_heap hC1).1); (try have hE1 := (cells_heap hC1).2.1); (try have hF1 := (cells_heap hC1).2.2.1); (try have hG1 := (cells_heap hC1).2.2.2.1); (try have hC2 := hS.cell (i := 2) rfl); (try have hD2 := (cells_heap hC2).1); (try have hE2 := (cells_heap hC2).2.1); (try have hF2 := (cells_heap hC2).2.2.1); (try have hG2 := (cells_heap hC2).2.2.2.1); (try have hC3 := hS.cell (i := 3) rfl); (try have hD3 := (cells_heap hC3).1); (try have hE3 := (cells_heap hC3).2.1); (try have hF3 := (cells_heap hC3).2.2.1); (try have hG3 := (cells_heap hC3).2.2.2.1); (try have hC4 := hS.cell (i := 4) rfl); (try have hD4 := (cells_heap hC4).1); (try have hE4 := (cells_heap hC4).2.1); (try have hF4 := (cells_heap hC4).2.2.1); (try have hG4 := (cells_heap hC4).2.2.2.1); (try have hM0 := hS.map (i := 0) rfl); (try have hM1 := hS.map (i := 1) rfl); (try have hM2 := hS.map (i := 2) rfl); (try have hM3 := hS.map (i := 3) rfl); (try have hM4 := hS.map (i := 4) rfl))
    | (show WL _ _ _ _ _ _ _; apply WL.nil)
    | (show Z _ _ _ _ _; apply Z.then_normal)
    | (show W _ _ _ _ _ _; first | apply W.seq | apply W.region))
  obtain ⟨w1, rfl⟩ : ∃ x, x = w' := ⟨_, rfl⟩; obtain ⟨g2, rfl⟩ : ∃ x, x = gb := ⟨_, rfl⟩
  have hX2 : Ext w w1 := (by (exact extA))
  have hw1 : w.heap.size ≤ w1.heap.size := Below.size hX2
  have hgc : w.heap.size ≤ gc := (hS.lt (i := 1) rfl rfl).1
  have hcl := cells_heap (hS.cell (i := 1) rfl)
  obtain ⟨y0, y1, y2, y3, y4, y5, y6, y7, y8, _⟩ := hcl
  repeat' (first
    | (show W _ _ (.region 1 _ _) _ _ _; apply W.regionI 13 [.is (.pointer (some ⟨gc, 0 + 1, none⟩)), .is (rowVal c.ins), prRow 1 encI 3 w1.heap.size c.ins.2.2, .is (.pointer (some ⟨gc, 0 + 1 + 1, none⟩)), .is (rowVal c.lat), prRow 3 enc3 69 w1.heap.size c.lat.2.2, .is (.pointer (some ⟨gc, 0 + 1 + 1 + 1 + 1 + 1 + 1, none⟩)), .is (rowVal c.gates), prRow 3 enc3 106 w1.heap.size c.gates.2.2, .is (.pointer (some ⟨gc, 0 + 1 + 1 + 1 + 1 + 1 + 1 + 1, none⟩)), .is (rowVal c.syms), prRow 3 encY 110 w1.heap.size c.syms.2.2, .is (.pointer (some ⟨gc, 0 + 1, none⟩))] tMix; kernel_rfl; exact rfl; kernel_rfl; kernel_rfl; exact rfl; exact rfl)
    | (show OBL _ _ _ _ _ _ _ _; apply OBL.nil)
    | (show OBL _ _ _ _ _ _ 0 _; apply OBL.cons (ds := []); exact rfl; exact rfl; exact rfl; kernel_rfl; intro w8 hw8 rest8)
    | (show OBL _ _ _ _ _ _ 1 _; apply OBL.cons (ds := [0]); exact rfl; exact rfl; exact rfl; kernel_rfl; intro w8 hw8 rest8)
    | (show OBL _ _ _ _ _ _ 2 _; apply OBL.cons (ds := [1]); exact rfl; exact rfl; exact rfl; kernel_rfl; intro w8 hw8 rest8)
    | (show OBL _ _ _ _ _ _ 3 _; apply OBL.cons (ds := []); exact rfl; exact rfl; exact rfl; kernel_rfl; intro w8 hw8 rest8)
    | (show OBL _ _ _ _ _ _ 4 _; apply OBL.cons (ds := [3]); exact rfl; exact rfl; exact rfl; kernel_rfl; intro w8 hw8 rest8)
    | (show OBL _ _ _ _ _ _ 5 _; apply OBL.cons (ds := [4, 2]); exact rfl; exact rfl; exact rfl; kernel_rfl; intro w8 hw8 rest8)
    | (show OBL _ _ _ _ _ _ 6 _; apply OBL.cons (ds := []); exact rfl; exact rfl; exact rfl; kernel_rfl; intro w8 hw8 rest8)
    | (show OBL _ _ _ _ _ _ 7 _; apply OBL.cons (ds := [6]); exact rfl; exact rfl; exact rfl; kernel_rfl; intro w8 hw8 rest8)
    | (show OBL _ _ _ _ _ _ 8 _; apply OBL.cons (ds := [7, 5]); exact rfl; exact rfl; exact rfl; kernel_rfl; intro w8 hw8 rest8)
    | (show OBL _ _ _ _ _ _ 9 _; apply OBL.cons (ds := []); exact rfl; exact rfl; exact rfl; kernel_rfl; intro w8 hw8 rest8)
    | (show OBL _ _ _ _ _ _ 10 _; apply OBL.cons (ds := [9]); exact rfl; exact rfl; exact rfl; kernel_rfl; intro w8 hw8 rest8)
    | (show OBL _ _ _ _ _ _ 11 _; apply OBL.cons (ds := [10, 8]); exact rfl; exact rfl; exact rfl; kernel_rfl; intro w8 hw8 rest8)
    | (show OBL _ _ _ _ _ _ 12 _; apply OBL.cons (ds := [0, 1, 2, 3, 4, 6, 7, 9, 10]); exact rfl; exact rfl; exact rfl; kernel_rfl; intro w8 hw8 rest8)
    | (show NO _ _ _ _ _ _ _ _ _ _; first | apply NO.nil | (apply NO.is; exact rfl; exact rfl) | (apply NO.ex; exact rfl; exact rfl; (first | (rintro _ ⟨gl, rfl, hlb, hlge⟩) | (rintro _ ⟨ar, cr, rfl, hOr⟩))))
    | (intro w8 hw8; show NF _ _ _ _ _ _ _ _ _)
    | (show NF _ _ _ _ _ _ _ _ _; first | (apply NF.nilT; intro hap; replace hS := Sep.news [prowZ 3 encY 110 w.heap.size ar1_11 cr1_11 c.syms.2.2, prowZ 3 enc3 106 w.heap.size ar1_8 cr1_8 c.gates.2.2, prowZ 3 enc3 69 w.heap.size ar1_5 cr1_5 c.lat.2.2, prowZ 1 encI 3 w.heap.size ar1_2 cr1_2 c.ins.2.2] hS hw8 (by rintro q hq; simp only [List.mem_cons, List.not_mem_nil, or_false] at hq; rcases hq with rfl | rfl | rfl | rfl <;> exact prowZ_new (by assumption) hw1) (apartS hap) hw1; simp only [List.cons_append, List.nil_append] at hS; (try simp only [List.set_cons_zero, List.set_cons_succ] at hS); (try have hR0 := hS.row (i := 0) rfl); (try have hR1 := hS.row (i := 1) rfl); (try have hR2 := hS.row (i := 2) rfl); (try have hR3 := hS.row (i := 3) rfl); (try have hR4 := hS.row (i := 4) rfl); (try have hC0 := hS.cell (i := 0) rfl); (try have hD0 := (cells_heap hC0).1); (try have hE0 := (cells_heap hC0).2.1); (try have hF0 := (cells_heap hC0).2.2.1); (try have hG0 := (cells_heap hC0).2.2.2.1); (try have hC1 := hS.cell (i := 1) rfl); (try have hD1 := (cells_heap hC1).1); (try have hE1 := (cells_heap hC1).2.1); (try have hF1 := (cells_heap hC1).2.2.1); (try have hG1 := (cells_heap hC1).2.2.2.1); (try have hC2 := hS.cell (i := 2) rfl); (try have hD2 := (cells_heap hC2).1); (try have hE2 := (cells_heap hC2).2.1); (try have hF2 := (cells_heap hC2).2.2.1); (try have hG2 := (cells_heap hC2).2.2.2.1); (try have hC3 := hS.cell (i := 3) rfl); (try have hD3 := (cells_heap hC3).1); (try have hE3 := (cells_heap hC3).2.1); (try have hF3 := (cells_heap hC3).2.2.1); (try have hG3 := (cells_heap hC3).2.2.2.1); (try have hC4 := hS.cell (i := 4) rfl); (try have hD4 := (cells_heap hC4).1); (try have hE4 := (cells_heap hC4).2.1); (try have hF4 := (cells_heap hC4).2.2.1); (try have hG4 := (cells_heap hC4).2.2.2.1); (try have hM0 := hS.map (i := 0) rfl); (try have hM1 := hS.map (i := 1) rfl); (try have hM2 := hS.map (i := 2) rfl); (try have hM3 := hS.map (i := 3) rfl); (try have hM4 := hS.map (i := 4) rfl) ; have hC5 := hS.cell (i := 5) rfl) | (apply NF.is; exact rfl; exact rfl))
    | (show NF _ _ _ _ _ _ (2 :: _) _ _; apply NF.ex; exact rfl; exact rfl; rintro _ ⟨ar1_2, cr1_2, rfl, hOr1_2⟩)
    | (show NF _ _ _ _ _ _ (5 :: _) _ _; apply NF.ex; exact rfl; exact rfl; rintro _ ⟨ar1_5, cr1_5, rfl, hOr1_5⟩)
    | (show NF _ _ _ _ _ _ (8 :: _) _ _; apply NF.ex; exact rfl; exact rfl; rintro _ ⟨ar1_8, cr1_8, rfl, hOr1_8⟩)
    | (show NF _ _ _ _ _ _ (11 :: _) _ _; apply NF.ex; exact rfl; exact rfl; rintro _ ⟨ar1_11, cr1_11, rfl, hOr1_11⟩)
    | (show Z _ _ _ _ _; first | (apply Z.invIs; (exact extA)) | (apply Z.invFresh; (exact extA); (first | omega | exact Below.size (by (exact extA))); assumption))
    | ((show WL _ _ _ (⟨_, .call ⟨.value (.func 139), _, _⟩, _, _, _, _⟩ :: _) _ _ _); apply WL.call; exact rfl; exact rfl; exact rfl; exact rfl; exact slices_CloneI _ _ c.ins.2.2 _ (Ri.ext (by (exact extA))) ni (by omega); rintro v' w' ⟨hx, a', cap', rfl, hO⟩)
    | ((show WL _ _ _ (⟨_, .call ⟨.value (.func 140), _, _⟩, _, _, _, _⟩ :: _) _ _ _); apply WL.call; exact rfl; exact rfl; exact rfl; exact rfl; exact clone_L _ _ c.lat.2.2 _ (Rl.ext (by (exact extA))) nl (by omega); rintro v' w' ⟨hx, a', cap', rfl, hO⟩)
    | ((show WL _ _ _ (⟨_, .call ⟨.value (.func 141), _, _⟩, _, _, _, _⟩ :: _) _ _ _); apply WL.call; exact rfl; exact rfl; exact rfl; exact rfl; exact clone_G _ _ c.gates.2.2 _ (Rg.ext (by (exact extA))) ng (by omega); rintro v' w' ⟨hx, a', cap', rfl, hO⟩)
    | ((show WL _ _ _ (⟨_, .call ⟨.value (.func 142), _, _⟩, _, _, _, _⟩ :: _) _ _ _); apply WL.call; exact rfl; exact rfl; exact rfl; exact rfl; exact clone_Y _ _ c.syms.2.2 _ (Ry.ext (by (exact extA))) ny (by omega); rintro v' w' ⟨hx, a', cap', rfl, hO⟩)
    | (apply WL.storeF (w0 := w) tOk; exact rfl; exact rfl; exact rfl; exact rfl; assumption; (exact extA); exact rfl; exact rfl; exact rfl; exact rfl; (exact extA); (first | assumption | omega | (focus (apply Nat.le_trans; rotate_left; assumption; exact Below.size (by (exact extA))))); intro w' hb hX' hU; replace hS := Sep.updCell (i := 5) rfl hU hb hS (by (exact extA)) (by (first | exact Nat.le_refl _ | exact Below.size (by (exact extA)))); (try simp only [List.set_cons_zero, List.set_cons_succ] at hS); (try have hR0 := hS.row (i := 0) rfl); (try have hR1 := hS.row (i := 1) rfl); (try have hR2 := hS.row (i := 2) rfl); (try have hR3 := hS.row (i := 3) rfl); (try have hR4 := hS.row (i := 4) rfl); (try have hC0 := hS.cell (i := 0) rfl); (try have hD0 := (cells_heap hC0).1); (try have hE0 := (cells_heap hC0).2.1); (try have hF0 := (cells_heap hC0).2.2.1); (try have hG0 := (cells_heap hC0).2.2.2.1); (try have hC1 := hS.cell (i := 1) rfl); (try have hD1 := (cells_heap hC1).1); (try have hE1 := (cells_heap hC1).2.1); (try have hF1 := (cells_heap hC1).2.2.1); (try have hG1 := (cells_heap hC1).2.2.2.1); (try have hC2 := hS.cell (i := 2) rfl); (try have hD2 := (cells_heap hC2).1); (try have hE2 := (cells_heap hC2).2.1); (try have hF2 := (cells_heap hC2).2.2.1); (try have hG2 := (cells_heap hC2).2.2.2.1); (try have hC3 := hS.cell (i := 3) rfl); (try have hD3 := (cells_heap hC3).1); (try have hE3 := (cells_heap hC3).2.1); (try have hF3 := (cells_heap hC3).2.2.1); (try have hG3 := (cells_heap hC3).2.2.2.1); (try have hC4 := hS.cell (i := 4) rfl); (try have hD4 := (cells_heap hC4).1); (try have hE4 := (cells_heap hC4).2.1); (try have hF4 := (cells_heap hC4).2.2.1); (try have hG4 := (cells_heap hC4).2.2.2.1); (try have hM0 := hS.map (i := 0) rfl); (try have hM1 := hS.map (i := 1) rfl); (try have hM2 := hS.map (i := 2) rfl); (try have hM3 := hS.map (i := 3) rfl); (try have hM4 := hS.map (i := 4) rfl))
    | (show WL _ _ _ _ _ _ _; first | apply WL.nil | (refine WL.au (k := ?_)))
    | (show Z _ _ _ _ _; apply Z.then_normal)
    | (show W _ _ _ _ _ _; apply W.seq))
  obtain ⟨w2, rfl⟩ : ∃ x, x = w' := ⟨_, rfl⟩
  have hX3 : Ext w w2 := (by (exact extA))
  have hw2 : w.heap.size ≤ w2.heap.size := Below.size hX3
  replace hS : Lt.Sep w.heap.size w2 [prowZ 3 encY 110 w.heap.size ar1_11 cr1_11 c.syms.2.2, prowZ 3 enc3 106 w.heap.size ar1_8 cr1_8 c.gates.2.2, prowZ 3 enc3 69 w.heap.size ar1_5 cr1_5 c.lat.2.2, prowZ 1 encI 3 w.heap.size ar1_2 cr1_2 c.ins.2.2, pcell g2 (Value.cells (.agg #[.int .i64 0, .slice none 0 0, .slice none 0 0, .slice none 0 0, .slice none 0 0, .slice none 0 0, .slice none 0 0, .slice none 0 0, .string ⟨#[]⟩])) 28, pcell gc ([.int .i64 c.max, .slice ar1_2 c.ins.2.2.length cr1_2, .slice ar1_5 c.lat.2.2.length cr1_5, rowVal c.outs, rowVal c.bads, rowVal c.cons, .slice ar1_8 c.gates.2.2.length cr1_8, .slice ar1_11 c.syms.2.2.length cr1_11, .string c.com] : List Value).toArray 28] := hS
  have hcl := cells_heap (hS.cell (i := 5) rfl)
  clear y0 y1 y2 y3 y4 y5 y6 y7 y8
  obtain ⟨y0, y1, y2, y3, y4, y5, y6, y7, y8, _⟩ := hcl
  repeat' (first
    | (show W _ _ (.region 2 _ _) _ _ _; apply W.regionI 10 [.is (.pointer (some ⟨gc, 0 + 1 + 1 + 1, none⟩)), .is (rowVal c.outs), prRow 1 encI 3 w2.heap.size c.outs.2.2, .is (.pointer (some ⟨gc, 0 + 1 + 1 + 1 + 1, none⟩)), .is (rowVal c.bads), prRow 1 encI 3 w2.heap.size c.bads.2.2, .is (.pointer (some ⟨gc, 0 + 1 + 1 + 1 + 1 + 1, none⟩)), .is (rowVal c.cons), prRow 1 encI 3 w2.heap.size c.cons.2.2, .is (.pointer (some ⟨gc, 0 + 1 + 1 + 1, none⟩))] tMix; kernel_rfl; exact rfl; kernel_rfl; kernel_rfl; exact rfl; exact rfl)
    | (show OBL _ _ _ _ _ _ _ _; apply OBL.nil)
    | (show OBL _ _ _ _ _ _ 0 _; apply OBL.cons (ds := []); exact rfl; exact rfl; exact rfl; kernel_rfl; intro w8 hw8 rest8)
    | (show OBL _ _ _ _ _ _ 1 _; apply OBL.cons (ds := [0]); exact rfl; exact rfl; exact rfl; kernel_rfl; intro w8 hw8 rest8)
    | (show OBL _ _ _ _ _ _ 2 _; apply OBL.cons (ds := [1]); exact rfl; exact rfl; exact rfl; kernel_rfl; intro w8 hw8 rest8)
    | (show OBL _ _ _ _ _ _ 3 _; apply OBL.cons (ds := []); exact rfl; exact rfl; exact rfl; kernel_rfl; intro w8 hw8 rest8)
    | (show OBL _ _ _ _ _ _ 4 _; apply OBL.cons (ds := [3]); exact rfl; exact rfl; exact rfl; kernel_rfl; intro w8 hw8 rest8)
    | (show OBL _ _ _ _ _ _ 5 _; apply OBL.cons (ds := [4, 2]); exact rfl; exact rfl; exact rfl; kernel_rfl; intro w8 hw8 rest8)
    | (show OBL _ _ _ _ _ _ 6 _; apply OBL.cons (ds := []); exact rfl; exact rfl; exact rfl; kernel_rfl; intro w8 hw8 rest8)
    | (show OBL _ _ _ _ _ _ 7 _; apply OBL.cons (ds := [6]); exact rfl; exact rfl; exact rfl; kernel_rfl; intro w8 hw8 rest8)
    | (show OBL _ _ _ _ _ _ 8 _; apply OBL.cons (ds := [7, 5]); exact rfl; exact rfl; exact rfl; kernel_rfl; intro w8 hw8 rest8)
    | (show OBL _ _ _ _ _ _ 9 _; apply OBL.cons (ds := [0, 1, 2, 3, 4, 6, 7]); exact rfl; exact rfl; exact rfl; kernel_rfl; intro w8 hw8 rest8)
    | (show NO _ _ _ _ _ _ _ _ _ _; first | apply NO.nil | (apply NO.is; exact rfl; exact rfl) | (apply NO.ex; exact rfl; exact rfl; (first | (rintro _ ⟨gl, rfl, hlb, hlge⟩) | (rintro _ ⟨ar, cr, rfl, hOr⟩))))
    | (intro w8 hw8; show NF _ _ _ _ _ _ _ _ _)
    | (show NF _ _ _ _ _ _ _ _ _; first | (apply NF.nilT; intro hap; replace hS := Sep.news [prowZ 1 encI 3 w.heap.size ar2_8 cr2_8 c.cons.2.2, prowZ 1 encI 3 w.heap.size ar2_5 cr2_5 c.bads.2.2, prowZ 1 encI 3 w.heap.size ar2_2 cr2_2 c.outs.2.2] hS hw8 (by rintro q hq; simp only [List.mem_cons, List.not_mem_nil, or_false] at hq; rcases hq with rfl | rfl | rfl <;> exact prowZ_new (by assumption) hw2) (apartS hap) hw2; simp only [List.cons_append, List.nil_append] at hS; have hC8 := hS.cell (i := 8) rfl) | (apply NF.is; exact rfl; exact rfl))
    | (show NF _ _ _ _ _ _ (2 :: _) _ _; apply NF.ex; exact rfl; exact rfl; rintro _ ⟨ar2_2, cr2_2, rfl, hOr2_2⟩)
    | (show NF _ _ _ _ _ _ (5 :: _) _ _; apply NF.ex; exact rfl; exact rfl; rintro _ ⟨ar2_5, cr2_5, rfl, hOr2_5⟩)
    | (show NF _ _ _ _ _ _ (8 :: _) _ _; apply NF.ex; exact rfl; exact rfl; rintro _ ⟨ar2_8, cr2_8, rfl, hOr2_8⟩)
    | (show Z _ _ _ _ _; first | (apply Z.invIs; (exact extA)) | (apply Z.invFresh; (exact extA); (first | omega | exact Below.size (by (exact extA))); assumption))
    | ((show WL _ _ _ (⟨_, .call ⟨.value (.func 139), _, _⟩, _, _, _, _⟩ :: _) _ _ _); apply WL.call; exact rfl; exact rfl; exact rfl; exact rfl; exact slices_CloneI _ _ c.outs.2.2 _ (Ro.ext (by (exact extA))) no (by omega); rintro v' w' ⟨hx, a', cap', rfl, hO⟩)
    | ((show WL _ _ _ (⟨_, .call ⟨.value (.func 139), _, _⟩, _, _, _, _⟩ :: _) _ _ _); apply WL.call; exact rfl; exact rfl; exact rfl; exact rfl; exact slices_CloneI _ _ c.bads.2.2 _ (Rb.ext (by (exact extA))) nb (by omega); rintro v' w' ⟨hx, a', cap', rfl, hO⟩)
    | ((show WL _ _ _ (⟨_, .call ⟨.value (.func 139), _, _⟩, _, _, _, _⟩ :: _) _ _ _); apply WL.call; exact rfl; exact rfl; exact rfl; exact rfl; exact slices_CloneI _ _ c.cons.2.2 _ (Rn.ext (by (exact extA))) nn (by omega); rintro v' w' ⟨hx, a', cap', rfl, hO⟩)
    | (apply WL.storeF (w0 := w) tOk; exact rfl; exact rfl; exact rfl; exact rfl; assumption; (exact extA); exact rfl; exact rfl; exact rfl; exact rfl; (exact extA); (first | assumption | omega | (focus (apply Nat.le_trans; rotate_left; assumption; exact Below.size (by (exact extA))))); intro w' hb hX' hU; replace hS := Sep.updCell (i := 8) rfl hU hb hS (by (exact extA)) (by (first | exact Nat.le_refl _ | exact Below.size (by (exact extA)))); (try simp only [List.set_cons_zero, List.set_cons_succ] at hS); (try have hR0 := hS.row (i := 0) rfl); (try have hR1 := hS.row (i := 1) rfl); (try have hR2 := hS.row (i := 2) rfl); (try have hR3 := hS.row (i := 3) rfl); (try have hR4 := hS.row (i := 4) rfl); (try have hC0 := hS.cell (i := 0) rfl); (try have hD0 := (cells_heap hC0).1); (try have hE0 := (cells_heap hC0).2.1); (try have hF0 := (cells_heap hC0).2.2.1); (try have hG0 := (cells_heap hC0).2.2.2.1); (try have hC1 := hS.cell (i := 1) rfl); (try have hD1 := (cells_heap hC1).1); (try have hE1 := (cells_heap hC1).2.1); (try have hF1 := (cells_heap hC1).2.2.1); (try have hG1 := (cells_heap hC1).2.2.2.1); (try have hC2 := hS.cell (i := 2) rfl); (try have hD2 := (cells_heap hC2).1); (try have hE2 := (cells_heap hC2).2.1); (try have hF2 := (cells_heap hC2).2.2.1); (try have hG2 := (cells_heap hC2).2.2.2.1); (try have hC3 := hS.cell (i := 3) rfl); (try have hD3 := (cells_heap hC3).1); (try have hE3 := (cells_heap hC3).2.1); (try have hF3 := (cells_heap hC3).2.2.1); (try have hG3 := (cells_heap hC3).2.2.2.1); (try have hC4 := hS.cell (i := 4) rfl); (try have hD4 := (cells_heap hC4).1); (try have hE4 := (cells_heap hC4).2.1); (try have hF4 := (cells_heap hC4).2.2.1); (try have hG4 := (cells_heap hC4).2.2.2.1); (try have hM0 := hS.map (i := 0) rfl); (try have hM1 := hS.map (i := 1) rfl); (try have hM2 := hS.map (i := 2) rfl); (try have hM3 := hS.map (i := 3) rfl); (try have hM4 := hS.map (i := 4) rfl))
    | (show WL _ _ _ _ _ _ _; first | apply WL.nil | (refine WL.au (k := ?_)))
    | (show Z _ _ _ _ _; apply Z.then_normal)
    | (show W _ _ _ _ _ _; first | apply W.seq | apply W.region))
  obtain ⟨w3, rfl⟩ : ∃ x, x = w' := ⟨_, rfl⟩
  obtain ⟨d, hd⟩ : ∃ d : Circ, d = ⟨c.max, (ar1_2, cr1_2, c.ins.2.2), (ar1_5, cr1_5, c.lat.2.2), (ar2_2, cr2_2, c.outs.2.2), (ar2_5, cr2_5, c.bads.2.2), (ar2_8, cr2_8, c.cons.2.2), (ar1_8, cr1_8, c.gates.2.2), (ar1_11, cr1_11, c.syms.2.2), c.com⟩ := ⟨_, rfl⟩
  have hS' : Lt.Sep w.heap.size w3 ([prowZ 1 encI 3 w.heap.size ar2_8 cr2_8 c.cons.2.2, prowZ 1 encI 3 w.heap.size ar2_5 cr2_5 c.bads.2.2, prowZ 1 encI 3 w.heap.size ar2_2 cr2_2 c.outs.2.2, prowZ 3 encY 110 w.heap.size ar1_11 cr1_11 c.syms.2.2, prowZ 3 enc3 106 w.heap.size ar1_8 cr1_8 c.gates.2.2, prowZ 3 enc3 69 w.heap.size ar1_5 cr1_5 c.lat.2.2, prowZ 1 encI 3 w.heap.size ar1_2 cr1_2 c.ins.2.2, pcell g2 (Value.cells (.agg #[.int .i64 0, .slice none 0 0, .slice none 0 0, .slice none 0 0, .slice none 0 0, .slice none 0 0, .slice none 0 0, .slice none 0 0, .string ⟨#[]⟩])) 28, pcell gc d.vals.toArray 28]) := by rw [hd]; exact hS
  have hps : d.ps w.heap.size = [prowZ 3 encY 110 w.heap.size ar1_11 cr1_11 c.syms.2.2, prowZ 3 enc3 106 w.heap.size ar1_8 cr1_8 c.gates.2.2, prowZ 3 enc3 69 w.heap.size ar1_5 cr1_5 c.lat.2.2, prowZ 1 encI 3 w.heap.size ar2_8 cr2_8 c.cons.2.2, prowZ 1 encI 3 w.heap.size ar2_5 cr2_5 c.bads.2.2, prowZ 1 encI 3 w.heap.size ar2_2 cr2_2 c.outs.2.2, prowZ 1 encI 3 w.heap.size ar1_2 cr1_2 c.ins.2.2] := by rw [hd]; rfl
  have hcap : CapC d := by
    rw [hd]
    exact ⟨⟨hOr1_2.capLe, hOr1_2.noneCap⟩, ⟨hOr1_5.capLe, hOr1_5.noneCap⟩, ⟨hOr2_2.capLe, hOr2_2.noneCap⟩, ⟨hOr2_5.capLe, hOr2_5.noneCap⟩, ⟨hOr2_8.capLe, hOr2_8.noneCap⟩, ⟨hOr1_8.capLe, hOr1_8.noneCap⟩, ⟨hOr1_11.capLe, hOr1_11.noneCap⟩⟩
  have hdt : d.t = c.t := by rw [hd]
  have hcd : Cells w3 gc 0 d.vals := cells_heap (hS'.cell (i := 8) rfl)
  have hc7 := hS'.cell (i := 7) rfl
  have hg2 : w.heap.size ≤ g2 := (hS'.lt (i := 7) rfl rfl).1
  have hX4 : Ext w w3 := (by (exact extA))
  clear hd
  repeat' (first
    | (apply WL.storeB (w0 := w) tOk; exact rfl; exact rfl; exact rfl; exact rfl; assumption; (exact extA); exact rfl; exact rfl; exact rfl; (exact extA); (first | assumption | omega | (focus (apply Nat.le_trans; rotate_left; assumption; exact Below.size (by (exact extA)); done))); intro w' hb hc hX' hU; have hcc := hc; obtain ⟨h1, h2, _⟩ := hc)
    | (show WL _ _ _ _ _ _ _; first | apply WL.nil | (refine WL.au (k := ?_)))
    | (show Z _ _ _ _ _; apply Z.then_normal)
    | (show W _ _ _ _ _ _; apply W.ret))
  refine Z.bodyC tOk Try.results89 rfl rfl rfl rfl (cells_heap hb) fun m => ⟨Ext.at (by (exact extA)) m, d, rfl, hdt, ⟨?_, hcap⟩⟩
  have hS5 := hS'.updCell (i := 7) rfl hU hb (Ext.refl _) (Below.size hX4)
  rw [hps]
  exact (Sep.perm7 hS5).ext ((Ext.refl _).at m)
end Go.Proofs.Ythpnahapiodflaa
namespace Go.Lt
open Go.RowKit
set_option linter.unusedVariables false
set_option linter.unusedSimpArgs false
section
variable {P : Program} {T : Tab} {N : Nat} {e : Env} {w : World} {Q : Exit → Act → World → Prop} {ops : List Oper} {l : List Oper}
  {tt t el : TypeId} {ps : String} {af : Array Edge} {g : Option (Nat × Bool)} {α : Type} {s : Nat} {enc : α → List Value} {B : Nat} {ei : TI}
theorem take_set_le {β : Type} (L : List β) (k M : Nat) (v : β) (h : k < M) : (L.set k v).take M = (L.take M).set k v := by
  apply List.ext_getElem?
  intro i
  simp only [List.getElem?_take, List.getElem?_set, List.length_take]
  split <;> split <;> (try split) <;> (try rfl) <;> (try omega) <;> simp_all <;> omega
theorem WL.storeOF {x y : Operand} {gb q i cap : Nat} {v u : Value} {xs : List α} {z z' : α} {wo w0 : World} (p r : List Value) (hT : OkTab P T) (hg : gate ops e g = some true)
    (hx : ev e x = some (.pointer (some ⟨gb, q, none⟩))) (hy : ev e y = some v) (ht : tget T t = some ei)
    (ho : Own s enc el B wo (some ⟨gb, 0, none⟩) cap xs) (hwo : Ext wo w) (hq : q = i * s + p.length) (hzo : enc z = p ++ u :: r) (hzn : enc z' = p ++ v :: r) (hv : v.cells.toList = [v]) (hs : ei.size = 1) (hE : Enc s enc) (hz : xs[i]? = some z) (hB : w0.heap.size = B) (hX : Ext w0 w)
    (k : ∀ w', Own s enc el B w' (some ⟨gb, 0, none⟩) cap (xs.set i z') → Ext w0 w' → Upd B (some ⟨gb, 0, none⟩) w w' → WL P N ops.toArray l e w' Q) :
    WL P N ops.toArray (⟨none, .store t x y, tt, ps, af, g⟩ :: l) e w Q := by
  subst hq
  have hi : i < xs.length := (List.getElem?_eq_some_iff.1 hz).1
  have ho' := ho.ext hwo
  have hO := ho'
  rcases ho'.2 with ⟨h1, _⟩ | ⟨g', c', cur, h1, h2, h3, h4, h5, h6, h7⟩
  · simp at h1
  simp only [Value.slice.injEq, Option.some.injEq, Addr.mk.injEq, and_true, true_and] at h1
  obtain ⟨rfl, rfl⟩ := h1
  have hps : p.length < s := by have := hE.len z; rw [hzo] at this; simp at this; omega
  have hvs : v.cells.size = 1 := by have := congrArg List.length hv; simpa using this
  have hle : i * s + s ≤ xs.length * s := by rw [← Nat.succ_mul]; exact Nat.mul_le_mul_right s hi
  have hle2 : xs.length * s ≤ cap * s := Nat.mul_le_mul_right s h4
  have hone : ∀ u ∈ v.cells.toList, u.oneCell' = true := fun u hu => hE.one z' u (by rw [hv] at hu; rw [hzn]; simp at hu; subst hu; simp)
  refine WL.effN (w' := fun m => (at' w m).setRow gb (cur.toList.take (i * s + p.length) ++ v.cells.toList ++ cur.toList.drop (i * s + p.length + v.cells.size)).toArray) hg ?_ (fun m => ?_)
  · intro ρ hρ m
    have hr := run_storeVar' (hT.at ht) gb (i * s + p.length) el cur (at' w m) v h3 (hvs.trans hs.symm) (by rw [hvs, h6]; omega) hone
    simp [execOp, hρ _ _ hx, hρ _ _ hy, Instr.storeAt, Instr.sureAddr, hr]
  · have hU : Upd B (some ⟨gb, 0, none⟩) w ((at' w m).setRow gb (cur.toList.take (i * s + p.length) ++ v.cells.toList ++ cur.toList.drop (i * s + p.length + v.cells.size)).toArray) :=
      ⟨⟨rfl, rfl, rfl, by simp [World.setRow], fun k hk hne => setRow_other (at' w m) gb k _ (fun hh => hne (by rw [hh]; rfl))⟩, fun k hk => (hO.blk_lt k hk).1⟩
    refine k _ ?_ (hU.ext hX (Nat.le_of_eq hB)) hU
    have h8 : cur.toList.length = cap * s := by simpa using h6
    have hcl : i * s + p.length < cur.toList.length := by omega
    have hset : cur.toList.take (i * s + p.length) ++ v.cells.toList ++ cur.toList.drop (i * s + p.length + v.cells.size) = cur.toList.set (i * s + p.length) v := by
      rw [hv, hvs, List.set_eq_take_append_cons_drop, if_pos hcl]; simp
    refine ⟨by rw [length_flatMap' hE.len], .inr ⟨gb, cap, _, rfl, h2, setRow_heap (at' w m) gb cur _ el _ h3, by simpa using h4, h5, ?_, ?_⟩⟩
    · rw [hset]; simp [h6]
    · simp only [List.length_set]
      rw [hset, take_set_le _ _ _ _ (by omega), h7]
      exact set_flatMap' hE.len xs i z z' hz p r u v hzo hzn
end
end Go.Lt
namespace Go.Proofs.Ythpnahapiodflaa
open Go Go.Lt Go.RowKit
set_option linter.unusedVariables false
set_option linter.unusedSimpArgs false
set_option maxRecDepth 20000

theorem Sep.updRowZ {α : Type} {s : Nat} {enc : α → List Value} {el B i cap cap' : Nat} {a a' : Option Addr} {l l' : List α} {w w' w1 : World} {ps : List Piece} (hi : ps[i]? = some (prowZ s enc el B a cap l)) (hl : l ≠ []) (hl' : l' ≠ []) (hU : Upd B a w w') (hO : Own s enc el B w' a' cap' l') (hF : blk a' = blk a ∨ ∃ k, blk a' = some k ∧ w.heap.size ≤ k) (hS : Lt.Sep B w1 ps) (hx : Ext w1 w) (hB : B ≤ w.heap.size) :
    Lt.Sep B w' (ps.set i (prowZ s enc el B a' cap' l')) := by
  refine (hS.ext hx).upd hi (by rw [prowZ_b hl]; exact hU.grown) (fun _ => hO) ?_ hB
  rw [prowZ_b hl, prowZ_b hl']
  exact hF.imp id fun ⟨k, hk, hle⟩ => ⟨k, hk, hle, (hO.blk_lt k hk).2⟩
theorem set_ne {α : Type} {l : List α} {i : Nat} {x : α} (h : l ≠ []) : l.set i x ≠ [] := fun he => h (by have := congrArg List.length he; rw [List.length_set] at this; exact List.eq_nil_of_length_eq_zero this)
theorem rowZ_row2 {α : Type} {s : Nat} {enc : α → List Value} {el B C cap i : Nat} {a : Option Addr} {l : List α} {w : World} {ps : List Piece} (hE : Enc s enc) (hS : Lt.Sep B w ps) (h : ps[i]? = some (prowZ s enc el C a cap l)) : Row s enc w a l := by
  by_cases hl : l = []
  · subst hl; exact Row.nil s enc w a
  · exact ((hS.holds i _ h).1 hl).row hE
end Go.Proofs.Ythpnahapiodflaa
namespace Go.Lt
open Go.RowKit
set_option linter.unusedVariables false
theorem Sep.cons_iff {B : Nat} {w : World} {p : Piece} {ps : List Piece} : Sep B w (p :: ps) ↔ (p.P w ∧ ∀ k, p.b = some k → B ≤ k ∧ k < w.heap.size) ∧ (∀ q ∈ ps, p.b = none ∨ p.b ≠ q.b) ∧ (∀ q ∈ ps, q.b = none ∨ q.b ≠ p.b) ∧ Sep B w ps := by
  constructor
  · intro h
    refine ⟨h.holds 0 p rfl, fun q hq => ?_, fun q hq => ?_, ⟨fun i q hi => h.holds (i + 1) q hi, fun i j q r h1 h2 hne => h.apart (i + 1) (j + 1) q r h1 h2 (by omega)⟩⟩
    · obtain ⟨i, hi⟩ := List.mem_iff_getElem?.1 hq
      exact h.apart 0 (i + 1) p q rfl hi (by omega)
    · obtain ⟨i, hi⟩ := List.mem_iff_getElem?.1 hq
      exact h.apart (i + 1) 0 q p hi rfl (by omega)
  · rintro ⟨h1, h2, h3, h4⟩
    refine ⟨fun i q hi => ?_, fun i j q r hi hj hne => ?_⟩
    · cases i with
      | zero => cases hi; exact h1
      | succ i => exact h4.holds i q hi
    · cases i with
      | zero =>
        cases hi
        cases j with
        | zero => exact absurd rfl hne
        | succ j => exact h2 r (List.mem_of_getElem? (i := j) hj)
      | succ i =>
        cases j with
        | zero => cases hj; exact h3 q (List.mem_of_getElem? (i := i) hi)
        | succ j => exact h4.apart i j q r hi hj (by omega)
theorem Sep.ofPerm {B : Nat} {w : World} {ps qs : List Piece} (hp : ps.Perm qs) : Sep B w ps → Sep B w qs := by
  induction hp with
  | nil => exact id
  | cons x hp ih =>
    intro h
    obtain ⟨h1, h2, h3, h4⟩ := Sep.cons_iff.1 h
    exact Sep.cons_iff.2 ⟨h1, fun q hq => h2 q (hp.mem_iff.2 hq), fun q hq => h3 q (hp.mem_iff.2 hq), ih h4⟩
  | swap x y l =>
    intro h
    obtain ⟨h1, h2, h3, h4⟩ := Sep.cons_iff.1 h
    obtain ⟨k1, k2, k3, k4⟩ := Sep.cons_iff.1 h4
    refine Sep.cons_iff.2 ⟨k1, fun q hq => ?_, fun q hq => ?_, Sep.cons_iff.2 ⟨h1, fun q hq => h2 q (List.mem_cons_of_mem _ hq), fun q hq => h3 q (List.mem_cons_of_mem _ hq), k4⟩⟩
    · rcases List.mem_cons.1 hq with rfl | hq
      · exact h3 x (List.mem_cons_self ..)
      · exact k2 q hq
    · rcases List.mem_cons.1 hq with rfl | hq
      · exact h2 x (List.mem_cons_self ..)
      · exact k3 q hq
  | trans _ _ ih1 ih2 => exact fun h => ih2 (ih1 h)
end Go.Lt
namespace Go.Proofs.Ythpnahapiodflaa
open Go Go.Lt Go.RowKit
set_option linter.unusedVariables false
set_option linter.unusedSimpArgs false
set_option maxRecDepth 20000

/-- A latch in other numbers. -/
noncomputable def latR (A : List Int) (x : T3) : T3 := (litI A x.1, litI A x.2.1, if 1 < x.2.2 then litI A x.1 else x.2.2)
theorem latR_yes {A : List Int} {x : T3} (h : 1 < x.2.2) : latR A x = (litI A x.1, litI A x.2.1, litI A x.1) := by unfold latR; rw [if_pos h]
theorem latR_no {A : List Int} {x : T3} (h : ¬ 1 < x.2.2) : latR A x = (litI A x.1, litI A x.2.1, x.2.2) := by unfold latR; rw [if_neg h]
theorem latR_all {c : CirT} (h : GoodC' c) : c.lat.map (latR (cNet c).2) = (numC c).lat := by
  apply List.ext_getElem?
  intro k
  by_cases hk : k < c.lat.length
  · obtain ⟨x, hx⟩ := getI c.lat hk
    rw [List.getElem?_map, hx, num_lat hx]
    have e := net_own h (seq_lat hx)
    have hr := h.res x (List.mem_of_getElem? hx)
    have ho := h.own x.1 (List.mem_append_left _ (List.mem_append_right _ (List.mem_map.2 ⟨x, List.mem_of_getElem? hx, rfl⟩)))
    show some (latR _ x) = _
    unfold latR
    by_cases h1 : x.2.2 = x.1
    · rw [if_pos h1, if_pos (by omega), e]
    · rw [if_neg h1, if_neg (by omega), e]
  · rw [List.getElem?_eq_none (by rw [List.length_map]; omega), List.getElem?_eq_none (by rw [num_latlen]; omega)]
set_option maxHeartbeats 32000000 in
theorem ref16_Number (c : Circ) (w : World) (hC : CAt w c) (hg : GoodC' c.t) (hz : SzC c.t 100000) :
    Lt.Spec Try.prog 31 [c.val] w (fun v w' => Ext w w' ∧ ∃ (d : Circ) (aa : Option Addr) (ca : Nat), v = .tuple #[d.val, .slice aa (cNet c.t).2.length ca] ∧ d.t = numC c.t ∧ CAt w' d ∧ Row 1 encI w' aa (cNet c.t).2) := by
  have z1 : c.ins.2.2.length ≤ 100000 := hz.1
  have z2 : c.lat.2.2.length ≤ 100000 := hz.2.1
  have z6 : c.gates.2.2.length ≤ 100000 := hz.2.2.2.2.2
  have hm : 0 ≤ c.max ∧ c.max ≤ 16777216 := hg.max
  have hown : ∀ x ∈ c.t.own, 2 ≤ x ∧ x % 2 = 0 ∧ x ≤ 2 * c.max := hg.own
  have hused : ∀ x ∈ c.t.used, 0 ≤ x ∧ x ≤ 2 * c.max + 1 := hg.used
  have hgm : ∀ g ∈ c.gates.2.2, g.1 ∈ c.t.own ∧ g.2.1 ∈ c.t.used ∧ g.2.2 ∈ c.t.used := fun g hg =>
    ⟨List.mem_append.2 (.inr (List.mem_map.2 ⟨g, hg, rfl⟩)), List.mem_append.2 (.inr (List.mem_flatMap.2 ⟨g, hg, by simp⟩)), List.mem_append.2 (.inr (List.mem_flatMap.2 ⟨g, hg, by simp⟩))⟩
  have hok : gsOk c.gates.2.2 := fun g hg => by
    obtain ⟨r1, r2, r3⟩ := hgm g hg
    have := hown _ r1
    have := hused _ r2
    have := hused _ r3
    omega
  refine Spec.of _ Try.func31 rfl Try.ntmps31 (by kernel_rfl) rfl ?_
  repeat' (first
    | (apply WL.box; exact rfl; exact rfl; exact rfl; intro gb w' hb hge hc hx; have hcc := hc; (first | (obtain ⟨h1, h2, h3, _⟩ := hc) | (obtain ⟨h1, h2, _⟩ := hc)); (have hcells := hcc; obtain ⟨gc, rfl⟩ : ∃ x, x = gb := ⟨_, rfl⟩; obtain ⟨wc, rfl⟩ : ∃ x, x = w' := ⟨_, rfl⟩; obtain ⟨hxc, rfl⟩ : ∃ x, x = hx := ⟨_, rfl⟩))
    | (apply WL.alloc tOk; exact rfl; exact rfl; exact rfl; intro gb w' hb hge hx; (obtain ⟨g2, rfl⟩ : ∃ x, x = gb := ⟨_, rfl⟩; obtain ⟨w2, rfl⟩ : ∃ x, x = w' := ⟨_, rfl⟩; obtain ⟨hx2, rfl⟩ : ∃ x, x = hx := ⟨_, rfl⟩; obtain ⟨hb2, rfl⟩ : ∃ x, x = hb := ⟨_, rfl⟩; obtain ⟨hge2, rfl⟩ : ∃ x, x = hge := ⟨_, rfl⟩))
    | (apply WL.lit tOk; exact rfl; exact rfl; exact rfl; exact rfl; exact rfl; exact rfl; (first | exact rfl | kernel_rfl | (simp [Instr.fill, catCells]; done)); exact rfl; intro gb w' hb hge hc hx; have hO := Own.of_block ([(0 : Int)]) encI_ok hb hge rfl; (obtain ⟨g0, rfl⟩ : ∃ x, x = gb := ⟨_, rfl⟩; obtain ⟨w3, rfl⟩ : ∃ x, x = w' := ⟨_, rfl⟩; obtain ⟨hx3, rfl⟩ : ∃ x, x = hx := ⟨_, rfl⟩; obtain ⟨hO3, rfl⟩ : ∃ x, x = hO := ⟨_, rfl⟩))
    | ((show WL _ _ _ (⟨_, .call ⟨.value (.func 90), _, _⟩, _, _, _, _⟩ :: _) _ _ _); apply WL.call; exact rfl; exact rfl; exact rfl; exact rfl; exact ref11_Order c _ (hC.gates.row.ext (by (exact extA))) hok (by omega); rintro v' w' ⟨hx, a', cap', rfl, hO⟩; (obtain ⟨ad, rfl⟩ : ∃ x, x = a' := ⟨_, rfl⟩; obtain ⟨cd, rfl⟩ : ∃ x, x = cap' := ⟨_, rfl⟩; obtain ⟨w4, rfl⟩ : ∃ x, x = w' := ⟨_, rfl⟩; obtain ⟨hx4, rfl⟩ : ∃ x, x = hx := ⟨_, rfl⟩; obtain ⟨hO4, rfl⟩ : ∃ x, x = hO := ⟨_, rfl⟩))
    | (show WL _ _ _ _ _ _ _; first | apply WL.nil | (refine WL.au (k := ?_)))
    | (show Z _ _ _ _ _; apply Z.then_normal)
    | (show W _ _ _ _ _ _; first | apply W.seq | apply W.region | apply W.block))
  obtain ⟨zC, hzC⟩ : ∃ z : Array Value, z = Value.cells (.agg #[.int .i64 0, .slice none 0 0, .slice none 0 0, .slice none 0 0, .slice none 0 0, .slice none 0 0, .slice none 0 0, .slice none 0 0, .string ⟨#[]⟩]) := ⟨_, rfl⟩
  have hb2' : w2.heap[g2]? = some (.cells zC 28 (0, 0)) := by rw [hzC]; exact hb2
  clear hb2
  have hS2 : Lt.Sep wc.heap.size w2 [pcell g2 zC 28] := Sep.newCell Sep.none' hx2 hb2' hge2 (Nat.le_refl _)
  have hX23 : Ext wc w3 := hx2.trans hx3
  have hS3 : Lt.Sep wc.heap.size w3 [prow 1 encI 3 wc.heap.size (some ⟨g0, 0, none⟩) 1 [(0 : Int)], pcell g2 zC 28] := hS2.newRow' hx3 hO3 (Below.size hx2)
  obtain ⟨OL, hOL⟩ : ∃ L, L = natI (ordL c.gates.2.2) := ⟨_, rfl⟩
  rw [← hOL] at hO4 ⊢
  have hS : Lt.Sep wc.heap.size w4 [prow 1 encI 3 wc.heap.size ad cd OL, prow 1 encI 3 wc.heap.size (some ⟨g0, 0, none⟩) 1 [(0 : Int)], pcell g2 zC 28] := hS3.newRow' hx4 hO4 (Below.size hX23)
  have hX4 : Ext wc w4 := hX23.trans hx4
  clear hS2 hS3 hO3 hO4
  refine W.loopO c.max.toNat (fun k d dp w' => k ≤ c.max.toNat ∧ Ext wc w' ∧ Lt.Sep wc.heap.size w' [prow 1 encI 3 wc.heap.size ad cd OL, prow 1 encI 3 wc.heap.size d dp (0 :: List.replicate k (-1 : Int)), pcell g2 zC 28]) (fun k d dp => [(1, .pointer (some ⟨gc, 0, none⟩)), (2, .pointer (some ⟨g2, 0, none⟩)), (4, .slice d (0 :: List.replicate k (-1 : Int)).length dp), (5, .int .i64 0), (6, .slice ad OL.length cd), (7, .int .i64 ((k : Int) + 1))]) (some ⟨g0, 0, none⟩) 1 ⟨Nat.zero_le _, hX4, hS⟩ (fun k d dp w' h => h.1) ⟨rfl, rfl, rfl, rfl, rfl, rfl, trivial⟩ ?_
  clear hS hX4
  rintro k d dp w5 ⟨hk, hX5, hS⟩
  have hlk : (0 :: List.replicate k (-1 : Int)).length = k + 1 := by simp
  have hR1 := hS.row (i := 1) rfl
  have hcw := hcells.ext hX5
  obtain ⟨y0, y1, y2, y3, y4, y5, y6, _⟩ := hcw
  by_cases hlt : k < c.max.toNat
  · repeat' (first
      | (show WL _ _ _ _ _ _ _; first | apply WL.nil | (refine WL.au (k := ?_)))
      | (show Z _ _ _ _ _; apply Z.then_normal)
      | (show W _ _ _ _ _ _; first | apply W.seq | apply W.region))
    refine W.condKT rfl (dec_true (by omega)) ?_
    repeat' (first
      | (apply WL.lit tOk; exact rfl; exact rfl; exact rfl; exact rfl; exact rfl; exact rfl; (first | exact rfl | kernel_rfl | (simp [Instr.fill, catCells]; done)); exact rfl; intro gb w' hb hge hc hx)
      | (apply WL.append1 (z := ((-1 : Int))) tOk encI_ok; exact rfl; exact rfl; exact rfl; exact rfl; exact rfl; exact rfl; exact rfl; exact rfl; exact rfl; exact rfl; assumption; (exact extA); (first | exact rfl | (focus (simp only [List.length_set]; done)) | (focus (simp; done)) | (focus (simp [*]; done)) | omega | (focus (simp only [List.length_set]; omega))); (first | assumption | (refine Cells.ext ?_ (by assumption); exact extA)); exact rfl; exact rfl; (exact extA); (first | omega | (simp; omega) | (simp at *; omega)); intro a' cap' w' hO hX' hU hF; (first | replace hS := Sep.updRow (i := 0) rfl hU hO hF hS (by (exact extA)) (by (first | exact Nat.le_refl _ | exact Below.size (by (exact extA)))) | replace hS := Sep.updRow (i := 1) rfl hU hO hF hS (by (exact extA)) (by (first | exact Nat.le_refl _ | exact Below.size (by (exact extA)))) | replace hS := Sep.updRow (i := 2) rfl hU hO hF hS (by (exact extA)) (by (first | exact Nat.le_refl _ | exact Below.size (by (exact extA)))) | replace hS := Sep.updRow (i := 3) rfl hU hO hF hS (by (exact extA)) (by (first | exact Nat.le_refl _ | exact Below.size (by (exact extA)))) | replace hS := Sep.updRow (i := 4) rfl hU hO hF hS (by (exact extA)) (by (first | exact Nat.le_refl _ | exact Below.size (by (exact extA)))) | replace hS := Sep.updRow (i := 5) rfl hU hO hF hS (by (exact extA)) (by (first | exact Nat.le_refl _ | exact Below.size (by (exact extA))))); (try simp only [List.set_cons_zero, List.set_cons_succ] at hS); (try have hR0 := hS.row (i := 0) rfl); (try have hR1 := hS.row (i := 1) rfl); (try have hR2 := hS.row (i := 2) rfl); (try have hR3 := hS.row (i := 3) rfl); (try have hR4 := hS.row (i := 4) rfl); (try have hC0 := hS.cell (i := 0) rfl); (try have hD0 := (cells_heap hC0).1); (try have hE0 := (cells_heap hC0).2.1); (try have hF0 := (cells_heap hC0).2.2.1); (try have hG0 := (cells_heap hC0).2.2.2.1); (try have hC1 := hS.cell (i := 1) rfl); (try have hD1 := (cells_heap hC1).1); (try have hE1 := (cells_heap hC1).2.1); (try have hF1 := (cells_heap hC1).2.2.1); (try have hG1 := (cells_heap hC1).2.2.2.1); (try have hC2 := hS.cell (i := 2) rfl); (try have hD2 := (cells_heap hC2).1); (try have hE2 := (cells_heap hC2).2.1); (try have hF2 := (cells_heap hC2).2.2.1); (try have hG2 := (cells_heap hC2).2.2.2.1); (try have hC3 := hS.cell (i := 3) rfl); (try have hD3 := (cells_heap hC3).1); (try have hE3 := (cells_heap hC3).2.1); (try have hF3 := (cells_heap hC3).2.2.1); (try have hG3 := (cells_heap hC3).2.2.2.1); (try have hC4 := hS.cell (i := 4) rfl); (try have hD4 := (cells_heap hC4).1); (try have hE4 := (cells_heap hC4).2.1); (try have hF4 := (cells_heap hC4).2.2.1); (try have hG4 := (cells_heap hC4).2.2.2.1); (try have hM0 := hS.map (i := 0) rfl); (try have hM1 := hS.map (i := 1) rfl); (try have hM2 := hS.map (i := 2) rfl); (try have hM3 := hS.map (i := 3) rfl); (try have hM4 := hS.map (i := 4) rfl))
      | (show WL _ _ _ _ _ _ _; first | apply WL.nil | (refine WL.au (k := ?_)))
      | (show Z _ _ _ _ _; first | apply Z.then_normal | apply Z.block_normal)
      | (show W _ _ _ _ _ _; first | apply W.seq | apply W.region | apply W.block | apply W.skip))
    exact Z.againO a' cap' ⟨by omega, (by (exact extA)), by rw [← at_snoc]; exact hS⟩ ⟨rfl, rfl, by rw [← at_snoc]; exact rfl, rfl, rfl, rfl, trivial⟩
  obtain rfl : k = c.max.toNat := by omega
  repeat' (first
    | (show WL _ _ _ _ _ _ _; first | apply WL.nil | (refine WL.au (k := ?_)))
    | (show Z _ _ _ _ _; apply Z.then_normal)
    | (show W _ _ _ _ _ _; first | apply W.seq | apply W.region))
  refine W.condKF rfl (dec_false (by omega)) ?_
  repeat' (first
    | (show WL _ _ _ _ _ _ _; first | apply WL.nil | (refine WL.au (k := ?_)))
    | (show Z _ _ _ _ _; first | apply Z.then_normal | apply Z.then_exit | apply Z.block_exit)
    | (show W _ _ _ _ _ _; first | apply W.seq | apply W.region | apply W.block | apply W.exit))
  have hown1 : ∀ x ∈ c.ins.2.2, 2 ≤ x ∧ x % 2 = 0 ∧ x ≤ 2 * c.max := fun x hx => hown x (List.mem_append_left _ (List.mem_append_left _ hx))
  have hown2 : ∀ x ∈ c.lat.2.2, 2 ≤ x.1 ∧ x.1 % 2 = 0 ∧ x.1 ≤ 2 * c.max := fun x hx => hown x.1 (List.mem_append_left _ (List.mem_append_right _ (List.mem_map.2 ⟨x, hx, rfl⟩)))
  have e10 : (cS1 c.t 0).2 = 0 :: List.replicate c.max.toNat (-1 : Int) := by rw [cS1_0]; rfl
  have Ri := hC.ins.row.ext hxc
  have Rl := hC.lat.row.ext hxc
  have Rg := hC.gates.row.ext hxc
  refine W.loopW c.ins.2.2.length (fun k w' => k ≤ c.ins.2.2.length ∧ Ext wc w' ∧ Lt.Sep wc.heap.size w' [prow 1 encI 3 wc.heap.size ad cd OL, prow 1 encI 3 wc.heap.size d dp (cS1 c.t k).2, pcell g2 zC 28]) (fun k => [(1, .pointer (some ⟨gc, 0, none⟩)), (2, .pointer (some ⟨g2, 0, none⟩)), (4, .slice d (c.max.toNat + 1) dp), (5, .int .i64 k), (6, .slice ad OL.length cd), (8, .int .i64 k)]) ⟨Nat.zero_le _, hX5, by rw [e10]; exact hS⟩ (fun k w' h => h.1) ⟨rfl, rfl, congrArg (fun z => some (Value.slice d z dp)) hlk, rfl, rfl, rfl, trivial⟩ ?_
  clear hS hR1 hX5 hlt hk y0 y1 y2 y3 y4 y5 y6 hlk
  rintro k w6 ⟨hk, hX6, hS⟩
  have hl1 : (cS1 c.t k).1.length = k ∧ (cS1 c.t k).2.length = c.max.toNat + 1 := cS1_len c.t hk
  have hl2 := hl1.2
  have hR1 := hS.row (i := 1) rfl
  obtain ⟨y0, y1, y2, y3, y4, y5, y6, _⟩ := hcells.ext hX6
  have Ri6 := Ri.ext hX6
  by_cases hlt : k < c.ins.2.2.length
  · obtain ⟨x, hgx⟩ := getI c.ins.2.2 hlt
    have hxo := hown1 x (List.mem_of_getElem? hgx)
    have e1 : (cS1 c.t (k + 1)).2 = (cS1 c.t k).2.set (x / 2).toNat (2 * ((k : Int) + 1)) := by rw [cS1_s (c := c.t) hgx]; unfold cput; rw [hl1.1]
    obtain ⟨yv, hgy⟩ := getI (cS1 c.t k).2 (show (x / 2).toNat < _ by omega)
    repeat' (first
      | (show WL _ _ _ _ _ _ _; first | apply WL.nil | (refine WL.au (k := ?_)))
      | (show Z _ _ _ _ _; apply Z.then_normal)
      | (show W _ _ _ _ _ _; first | apply W.seq | apply W.region))
    refine W.condKT rfl (dec_true (by omega)) ?_
    repeat' (first
      | (apply WL.storeO (z' := (2 * ((k : Int) + 1))) tOk; exact rfl; exact rfl; exact rfl; exact rfl; assumption; (exact extA); exact rfl; exact rfl; exact rfl; exact encI_ok; assumption; exact rfl; (exact extA); intro w' hO hX' hU; (first | replace hS := Sep.updRow (i := 0) rfl hU hO (.inl rfl) hS (by (exact extA)) (by (first | exact Nat.le_refl _ | exact Below.size (by (exact extA)))) | replace hS := Sep.updRow (i := 1) rfl hU hO (.inl rfl) hS (by (exact extA)) (by (first | exact Nat.le_refl _ | exact Below.size (by (exact extA)))) | replace hS := Sep.updRow (i := 2) rfl hU hO (.inl rfl) hS (by (exact extA)) (by (first | exact Nat.le_refl _ | exact Below.size (by (exact extA)))) | replace hS := Sep.updRow (i := 3) rfl hU hO (.inl rfl) hS (by (exact extA)) (by (first | exact Nat.le_refl _ | exact Below.size (by (exact extA)))) | replace hS := Sep.updRow (i := 4) rfl hU hO (.inl rfl) hS (by (exact extA)) (by (first | exact Nat.le_refl _ | exact Below.size (by (exact extA)))) | replace hS := Sep.updRow (i := 5) rfl hU hO (.inl rfl) hS (by (exact extA)) (by (first | exact Nat.le_refl _ | exact Below.size (by (exact extA))))); (try simp only [List.set_cons_zero, List.set_cons_succ] at hS); (try have hR0 := hS.row (i := 0) rfl); (try have hR1 := hS.row (i := 1) rfl); (try have hR2 := hS.row (i := 2) rfl); (try have hR3 := hS.row (i := 3) rfl); (try have hR4 := hS.row (i := 4) rfl); (try have hC0 := hS.cell (i := 0) rfl); (try have hD0 := (cells_heap hC0).1); (try have hE0 := (cells_heap hC0).2.1); (try have hF0 := (cells_heap hC0).2.2.1); (try have hG0 := (cells_heap hC0).2.2.2.1); (try have hC1 := hS.cell (i := 1) rfl); (try have hD1 := (cells_heap hC1).1); (try have hE1 := (cells_heap hC1).2.1); (try have hF1 := (cells_heap hC1).2.2.1); (try have hG1 := (cells_heap hC1).2.2.2.1); (try have hC2 := hS.cell (i := 2) rfl); (try have hD2 := (cells_heap hC2).1); (try have hE2 := (cells_heap hC2).2.1); (try have hF2 := (cells_heap hC2).2.2.1); (try have hG2 := (cells_heap hC2).2.2.2.1); (try have hC3 := hS.cell (i := 3) rfl); (try have hD3 := (cells_heap hC3).1); (try have hE3 := (cells_heap hC3).2.1); (try have hF3 := (cells_heap hC3).2.2.1); (try have hG3 := (cells_heap hC3).2.2.2.1); (try have hC4 := hS.cell (i := 4) rfl); (try have hD4 := (cells_heap hC4).1); (try have hE4 := (cells_heap hC4).2.1); (try have hF4 := (cells_heap hC4).2.2.1); (try have hG4 := (cells_heap hC4).2.2.2.1); (try have hM0 := hS.map (i := 0) rfl); (try have hM1 := hS.map (i := 1) rfl); (try have hM2 := hS.map (i := 2) rfl); (try have hM3 := hS.map (i := 3) rfl); (try have hM4 := hS.map (i := 4) rfl))
      | (apply WL.indexO tOk; exact rfl; exact rfl; exact rfl; exact rfl; exact rfl; exact rfl; exact rfl; exact rfl; assumption; (exact extA); exact encI_ok; (first | exact rfl | (focus (simp only [List.length_set]; done)) | (focus (simp; done)) | (focus (simp [*]; done)) | omega | (focus (simp only [List.length_set]; omega))); omega; assumption; intro gb ha hc; cases ha; have hcc := hc; first | (obtain ⟨h1, h2, h3, _⟩ := hc) | (obtain ⟨h1, h2, _⟩ := hc) | (obtain ⟨h1, _⟩ := hc))
      | (show WL _ _ _ _ _ _ _; first | apply WL.nil | (refine WL.au (k := ?_)) | (apply WL.index tOk; exact rfl; exact rfl; exact rfl; exact rfl; exact rfl; exact rfl; exact rfl; exact rfl; assumption; (exact extA); exact rfl; omega; assumption; intro b off h; have hcc := h; first | (obtain ⟨h1, h2, h3, h4, h5, h6, _⟩ := h) | (obtain ⟨h1, h2, h3, _⟩ := h) | (obtain ⟨h1, h2, _⟩ := h) | (obtain ⟨h1, _⟩ := h)))
      | (show Z _ _ _ _ _; first | apply Z.then_normal | apply Z.block_normal)
      | (show W _ _ _ _ _ _; first | apply W.seq | apply W.region | apply W.block | apply W.skip))
    exact Z.againW ⟨by omega, (by (exact extA)), by rw [e1]; exact hS⟩ ⟨rfl, rfl, rfl, rfl, rfl, rfl, trivial⟩
  obtain rfl : k = c.ins.2.2.length := by omega
  repeat' (first
    | (show WL _ _ _ _ _ _ _; first | apply WL.nil | (refine WL.au (k := ?_)))
    | (show Z _ _ _ _ _; apply Z.then_normal)
    | (show W _ _ _ _ _ _; first | apply W.seq | apply W.region))
  refine W.condKF rfl (dec_false (by omega)) ?_
  repeat' (first
    | (show WL _ _ _ _ _ _ _; first | apply WL.nil | (refine WL.au (k := ?_)))
    | (show Z _ _ _ _ _; first | apply Z.then_normal | apply Z.then_exit | apply Z.block_exit)
    | (show W _ _ _ _ _ _; first | apply W.seq | apply W.region | apply W.block | apply W.exit))
  have e20 : cS2 c.t 0 = cS1 c.t c.ins.2.2.length := cS2_0 c.t
  refine W.loopW c.lat.2.2.length (fun k w' => k ≤ c.lat.2.2.length ∧ Ext wc w' ∧ Lt.Sep wc.heap.size w' [prow 1 encI 3 wc.heap.size ad cd OL, prow 1 encI 3 wc.heap.size d dp (cS2 c.t k).2, pcell g2 zC 28]) (fun k => [(1, .pointer (some ⟨gc, 0, none⟩)), (2, .pointer (some ⟨g2, 0, none⟩)), (4, .slice d (c.max.toNat + 1) dp), (5, .int .i64 ((c.ins.2.2.length : Int) + k)), (6, .slice ad OL.length cd), (9, .int .i64 k)]) ⟨Nat.zero_le _, hX6, by rw [e20]; exact hS⟩ (fun k w' h => h.1) ⟨rfl, rfl, rfl, congrArg (fun z => some (Value.int .i64 z)) (by simp), rfl, rfl, trivial⟩ ?_
  clear hS hR1 hX6 hlt hk y0 y1 y2 y3 y4 y5 y6 hl1 hl2
  rintro k w6 ⟨hk, hX6, hS⟩
  have hl1 : (cS2 c.t k).1.length = c.ins.2.2.length + k ∧ (cS2 c.t k).2.length = c.max.toNat + 1 := cS2_len c.t hk
  have hl2 := hl1.2
  have hR1 := hS.row (i := 1) rfl
  obtain ⟨y0, y1, y2, y3, y4, y5, y6, _⟩ := hcells.ext hX6
  have Rl6 := Rl.ext hX6
  by_cases hlt : k < c.lat.2.2.length
  · obtain ⟨x, hgx⟩ := getI c.lat.2.2 hlt
    have hxo := hown2 x (List.mem_of_getElem? hgx)
    have e1 : (cS2 c.t (k + 1)).2 = (cS2 c.t k).2.set (x.1 / 2).toNat (2 * (((c.ins.2.2.length : Int) + k) + 1)) := by rw [cS2_s (c := c.t) hgx]; unfold cput; rw [hl1.1]; rfl
    obtain ⟨yv, hgy⟩ := getI (cS2 c.t k).2 (show (x.1 / 2).toNat < _ by omega)
    repeat' (first
      | (show WL _ _ _ _ _ _ _; first | apply WL.nil | (refine WL.au (k := ?_)))
      | (show Z _ _ _ _ _; apply Z.then_normal)
      | (show W _ _ _ _ _ _; first | apply W.seq | apply W.region))
    refine W.condKT rfl (dec_true (by omega)) ?_
    repeat' (first
      | (apply WL.storeO (z' := (2 * (((c.ins.2.2.length : Int) + k) + 1))) tOk; exact rfl; exact rfl; exact rfl; exact rfl; assumption; (exact extA); exact rfl; exact rfl; exact rfl; exact encI_ok; assumption; exact rfl; (exact extA); intro w' hO hX' hU; (first | replace hS := Sep.updRow (i := 0) rfl hU hO (.inl rfl) hS (by (exact extA)) (by (first | exact Nat.le_refl _ | exact Below.size (by (exact extA)))) | replace hS := Sep.updRow (i := 1) rfl hU hO (.inl rfl) hS (by (exact extA)) (by (first | exact Nat.le_refl _ | exact Below.size (by (exact extA)))) | replace hS := Sep.updRow (i := 2) rfl hU hO (.inl rfl) hS (by (exact extA)) (by (first | exact Nat.le_refl _ | exact Below.size (by (exact extA)))) | replace hS := Sep.updRow (i := 3) rfl hU hO (.inl rfl) hS (by (exact extA)) (by (first | exact Nat.le_refl _ | exact Below.size (by (exact extA)))) | replace hS := Sep.updRow (i := 4) rfl hU hO (.inl rfl) hS (by (exact extA)) (by (first | exact Nat.le_refl _ | exact Below.size (by (exact extA)))) | replace hS := Sep.updRow (i := 5) rfl hU hO (.inl rfl) hS (by (exact extA)) (by (first | exact Nat.le_refl _ | exact Below.size (by (exact extA))))); (try simp only [List.set_cons_zero, List.set_cons_succ] at hS); (try have hR0 := hS.row (i := 0) rfl); (try have hR1 := hS.row (i := 1) rfl); (try have hR2 := hS.row (i := 2) rfl); (try have hR3 := hS.row (i := 3) rfl); (try have hR4 := hS.row (i := 4) rfl); (try have hC0 := hS.cell (i := 0) rfl); (try have hD0 := (cells_heap hC0).1); (try have hE0 := (cells_heap hC0).2.1); (try have hF0 := (cells_heap hC0).2.2.1); (try have hG0 := (cells_heap hC0).2.2.2.1); (try have hC1 := hS.cell (i := 1) rfl); (try have hD1 := (cells_heap hC1).1); (try have hE1 := (cells_heap hC1).2.1); (try have hF1 := (cells_heap hC1).2.2.1); (try have hG1 := (cells_heap hC1).2.2.2.1); (try have hC2 := hS.cell (i := 2) rfl); (try have hD2 := (cells_heap hC2).1); (try have hE2 := (cells_heap hC2).2.1); (try have hF2 := (cells_heap hC2).2.2.1); (try have hG2 := (cells_heap hC2).2.2.2.1); (try have hC3 := hS.cell (i := 3) rfl); (try have hD3 := (cells_heap hC3).1); (try have hE3 := (cells_heap hC3).2.1); (try have hF3 := (cells_heap hC3).2.2.1); (try have hG3 := (cells_heap hC3).2.2.2.1); (try have hC4 := hS.cell (i := 4) rfl); (try have hD4 := (cells_heap hC4).1); (try have hE4 := (cells_heap hC4).2.1); (try have hF4 := (cells_heap hC4).2.2.1); (try have hG4 := (cells_heap hC4).2.2.2.1); (try have hM0 := hS.map (i := 0) rfl); (try have hM1 := hS.map (i := 1) rfl); (try have hM2 := hS.map (i := 2) rfl); (try have hM3 := hS.map (i := 3) rfl); (try have hM4 := hS.map (i := 4) rfl))
      | (apply WL.indexO tOk; exact rfl; exact rfl; exact rfl; exact rfl; exact rfl; exact rfl; exact rfl; exact rfl; assumption; (exact extA); exact encI_ok; (first | exact rfl | (focus (simp only [List.length_set]; done)) | (focus (simp; done)) | (focus (simp [*]; done)) | omega | (focus (simp only [List.length_set]; omega))); omega; assumption; intro gb ha hc; cases ha; have hcc := hc; first | (obtain ⟨h1, h2, h3, _⟩ := hc) | (obtain ⟨h1, h2, _⟩ := hc) | (obtain ⟨h1, _⟩ := hc))
      | (show WL _ _ _ _ _ _ _; first | apply WL.nil | (refine WL.au (k := ?_)) | (apply WL.index tOk; exact rfl; exact rfl; exact rfl; exact rfl; exact rfl; exact rfl; exact rfl; exact rfl; assumption; (exact extA); exact rfl; omega; assumption; intro b off h; have hcc := h; first | (obtain ⟨h1, h2, h3, h4, h5, h6, _⟩ := h) | (obtain ⟨h1, h2, h3, _⟩ := h) | (obtain ⟨h1, h2, _⟩ := h) | (obtain ⟨h1, _⟩ := h)))
      | (show Z _ _ _ _ _; first | apply Z.then_normal | apply Z.block_normal)
      | (show W _ _ _ _ _ _; first | apply W.seq | apply W.region | apply W.block | apply W.skip))
    exact Z.againW ⟨by omega, (by (exact extA)), by rw [e1]; exact hS⟩ ⟨rfl, rfl, rfl, congrArg (fun z => some (Value.int .i64 z)) (by simp; omega), rfl, rfl, trivial⟩
  obtain rfl : k = c.lat.2.2.length := by omega
  repeat' (first
    | (show WL _ _ _ _ _ _ _; first | apply WL.nil | (refine WL.au (k := ?_)))
    | (show Z _ _ _ _ _; apply Z.then_normal)
    | (show W _ _ _ _ _ _; first | apply W.seq | apply W.region))
  refine W.condKF rfl (dec_false (by omega)) ?_
  repeat' (first
    | (show WL _ _ _ _ _ _ _; first | apply WL.nil | (refine WL.au (k := ?_)))
    | (show Z _ _ _ _ _; first | apply Z.then_normal | apply Z.then_exit | apply Z.block_exit)
    | (show W _ _ _ _ _ _; first | apply W.seq | apply W.region | apply W.block | apply W.exit))
  have e30 : cS3 c.t 0 = cS2 c.t c.lat.2.2.length := cS3_0 c.t
  have hnl : OL.length = (ordL c.gates.2.2).length := by rw [hOL]; simp [natI]
  have hol : (ordL c.gates.2.2).length ≤ c.gates.2.2.length := (ordL_is c.gates.2.2).1.le
  refine W.loopW (ordL c.gates.2.2).length (fun k w' => k ≤ (ordL c.gates.2.2).length ∧ Ext wc w' ∧ Lt.Sep wc.heap.size w' [prow 1 encI 3 wc.heap.size ad cd OL, prow 1 encI 3 wc.heap.size d dp (cS3 c.t k).2, pcell g2 zC 28]) (fun k => [(1, .pointer (some ⟨gc, 0, none⟩)), (2, .pointer (some ⟨g2, 0, none⟩)), (4, .slice d (c.max.toNat + 1) dp), (5, .int .i64 ((c.ins.2.2.length : Int) + c.lat.2.2.length + k)), (6, .slice ad OL.length cd), (10, .int .i64 k)]) ⟨Nat.zero_le _, hX6, by rw [e30]; exact hS⟩ (fun k w' h => h.1) ⟨rfl, rfl, rfl, congrArg (fun z => some (Value.int .i64 z)) (by simp), rfl, rfl, trivial⟩ ?_
  clear hS hR1 hX6 hlt hk y0 y1 y2 y3 y4 y5 y6 hl1 hl2
  rintro k w6 ⟨hk, hX6, hS⟩
  have hl1 : (cS3 c.t k).1.length = c.ins.2.2.length + c.lat.2.2.length + k ∧ (cS3 c.t k).2.length = c.max.toNat + 1 := cS3_len c.t hk
  have hl2 := hl1.2
  have hR0 := hS.row (i := 0) rfl
  have hR1 := hS.row (i := 1) rfl
  obtain ⟨y0, y1, y2, y3, y4, y5, y6, _⟩ := hcells.ext hX6
  have Rg6 := Rg.ext hX6
  have RO := hR0.row encI_ok
  by_cases hlt : k < (ordL c.gates.2.2).length
  · obtain ⟨i, hi⟩ := getI (ordL c.gates.2.2) hlt
    obtain ⟨g, za, zb, hgg, hza, hzb, ka, kb⟩ := cS3_get hg (c := c.t) hi
    have hgg : c.gates.2.2[i]? = some g := hgg
    have hgo := hok g (List.mem_of_getElem? hgg)
    have hgw := hown g.1 (hgm g (List.mem_of_getElem? hgg)).1
    have hgl := lt_of_get hgg
    have hni : OL[((k : Nat) : Int).toNat]? = some (i : Int) := by rw [Int.toNat_natCast, hOL, natI, List.getElem?_map, hi]; rfl
    have hgi : c.gates.2.2[((i : Nat) : Int).toNat]? = some g := by rw [Int.toNat_natCast]; exact hgg
    have e1 : (cS3 c.t (k + 1)).2 = (cS3 c.t k).2.set (g.1 / 2).toNat (2 * (((c.ins.2.2.length : Int) + c.lat.2.2.length + k) + 1)) := by rw [cS3_s (c := c.t) hi]; unfold cGate cput; rw [gAt_of hgg, hl1.1]; rfl
    obtain ⟨yv, hgy⟩ := getI (cS3 c.t k).2 (show (g.1 / 2).toNat < _ by omega)
    repeat' (first
      | (show WL _ _ _ _ _ _ _; first | apply WL.nil | (refine WL.au (k := ?_)))
      | (show Z _ _ _ _ _; apply Z.then_normal)
      | (show W _ _ _ _ _ _; first | apply W.seq | apply W.region))
    refine W.condKT rfl (dec_true (by omega)) ?_
    repeat' (first
      | (show WL _ _ _ _ _ _ _; first | apply WL.nil | (refine WL.au (k := ?_)))
      | (show Z _ _ _ _ _; apply Z.then_normal)
      | (show W _ _ _ _ _ _; first | apply W.seq | apply W.region | apply W.block | apply W.skip))
    repeat' (first
      | (show W _ _ (.region 20 _ _) _ _ _; apply W.regionGX (.fl true 0 (.fl true 1 (.fl true 3 (.fl true 4 (.fl true 5 (.fl true 11 (.fl true 12 (.fl false 2 (.fl false 6 (.fl true 7 (.fl true 8 (.fl false 9 (.fl true 10 (.fl true 13 (.br 14 .done .stop))))))))))))))) [6, 8, 9, 10] tMix; kernel_rfl)
      | (apply WL.storeO (z' := (2 * (((c.ins.2.2.length : Int) + c.lat.2.2.length + k) + 1))) tOk; exact rfl; exact rfl; exact rfl; exact rfl; assumption; (exact extA); exact rfl; exact rfl; exact rfl; exact encI_ok; assumption; exact rfl; (exact extA); intro w' hO hX' hU; (first | replace hS := Sep.updRow (i := 0) rfl hU hO (.inl rfl) hS (by (exact extA)) (by (first | exact Nat.le_refl _ | exact Below.size (by (exact extA)))) | replace hS := Sep.updRow (i := 1) rfl hU hO (.inl rfl) hS (by (exact extA)) (by (first | exact Nat.le_refl _ | exact Below.size (by (exact extA)))) | replace hS := Sep.updRow (i := 2) rfl hU hO (.inl rfl) hS (by (exact extA)) (by (first | exact Nat.le_refl _ | exact Below.size (by (exact extA)))) | replace hS := Sep.updRow (i := 3) rfl hU hO (.inl rfl) hS (by (exact extA)) (by (first | exact Nat.le_refl _ | exact Below.size (by (exact extA)))) | replace hS := Sep.updRow (i := 4) rfl hU hO (.inl rfl) hS (by (exact extA)) (by (first | exact Nat.le_refl _ | exact Below.size (by (exact extA)))) | replace hS := Sep.updRow (i := 5) rfl hU hO (.inl rfl) hS (by (exact extA)) (by (first | exact Nat.le_refl _ | exact Below.size (by (exact extA))))); (try simp only [List.set_cons_zero, List.set_cons_succ] at hS); (try have hR0 := hS.row (i := 0) rfl); (try have hR1 := hS.row (i := 1) rfl); (try have hR2 := hS.row (i := 2) rfl); (try have hR3 := hS.row (i := 3) rfl); (try have hR4 := hS.row (i := 4) rfl); (try have hC0 := hS.cell (i := 0) rfl); (try have hD0 := (cells_heap hC0).1); (try have hE0 := (cells_heap hC0).2.1); (try have hF0 := (cells_heap hC0).2.2.1); (try have hG0 := (cells_heap hC0).2.2.2.1); (try have hC1 := hS.cell (i := 1) rfl); (try have hD1 := (cells_heap hC1).1); (try have hE1 := (cells_heap hC1).2.1); (try have hF1 := (cells_heap hC1).2.2.1); (try have hG1 := (cells_heap hC1).2.2.2.1); (try have hC2 := hS.cell (i := 2) rfl); (try have hD2 := (cells_heap hC2).1); (try have hE2 := (cells_heap hC2).2.1); (try have hF2 := (cells_heap hC2).2.2.1); (try have hG2 := (cells_heap hC2).2.2.2.1); (try have hC3 := hS.cell (i := 3) rfl); (try have hD3 := (cells_heap hC3).1); (try have hE3 := (cells_heap hC3).2.1); (try have hF3 := (cells_heap hC3).2.2.1); (try have hG3 := (cells_heap hC3).2.2.2.1); (try have hC4 := hS.cell (i := 4) rfl); (try have hD4 := (cells_heap hC4).1); (try have hE4 := (cells_heap hC4).2.1); (try have hF4 := (cells_heap hC4).2.2.1); (try have hG4 := (cells_heap hC4).2.2.2.1); (try have hM0 := hS.map (i := 0) rfl); (try have hM1 := hS.map (i := 1) rfl); (try have hM2 := hS.map (i := 2) rfl); (try have hM3 := hS.map (i := 3) rfl); (try have hM4 := hS.map (i := 4) rfl))
      | (apply FL.indexO tOk; exact rfl; exact rfl; exact rfl; exact rfl; exact rfl; exact rfl; exact rfl; exact rfl; assumption; (exact extA); exact encI_ok; (first | exact rfl | (focus (simp only [List.length_set]; done)) | (focus (simp; done)) | (focus (simp [*]; done)) | omega | (focus (simp only [List.length_set]; omega))); omega; assumption; intro gb ha hc; cases ha; have hcc := hc; first | (obtain ⟨h1, h2, h3, _⟩ := hc) | (obtain ⟨h1, h2, _⟩ := hc) | (obtain ⟨h1, _⟩ := hc))
      | (show SX _ _ _ _ _ _ _ _ _; first | (apply SX.done; intro w' hx) | (apply SX.fl0; exact rfl) | (apply SX.fl1; exact rfl; (exact extA)) | (apply SX.br1; exact rfl; intro w' hx))
      | (show FL _ _ _ _ _ _ _ _; first | apply FL.nilX | (apply FL.loadE tOk; exact rfl; exact rfl; exact rfl; exact rfl; exact rfl; assumption) | (apply FL.indexE tOk; exact rfl; exact rfl; exact rfl; exact rfl; exact rfl; exact rfl; exact rfl; exact rfl; assumption; exact rfl; omega; assumption; intro b off h; have hcc := h; first | (obtain ⟨h1, h2, h3, h4, h5, h6, _⟩ := h) | (obtain ⟨h1, h2, h3, _⟩ := h) | (obtain ⟨h1, h2, _⟩ := h) | (obtain ⟨h1, _⟩ := h)))
      | (show FL _ _ _ _ _ _ _ _; (refine FL.au (k := ?_)))
      | (show Z _ _ _ _ _; (apply Z.sxL; exact rfl))
      | (show WL _ _ _ _ _ _ _; first | apply WL.nil | (refine WL.au (k := ?_)))
      | (show Z _ _ _ _ _; first | apply Z.then_normal | apply Z.block_normal)
      | (show W _ _ _ _ _ _; apply W.region))
    exact Z.againW ⟨by omega, (by (exact extA)), by rw [e1]; exact hS.ext hx⟩ ⟨rfl, rfl, rfl, congrArg (fun z => some (Value.int .i64 z)) (by simp; omega), rfl, rfl, trivial⟩
  obtain rfl : k = (ordL c.gates.2.2).length := by omega
  have e39 : cS3 c.t (ordL c.gates.2.2).length = cNet c.t := cS3_all c.t
  rw [e39] at hS hl1 hl2 hR1
  obtain ⟨A, hA⟩ : ∃ A, A = (cNet c.t).2 := ⟨_, rfl⟩
  rw [← hA] at hS hl2 hR1 ⊢
  have RA := hR1.row encI_ok
  have oki : ∀ l ∈ c.ins.2.2, LitOk A l := fun l hl => by rw [hA]; exact net_litOk hg hz (.inr (List.mem_append_left _ (List.mem_append_left _ hl)))
  have oku : ∀ l ∈ c.t.used, LitOk A l := fun l hl => by rw [hA]; exact net_litOk hg hz (.inl hl)
  have okw : ∀ l ∈ c.t.own, LitOk A l := fun l hl => by rw [hA]; exact net_litOk hg hz (.inr hl)
  have oko : ∀ l ∈ c.outs.2.2, LitOk A l := fun l hl => oku l (List.mem_append_left _ (List.mem_append_left _ (List.mem_append_left _ (List.mem_append_left _ hl))))
  have okb : ∀ l ∈ c.bads.2.2, LitOk A l := fun l hl => oku l (used_bad (c := c.t) hl)
  have okc : ∀ l ∈ c.cons.2.2, LitOk A l := fun l hl => oku l (used_con (c := c.t) hl)
  have z3 : c.outs.2.2.length ≤ 100000 := hz.2.2.1
  have z4 : c.bads.2.2.length ≤ 100000 := hz.2.2.2.1
  have z5 : c.cons.2.2.length ≤ 100000 := hz.2.2.2.2.1
  have hX6w : Ext w w6 := hxc.trans hX6
  have Ri6 := hC.ins.row.ext hX6w
  have Ro6 := hC.outs.row.ext hX6w
  have Rb6 := hC.bads.row.ext hX6w
  have Rc6 := hC.cons.row.ext hX6w
  clear y0 y1 y2 y3 y4 y5 y6
  obtain ⟨y0, y1, y2, y3, y4, y5, y6, y7, y8, _⟩ := hcells.ext hX6
  repeat' (first
    | (show WL _ _ _ _ _ _ _; first | apply WL.nil | (refine WL.au (k := ?_)))
    | (show Z _ _ _ _ _; apply Z.then_normal)
    | (show W _ _ _ _ _ _; first | apply W.seq | apply W.region))
  refine W.condKF rfl (dec_false (by omega)) ?_
  repeat' (first
    | (show Z _ _ _ _ _; first | apply Z.then_normal | apply Z.then_exit | apply Z.block_exit)
    | (show W _ _ _ _ _ _; first | apply W.seq | apply W.exit))
  have hall : ∀ (w9 : World) (L : List Int) (b : Option Addr) (cb : Nat), Ext w6 w9 → Row 1 encI w9 b L → (∀ l ∈ L, LitOk A l) → L.length ≤ 100000 → Lt.Spec Try.prog 91 [.slice d (c.max.toNat + 1) dp, .slice b L.length cb] w9 (IsFresh 1 encI 3 w9 (L.map (litI A))) := fun w9 L b cb h9 R9 ok9 n9 => by
    have := ref16_all d b dp cb A L w9 (RA.ext h9) R9 ok9 n9
    rw [hl2] at this; exact this
  refine W.cutT (σ := Nat × ((Option Addr × Nat) × (Option Addr × Nat) × (Option Addr × Nat) × (Option Addr × Nat)) × World) (fun s => Ext wc s.2.2 ∧ Lt.Sep wc.heap.size s.2.2 [pcell s.1 (([.int .i64 ((c.ins.2.2.length : Int) + c.lat.2.2.length + (ordL c.gates.2.2).length), .slice s.2.1.1.1 (c.ins.2.2.map (litI A)).length s.2.1.1.2, .slice none 0 0, .slice s.2.1.2.1.1 (c.outs.2.2.map (litI A)).length s.2.1.2.1.2, .slice s.2.1.2.2.1.1 (c.bads.2.2.map (litI A)).length s.2.1.2.2.1.2, .slice s.2.1.2.2.2.1 (c.cons.2.2.map (litI A)).length s.2.1.2.2.2.2, .slice none 0 0, rowVal c.syms, .string c.com] : List Value).toArray) 28, prow 1 encI 3 wc.heap.size s.2.1.2.2.2.1 s.2.1.2.2.2.2 (c.cons.2.2.map (litI A)), prow 1 encI 3 wc.heap.size s.2.1.2.2.1.1 s.2.1.2.2.1.2 (c.bads.2.2.map (litI A)), prow 1 encI 3 wc.heap.size s.2.1.2.1.1 s.2.1.2.1.2 (c.outs.2.2.map (litI A)), prow 1 encI 3 wc.heap.size s.2.1.1.1 s.2.1.1.2 (c.ins.2.2.map (litI A)), prow 1 encI 3 wc.heap.size ad cd OL, prow 1 encI 3 wc.heap.size d dp A, pcell g2 zC 28]) (fun s => [(1, .pointer (some ⟨gc, 0, none⟩)), (2, .pointer (some ⟨g2, 0, none⟩)), (4, .slice d (c.max.toNat + 1) dp), (6, .slice ad OL.length cd), (11, .pointer (some ⟨s.1, 0, none⟩))]) (fun s => s.2.2) ?_ ?_
  · skip
    repeat' (first
      | (show W _ _ (.region 21 _ _) _ _ _; apply W.regionGX (.fl true 0 (.fl true 1 (.fl true 2 (.fl true 5 (.fl true 6 (.fl true 9 (.fl true 10 (.fl true 13 (.fl true 14 (.fl true 17 (.fl true 19 (.fl false 3 (.fl false 7 (.fl false 11 (.fl false 15 (.fl false 18 (.fl false 20 (.br 4 (.br 8 (.br 12 (.br 16 (.fl true 21 (.br 22 (.br 23 .done .stop) .stop)) (.br 22 (.br 16 (.fl true 21 (.br 23 .done .stop)) .stop) .stop)) (.br 22 (.br 12 (.br 16 (.fl true 21 (.br 23 .done .stop)) .stop) .stop) .stop)) (.br 22 (.br 8 (.br 12 (.br 16 (.fl true 21 (.br 23 .done .stop)) .stop) .stop) .stop) .stop)) (.br 22 (.br 4 (.br 8 (.br 12 (.br 16 (.fl true 21 (.br 23 .done .stop)) .stop) .stop) .stop) .stop) .stop))))))))))))))))))) [4, 7, 8, 11, 12, 15, 16, 18, 20, 21, 22] tMix; kernel_rfl)
      | (((show WL _ _ _ (⟨_, .call ⟨.value (.func 91), _, _⟩, _, _, _, _⟩ :: _) _ _ _); apply WL.call; exact rfl; exact rfl; exact rfl; exact rfl; exact hall _ c.ins.2.2 _ _ (by (exact extA)) (Ri6.ext (by (exact extA))) oki z1; rintro v' w' ⟨hx, ai, ci, rfl, hO⟩; replace hS := Sep.newRow' (Sep.ext hS (by (exact extA))) hx hO (Below.size (by (exact extA))); clear hO))
      | (((show WL _ _ _ (⟨_, .call ⟨.value (.func 91), _, _⟩, _, _, _, _⟩ :: _) _ _ _); apply WL.call; exact rfl; exact rfl; exact rfl; exact rfl; exact hall _ c.outs.2.2 _ _ (by (exact extA)) (Ro6.ext (by (exact extA))) oko z3; rintro v' w' ⟨hx, ao, co, rfl, hO⟩; replace hS := Sep.newRow' (Sep.ext hS (by (exact extA))) hx hO (Below.size (by (exact extA))); clear hO))
      | (((show WL _ _ _ (⟨_, .call ⟨.value (.func 91), _, _⟩, _, _, _, _⟩ :: _) _ _ _); apply WL.call; exact rfl; exact rfl; exact rfl; exact rfl; exact hall _ c.bads.2.2 _ _ (by (exact extA)) (Rb6.ext (by (exact extA))) okb z4; rintro v' w' ⟨hx, ab, cb, rfl, hO⟩; replace hS := Sep.newRow' (Sep.ext hS (by (exact extA))) hx hO (Below.size (by (exact extA))); clear hO))
      | (((show WL _ _ _ (⟨_, .call ⟨.value (.func 91), _, _⟩, _, _, _, _⟩ :: _) _ _ _); apply WL.call; exact rfl; exact rfl; exact rfl; exact rfl; exact hall _ c.cons.2.2 _ _ (by (exact extA)) (Rc6.ext (by (exact extA))) okc z5; rintro v' w' ⟨hx, an, cn, rfl, hO⟩; replace hS := Sep.newRow' (Sep.ext hS (by (exact extA))) hx hO (Below.size (by (exact extA))); clear hO))
      | ((show FL _ _ _ _ (⟨_, .build 28 _, _, _, _, _⟩ :: _) _ _ _; apply FL.build (cs := [.int .i64 ((c.ins.2.2.length : Int) + c.lat.2.2.length + (ordL c.gates.2.2).length), .slice ai (c.ins.2.2.map (litI A)).length ci, .slice none 0 0, .slice ao (c.outs.2.2.map (litI A)).length co, .slice ab (c.bads.2.2.map (litI A)).length cb, .slice an (c.cons.2.2.map (litI A)).length cn, .slice none 0 0, rowVal c.syms, .string c.com]) tOk; exact rfl; exact rfl; exact rfl; exact rfl; exact rfl; exact rfl; (first | kernel_rfl | exact rfl); kernel_rfl))
      | (apply WL.alloc tOk; exact rfl; exact rfl; exact rfl; intro gb w' hb hge hx; (replace hS := Sep.newCell (Sep.ext hS (by (exact extA))) hx hb hge (Below.size (by (exact extA))); obtain ⟨g11, rfl⟩ : ∃ x, x = gb := ⟨_, rfl⟩))
      | (show SX _ _ _ _ _ _ _ _ _; first | (apply SX.fl0; exact rfl) | (apply SX.fl1; exact rfl; (exact extA)) | (apply SX.br1; exact rfl; intro w' hx) | (apply SX.br; exact rfl; (intro w' hx)))
      | (show FL _ _ _ _ _ _ _ _; first | apply FL.nilX | (apply FL.loadE tOk; exact rfl; exact rfl; exact rfl; exact rfl; exact rfl; assumption))
      | (show FL _ _ _ _ _ _ _ _; (refine FL.au (k := ?_)))
      | (show Z _ _ _ _ _; (apply Z.sxE; (exact extA)))
      | (show WL _ _ _ _ _ _ _; apply WL.nil))
    all_goals
      have hS5 : Lt.Sep wc.heap.size w' [pcell g11 zC 28, prow 1 encI 3 wc.heap.size an cn (c.cons.2.2.map (litI A)), prow 1 encI 3 wc.heap.size ab cb (c.bads.2.2.map (litI A)), prow 1 encI 3 wc.heap.size ao co (c.outs.2.2.map (litI A)), prow 1 encI 3 wc.heap.size ai ci (c.ins.2.2.map (litI A)), prow 1 encI 3 wc.heap.size ad cd OL, prow 1 encI 3 wc.heap.size d dp A, pcell g2 zC 28] := by
        rw [hzC] at hS ⊢
        exact Sep.ofPerm (by first | exact .refl _ | exact List.perm_middle (l₁ := [_]) | exact List.perm_middle (l₁ := [_, _]) | exact List.perm_middle (l₁ := [_, _, _]) | exact List.perm_middle (l₁ := [_, _, _, _])) (Sep.ext hS (by (exact extA)))
      have hc5 : w'.heap[g11]? = some (.cells (Value.cells (.agg #[.int .i64 0, .slice none 0 0, .slice none 0 0, .slice none 0 0, .slice none 0 0, .slice none 0 0, .slice none 0 0, .slice none 0 0, .string ⟨#[]⟩])) 28 (0, 0)) := by have := hS5.cell (i := 0) rfl; rw [hzC] at this; exact this
      have hg11 : wc.heap.size ≤ g11 := (hS5.lt (i := 0) rfl rfl).1
      have hXw : Ext wc w' := (by (exact extA))
      obtain ⟨w8, rfl⟩ : ∃ x, x = w' := ⟨_, rfl⟩
      clear hS hb hx
      repeat' (first
        | (apply WL.storeB (w0 := wc) tOk; exact rfl; exact rfl; exact rfl; exact rfl; assumption; (exact extA); exact rfl; exact rfl; exact rfl; (exact extA); (first | assumption | omega | (focus (apply Nat.le_trans; rotate_left; assumption; exact Below.size (by (exact extA)); done))); intro w' hb hc hX' hU; have hcc := hc; obtain ⟨h1, h2, _⟩ := hc)
        | (show SX _ _ _ _ _ _ _ _ _; (apply SX.done; intro w' hx))
        | (show Z _ _ _ _ _; (apply Z.sxL; exact rfl))
        | (show WL _ _ _ _ _ _ _; apply WL.nil))
      have hS6 := hS5.updCell (i := 0) rfl hU hb (by (exact extA)) (Below.size (by (exact extA)))
      exact Z.cut (g11, ((ai, ci), (ao, co), (ab, cb), (an, cn)), _) ⟨(by (exact extA)), Sep.ext hS6 (by (exact extA))⟩ ⟨rfl, rfl, rfl, rfl, rfl, trivial⟩ rfl
  clear hS hR1 RA hX6 y0 y1 y2 y3 y4 y5 y6 y7 y8 Ri6 Ro6 Rb6 Rc6 hX6w hall hR0 RO
  rintro ⟨g11, ⟨⟨ai, ci⟩, ⟨ao, co⟩, ⟨ab, cb⟩, ⟨an, cn⟩⟩, w7⟩ ⟨hX7, hS⟩
  dsimp only at hX7 hS ⊢
  obtain ⟨RS, hRS⟩ : ∃ RS, RS = [prow 1 encI 3 wc.heap.size an cn (c.cons.2.2.map (litI A)), prow 1 encI 3 wc.heap.size ab cb (c.bads.2.2.map (litI A)), prow 1 encI 3 wc.heap.size ao co (c.outs.2.2.map (litI A)), prow 1 encI 3 wc.heap.size ai ci (c.ins.2.2.map (litI A)), prow 1 encI 3 wc.heap.size ad cd OL, prow 1 encI 3 wc.heap.size d dp A, pcell g2 zC 28] := ⟨_, rfl⟩
  have hS0 : Lt.Sep wc.heap.size w7 (prow 3 enc3 69 wc.heap.size none 0 [] :: pcell g11 (([.int .i64 ((c.ins.2.2.length : Int) + c.lat.2.2.length + (ordL c.gates.2.2).length), .slice ai (c.ins.2.2.map (litI A)).length ci, .slice none ([] : List T3).length 0, .slice ao (c.outs.2.2.map (litI A)).length co, .slice ab (c.bads.2.2.map (litI A)).length cb, .slice an (c.cons.2.2.map (litI A)).length cn, .slice none ([] : List T3).length 0, rowVal c.syms, .string c.com] : List Value)).toArray 28 :: RS) := by rw [hRS]; exact Sep.newRow hS (Ext.refl _) Own.nil (fun k hk => by cases hk) (Below.size hX7)
  clear hS
  repeat' (first
    | (show WL _ _ _ _ _ _ _; first | apply WL.nil | (refine WL.au (k := ?_)))
    | (show Z _ _ _ _ _; apply Z.then_normal)
    | (show W _ _ _ _ _ _; first | apply W.seq | apply W.region | apply W.block))
  refine W.loopW c.lat.2.2.length (fun k w' => k ≤ c.lat.2.2.length ∧ Ext wc w' ∧ ∃ al cl, Lt.Sep wc.heap.size w' (prow 3 enc3 69 wc.heap.size al cl ((c.lat.2.2.take k).map (latR A)) :: pcell g11 (([.int .i64 ((c.ins.2.2.length : Int) + c.lat.2.2.length + (ordL c.gates.2.2).length), .slice ai (c.ins.2.2.map (litI A)).length ci, .slice al ((c.lat.2.2.take k).map (latR A)).length cl, .slice ao (c.outs.2.2.map (litI A)).length co, .slice ab (c.bads.2.2.map (litI A)).length cb, .slice an (c.cons.2.2.map (litI A)).length cn, .slice none ([] : List T3).length 0, rowVal c.syms, .string c.com] : List Value)).toArray 28 :: RS)) (fun k => [(1, .pointer (some ⟨gc, 0, none⟩)), (2, .pointer (some ⟨g2, 0, none⟩)), (4, .slice d (c.max.toNat + 1) dp), (6, .slice ad OL.length cd), (11, .pointer (some ⟨g11, 0, none⟩)), (12, .int .i64 k)]) ⟨Nat.zero_le _, hX7, none, 0, hS0⟩ (fun k w' h => h.1) ⟨rfl, rfl, rfl, rfl, rfl, rfl, trivial⟩ ?_
  clear hS0 hX7
  rintro k w8 ⟨hk, hX8, al, cl, hS⟩
  obtain ⟨y0, y1, y2, y3, y4, y5, y6, _⟩ := hcells.ext hX8
  have Rl8 := Rl.ext hX8
  have RA8 : Row 1 encI w8 d A := by
    rw [hRS] at hS
    exact (hS.row (i := 7) rfl).row encI_ok
  have hof : ∀ (l : Int), LitOk A l → ∀ w9, Ext w8 w9 → Pure Try.prog 92 [.slice d (c.max.toNat + 1) dp, .int .i64 l] w9 (.int .i64 (litI A l)) := fun l ok w9 h9 => by
    have := ref16_of d dp A l w9 (RA8.ext h9) ok
    rw [hl2] at this
    exact this.mono fun v w' ⟨h1, m, h2⟩ => ⟨h1, by rw [h2]; exact (Ext.refl _).at m⟩
  have hL : ((c.lat.2.2.take k).map (latR A)).length = k := by rw [List.length_map, List.length_take]; omega
  by_cases hlt : k < c.lat.2.2.length
  · obtain ⟨x, hgx⟩ := getI c.lat.2.2 hlt
    have hxm := List.mem_of_getElem? hgx
    have ok1 : LitOk A x.1 := okw x.1 (List.mem_append_left _ (List.mem_append_right _ (List.mem_map.2 ⟨x, hxm, rfl⟩)))
    have ok2 : LitOk A x.2.1 := oku x.2.1 (used_next (c := c.t) hxm)
    have e1 : (c.lat.2.2.take (k + 1)).map (latR A) = (c.lat.2.2.take k).map (latR A) ++ [latR A x] := by rw [take_succ' hgx, List.map_append]; rfl
    repeat' (first
      | (show WL _ _ _ _ _ _ _; first | apply WL.nil | (refine WL.au (k := ?_)))
      | (show Z _ _ _ _ _; apply Z.then_normal)
      | (show W _ _ _ _ _ _; first | apply W.seq | apply W.region))
    refine W.condKT rfl (dec_true (by omega)) ?_
    repeat' (first
      | (apply WL.alloc tOk; exact rfl; exact rfl; exact rfl; intro gb w' hb hge hx; (obtain ⟨g13, rfl⟩ : ∃ x, x = gb := ⟨_, rfl⟩; obtain ⟨hge13, rfl⟩ : ∃ x, x = hge := ⟨_, rfl⟩))
      | (apply WL.storeB (w0 := w8) tOk; exact rfl; exact rfl; exact rfl; exact rfl; assumption; (exact extA); exact rfl; exact rfl; exact rfl; (exact extA); (first | assumption | omega | (focus (apply Nat.le_trans; rotate_left; assumption; exact Below.size (by (exact extA)); done))); intro w' hb hc hX' hU; have hcc := hc; obtain ⟨h1, h2, _⟩ := hc; (obtain ⟨w9, rfl⟩ : ∃ x, x = w' := ⟨_, rfl⟩; obtain ⟨hb13, rfl⟩ : ∃ x, x = hb := ⟨_, rfl⟩; obtain ⟨hX9, rfl⟩ : ∃ x, x = hX' := ⟨_, rfl⟩; have hC13 := cells_heap hb13; obtain ⟨i0, i1, i2, _⟩ := hC13))
      | (show WL _ _ _ _ _ _ _; first | apply WL.nil | (refine WL.au (k := ?_)) | (apply WL.index tOk; exact rfl; exact rfl; exact rfl; exact rfl; exact rfl; exact rfl; exact rfl; exact rfl; assumption; (exact extA); exact rfl; omega; assumption; intro b off h; have hcc := h; first | (obtain ⟨h1, h2, h3, h4, h5, h6, _⟩ := h) | (obtain ⟨h1, h2, h3, _⟩ := h) | (obtain ⟨h1, h2, _⟩ := h) | (obtain ⟨h1, _⟩ := h)))
      | (show Z _ _ _ _ _; apply Z.then_normal)
      | (show W _ _ _ _ _ _; first | apply W.seq | apply W.region | apply W.block | apply W.skip))
    have hS9 := Sep.newCell hS hX9 hb13 hge13 (Below.size hX8)
    repeat' (first
      | (show W _ _ (.region 26 _ _) _ _ _; apply W.regionGX (.fl true 0 (.fl true 1 (.fl true 4 (.fl true 5 (.fl true 8 (.fl false 2 (.fl false 6 (.fl false 9 (.fl false 3 (.fl false 7 (.fl true 10 (.br 11 (.br 12 .done .stop) .stop)))))))))))) [3, 6, 7, 9, 10, 11] tMix; kernel_rfl)
      | (apply SX.flP; exact rfl; (exact extA); exact rfl; exact rfl; exact rfl; exact rfl; (focus (intro w9 hw9; exact hof x.1 ok1 _ (Ext.trans (by (exact extA)) hw9))))
      | (apply SX.flP; exact rfl; (exact extA); exact rfl; exact rfl; exact rfl; exact rfl; (focus (intro w9 hw9; exact hof x.2.1 ok2 _ (Ext.trans (by (exact extA)) hw9))))
      | ((show FL _ _ _ _ (⟨_, .build 69 _, _, _, _, _⟩ :: _) _ _ _; apply FL.build (cs := [.int .i64 (litI A x.1), .int .i64 (litI A x.2.1), .int .i64 x.2.2]) tOk; exact rfl; exact rfl; exact rfl; exact rfl; exact rfl; exact rfl; (first | kernel_rfl | exact rfl); kernel_rfl))
      | (apply WL.alloc tOk; exact rfl; exact rfl; exact rfl; intro gb w' hb hge hx; (obtain ⟨g14, rfl⟩ : ∃ x, x = gb := ⟨_, rfl⟩; obtain ⟨hge14, rfl⟩ : ∃ x, x = hge := ⟨_, rfl⟩))
      | (apply WL.storeB (w0 := w9) tOk; exact rfl; exact rfl; exact rfl; exact rfl; assumption; (exact extA); exact rfl; exact rfl; exact rfl; (exact extA); (first | assumption | omega | (focus (apply Nat.le_trans; rotate_left; assumption; exact Below.size (by (exact extA)); done))); intro w' hb hc hX' hU; have hcc := hc; obtain ⟨h1, h2, _⟩ := hc; (obtain ⟨w10, rfl⟩ : ∃ x, x = w' := ⟨_, rfl⟩; obtain ⟨hb14, rfl⟩ : ∃ x, x = hb := ⟨_, rfl⟩; obtain ⟨hX10, rfl⟩ : ∃ x, x = hX' := ⟨_, rfl⟩))
      | (show SX _ _ _ _ _ _ _ _ _; first | (apply SX.done; intro w' hx) | (apply SX.fl0; exact rfl) | (apply SX.fl1; exact rfl; (exact extA)) | (apply SX.br1; exact rfl; intro w' hx))
      | (show FL _ _ _ _ _ _ _ _; first | apply FL.nilX | (apply FL.loadE tOk; exact rfl; exact rfl; exact rfl; exact rfl; exact rfl; assumption))
      | (show FL _ _ _ _ _ _ _ _; (refine FL.au (k := ?_)))
      | (show Z _ _ _ _ _; first | (apply Z.sxL; exact rfl) | (apply Z.sxE; (exact extA)))
      | (show WL _ _ _ _ _ _ _; first | apply WL.nil | (refine WL.au (k := ?_)))
      | (show Z _ _ _ _ _; apply Z.then_normal)
      | (show W _ _ _ _ _ _; first | apply W.seq | apply W.region))
    have hS10 := Sep.newCell hS9 hX10 hb14 (Nat.le_trans (Below.size (show Ext w9 _ from (by (exact extA)))) hge14) (Below.size (hX8.trans hX9))
    have hXc : Ext wc w10 := hX8.trans (hX9.trans hX10)
    clear hS hS9 hU hcc h1 h2
    have hS := hS10
    clear hS10
    obtain ⟨m0, m1, m2, _⟩ := cells_heap (hS.cell (i := 0) rfl)
    obtain ⟨i0, i1, i2, _⟩ := cells_heap (hS.cell (i := 1) rfl)
    have hRl := hS.row (i := 2) rfl
    obtain ⟨n0, n1, n2, _⟩ := cells_heap (hS.cell (i := 3) rfl)
    by_cases hres : 1 < x.2.2
    · have e2 := latR_yes (A := A) hres
      skip
      refine W.condKT rfl (dec_true hres) ?_
      repeat' (first
        | (apply WL.storeF (w0 := wc) tOk; exact rfl; exact rfl; exact rfl; exact rfl; assumption; (exact extA); exact rfl; exact rfl; exact rfl; exact rfl; (exact extA); (first | assumption | omega | (focus (apply Nat.le_trans; rotate_left; assumption; exact Below.size (by (exact extA))))); intro w' hb hX' hU; replace hS := Sep.updCell (i := 0) rfl hU hb hS (by (exact extA)) (by (first | exact Nat.le_refl _ | exact Below.size (by (exact extA)))); (try simp only [List.set_cons_zero, List.set_cons_succ] at hS); (try have hR0 := hS.row (i := 0) rfl); (try have hR1 := hS.row (i := 1) rfl); (try have hR2 := hS.row (i := 2) rfl); (try have hR3 := hS.row (i := 3) rfl); (try have hR4 := hS.row (i := 4) rfl); (try have hC0 := hS.cell (i := 0) rfl); (try have hD0 := (cells_heap hC0).1); (try have hE0 := (cells_heap hC0).2.1); (try have hF0 := (cells_heap hC0).2.2.1); (try have hG0 := (cells_heap hC0).2.2.2.1); (try have hC1 := hS.cell (i := 1) rfl); (try have hD1 := (cells_heap hC1).1); (try have hE1 := (cells_heap hC1).2.1); (try have hF1 := (cells_heap hC1).2.2.1); (try have hG1 := (cells_heap hC1).2.2.2.1); (try have hC2 := hS.cell (i := 2) rfl); (try have hD2 := (cells_heap hC2).1); (try have hE2 := (cells_heap hC2).2.1); (try have hF2 := (cells_heap hC2).2.2.1); (try have hG2 := (cells_heap hC2).2.2.2.1); (try have hC3 := hS.cell (i := 3) rfl); (try have hD3 := (cells_heap hC3).1); (try have hE3 := (cells_heap hC3).2.1); (try have hF3 := (cells_heap hC3).2.2.1); (try have hG3 := (cells_heap hC3).2.2.2.1); (try have hC4 := hS.cell (i := 4) rfl); (try have hD4 := (cells_heap hC4).1); (try have hE4 := (cells_heap hC4).2.1); (try have hF4 := (cells_heap hC4).2.2.1); (try have hG4 := (cells_heap hC4).2.2.2.1); (try have hM0 := hS.map (i := 0) rfl); (try have hM1 := hS.map (i := 1) rfl); (try have hM2 := hS.map (i := 2) rfl); (try have hM3 := hS.map (i := 3) rfl); (try have hM4 := hS.map (i := 4) rfl))
        | (show WL _ _ _ _ _ _ _; first | apply WL.nil | (refine WL.au (k := ?_)))
        | (show Z _ _ _ _ _; apply Z.then_normal)
        | (show W _ _ _ _ _ _; apply W.region))
      obtain ⟨n0, n1, n2, _⟩ := cells_heap (hS.cell (i := 3) rfl)
      have hc14 : Cells w' g14 0 (enc3 (latR A x)) := by rw [e2]; exact cells_heap (hS.cell (i := 0) rfl)
      have hRl := hS.row (i := 2) rfl
      have hg11 : wc.heap.size ≤ g11 := (hS.lt (i := 3) rfl rfl).1
      obtain ⟨zz, hzz⟩ : ∃ zz, zz = latR A x := ⟨_, rfl⟩
      rw [← hzz] at hc14 e1
      clear e2 hzz
      repeat' (first
        | (apply WL.lit tOk; exact rfl; exact rfl; exact rfl; exact rfl; exact rfl; exact rfl; (first | exact rfl | kernel_rfl | (simp [Instr.fill, catCells]; done)); exact rfl; intro gb w' hb hge hc hx)
        | (apply WL.append1 (z := (zz)) tOk enc3_ok; exact rfl; exact rfl; exact rfl; exact rfl; exact rfl; exact rfl; exact rfl; exact rfl; exact rfl; exact rfl; assumption; (exact extA); (first | exact rfl | (focus (simp only [List.length_set]; done)) | (focus (simp; done)) | (focus (simp [*]; done)) | omega | (focus (simp only [List.length_set]; omega))); (first | assumption | (refine Cells.ext ?_ (by assumption); exact extA)); exact rfl; exact rfl; (exact extA); (first | omega | (simp; omega) | (simp at *; omega)); intro a' cap' w' hO hX' hU hF; (first | replace hS := Sep.updRow (i := 0) rfl hU hO hF hS (by (exact extA)) (by (first | exact Nat.le_refl _ | exact Below.size (by (exact extA)))) | replace hS := Sep.updRow (i := 1) rfl hU hO hF hS (by (exact extA)) (by (first | exact Nat.le_refl _ | exact Below.size (by (exact extA)))) | replace hS := Sep.updRow (i := 2) rfl hU hO hF hS (by (exact extA)) (by (first | exact Nat.le_refl _ | exact Below.size (by (exact extA)))) | replace hS := Sep.updRow (i := 3) rfl hU hO hF hS (by (exact extA)) (by (first | exact Nat.le_refl _ | exact Below.size (by (exact extA)))) | replace hS := Sep.updRow (i := 4) rfl hU hO hF hS (by (exact extA)) (by (first | exact Nat.le_refl _ | exact Below.size (by (exact extA)))) | replace hS := Sep.updRow (i := 5) rfl hU hO hF hS (by (exact extA)) (by (first | exact Nat.le_refl _ | exact Below.size (by (exact extA))))); (try simp only [List.set_cons_zero, List.set_cons_succ] at hS); (try have hR0 := hS.row (i := 0) rfl); (try have hR1 := hS.row (i := 1) rfl); (try have hR2 := hS.row (i := 2) rfl); (try have hR3 := hS.row (i := 3) rfl); (try have hR4 := hS.row (i := 4) rfl); (try have hC0 := hS.cell (i := 0) rfl); (try have hD0 := (cells_heap hC0).1); (try have hE0 := (cells_heap hC0).2.1); (try have hF0 := (cells_heap hC0).2.2.1); (try have hG0 := (cells_heap hC0).2.2.2.1); (try have hC1 := hS.cell (i := 1) rfl); (try have hD1 := (cells_heap hC1).1); (try have hE1 := (cells_heap hC1).2.1); (try have hF1 := (cells_heap hC1).2.2.1); (try have hG1 := (cells_heap hC1).2.2.2.1); (try have hC2 := hS.cell (i := 2) rfl); (try have hD2 := (cells_heap hC2).1); (try have hE2 := (cells_heap hC2).2.1); (try have hF2 := (cells_heap hC2).2.2.1); (try have hG2 := (cells_heap hC2).2.2.2.1); (try have hC3 := hS.cell (i := 3) rfl); (try have hD3 := (cells_heap hC3).1); (try have hE3 := (cells_heap hC3).2.1); (try have hF3 := (cells_heap hC3).2.2.1); (try have hG3 := (cells_heap hC3).2.2.2.1); (try have hC4 := hS.cell (i := 4) rfl); (try have hD4 := (cells_heap hC4).1); (try have hE4 := (cells_heap hC4).2.1); (try have hF4 := (cells_heap hC4).2.2.1); (try have hG4 := (cells_heap hC4).2.2.2.1); (try have hM0 := hS.map (i := 0) rfl); (try have hM1 := hS.map (i := 1) rfl); (try have hM2 := hS.map (i := 2) rfl); (try have hM3 := hS.map (i := 3) rfl); (try have hM4 := hS.map (i := 4) rfl))
        | (apply WL.storeF (w0 := wc) tOk; exact rfl; exact rfl; exact rfl; exact rfl; assumption; (exact extA); exact rfl; exact rfl; exact rfl; exact rfl; (exact extA); (first | assumption | omega | (focus (apply Nat.le_trans; rotate_left; assumption; exact Below.size (by (exact extA))))); intro w' hb hX' hU; replace hS := Sep.updCell (i := 3) rfl hU hb hS (by (exact extA)) (by (first | exact Nat.le_refl _ | exact Below.size (by (exact extA)))); (try simp only [List.set_cons_zero, List.set_cons_succ] at hS); (try have hR0 := hS.row (i := 0) rfl); (try have hR1 := hS.row (i := 1) rfl); (try have hR2 := hS.row (i := 2) rfl); (try have hR3 := hS.row (i := 3) rfl); (try have hR4 := hS.row (i := 4) rfl); (try have hC0 := hS.cell (i := 0) rfl); (try have hD0 := (cells_heap hC0).1); (try have hE0 := (cells_heap hC0).2.1); (try have hF0 := (cells_heap hC0).2.2.1); (try have hG0 := (cells_heap hC0).2.2.2.1); (try have hC1 := hS.cell (i := 1) rfl); (try have hD1 := (cells_heap hC1).1); (try have hE1 := (cells_heap hC1).2.1); (try have hF1 := (cells_heap hC1).2.2.1); (try have hG1 := (cells_heap hC1).2.2.2.1); (try have hC2 := hS.cell (i := 2) rfl); (try have hD2 := (cells_heap hC2).1); (try have hE2 := (cells_heap hC2).2.1); (try have hF2 := (cells_heap hC2).2.2.1); (try have hG2 := (cells_heap hC2).2.2.2.1); (try have hC3 := hS.cell (i := 3) rfl); (try have hD3 := (cells_heap hC3).1); (try have hE3 := (cells_heap hC3).2.1); (try have hF3 := (cells_heap hC3).2.2.1); (try have hG3 := (cells_heap hC3).2.2.2.1); (try have hC4 := hS.cell (i := 4) rfl); (try have hD4 := (cells_heap hC4).1); (try have hE4 := (cells_heap hC4).2.1); (try have hF4 := (cells_heap hC4).2.2.1); (try have hG4 := (cells_heap hC4).2.2.2.1); (try have hM0 := hS.map (i := 0) rfl); (try have hM1 := hS.map (i := 1) rfl); (try have hM2 := hS.map (i := 2) rfl); (try have hM3 := hS.map (i := 3) rfl); (try have hM4 := hS.map (i := 4) rfl))
        | (show WL _ _ _ _ _ _ _; first | apply WL.nil | (refine WL.au (k := ?_)))
        | (show Z _ _ _ _ _; first | apply Z.then_normal | apply Z.block_normal)
        | (show W _ _ _ _ _ _; apply W.region))
      exact Z.againW ⟨by omega, (by (exact extA)), a', cap', by rw [e1]; exact hS.drop 2⟩ ⟨rfl, rfl, rfl, rfl, rfl, rfl, trivial⟩
    · have e2 := latR_no (A := A) hres
      skip
      refine W.condKF rfl (dec_false hres) ?_
      have hc14 : Cells w10 g14 0 (enc3 (latR A x)) := by rw [e2]; exact cells_heap (hS.cell (i := 0) rfl)
      have hRl := hS.row (i := 2) rfl
      have hg11 : wc.heap.size ≤ g11 := (hS.lt (i := 3) rfl rfl).1
      obtain ⟨zz, hzz⟩ : ∃ zz, zz = latR A x := ⟨_, rfl⟩
      rw [← hzz] at hc14 e1
      clear e2 hzz
      repeat' (first
        | (apply WL.lit tOk; exact rfl; exact rfl; exact rfl; exact rfl; exact rfl; exact rfl; (first | exact rfl | kernel_rfl | (simp [Instr.fill, catCells]; done)); exact rfl; intro gb w' hb hge hc hx)
        | (apply WL.append1 (z := (zz)) tOk enc3_ok; exact rfl; exact rfl; exact rfl; exact rfl; exact rfl; exact rfl; exact rfl; exact rfl; exact rfl; exact rfl; assumption; (exact extA); (first | exact rfl | (focus (simp only [List.length_set]; done)) | (focus (simp; done)) | (focus (simp [*]; done)) | omega | (focus (simp only [List.length_set]; omega))); (first | assumption | (refine Cells.ext ?_ (by assumption); exact extA)); exact rfl; exact rfl; (exact extA); (first | omega | (simp; omega) | (simp at *; omega)); intro a' cap' w' hO hX' hU hF; (first | replace hS := Sep.updRow (i := 0) rfl hU hO hF hS (by (exact extA)) (by (first | exact Nat.le_refl _ | exact Below.size (by (exact extA)))) | replace hS := Sep.updRow (i := 1) rfl hU hO hF hS (by (exact extA)) (by (first | exact Nat.le_refl _ | exact Below.size (by (exact extA)))) | replace hS := Sep.updRow (i := 2) rfl hU hO hF hS (by (exact extA)) (by (first | exact Nat.le_refl _ | exact Below.size (by (exact extA)))) | replace hS := Sep.updRow (i := 3) rfl hU hO hF hS (by (exact extA)) (by (first | exact Nat.le_refl _ | exact Below.size (by (exact extA)))) | replace hS := Sep.updRow (i := 4) rfl hU hO hF hS (by (exact extA)) (by (first | exact Nat.le_refl _ | exact Below.size (by (exact extA)))) | replace hS := Sep.updRow (i := 5) rfl hU hO hF hS (by (exact extA)) (by (first | exact Nat.le_refl _ | exact Below.size (by (exact extA))))); (try simp only [List.set_cons_zero, List.set_cons_succ] at hS); (try have hR0 := hS.row (i := 0) rfl); (try have hR1 := hS.row (i := 1) rfl); (try have hR2 := hS.row (i := 2) rfl); (try have hR3 := hS.row (i := 3) rfl); (try have hR4 := hS.row (i := 4) rfl); (try have hC0 := hS.cell (i := 0) rfl); (try have hD0 := (cells_heap hC0).1); (try have hE0 := (cells_heap hC0).2.1); (try have hF0 := (cells_heap hC0).2.2.1); (try have hG0 := (cells_heap hC0).2.2.2.1); (try have hC1 := hS.cell (i := 1) rfl); (try have hD1 := (cells_heap hC1).1); (try have hE1 := (cells_heap hC1).2.1); (try have hF1 := (cells_heap hC1).2.2.1); (try have hG1 := (cells_heap hC1).2.2.2.1); (try have hC2 := hS.cell (i := 2) rfl); (try have hD2 := (cells_heap hC2).1); (try have hE2 := (cells_heap hC2).2.1); (try have hF2 := (cells_heap hC2).2.2.1); (try have hG2 := (cells_heap hC2).2.2.2.1); (try have hC3 := hS.cell (i := 3) rfl); (try have hD3 := (cells_heap hC3).1); (try have hE3 := (cells_heap hC3).2.1); (try have hF3 := (cells_heap hC3).2.2.1); (try have hG3 := (cells_heap hC3).2.2.2.1); (try have hC4 := hS.cell (i := 4) rfl); (try have hD4 := (cells_heap hC4).1); (try have hE4 := (cells_heap hC4).2.1); (try have hF4 := (cells_heap hC4).2.2.1); (try have hG4 := (cells_heap hC4).2.2.2.1); (try have hM0 := hS.map (i := 0) rfl); (try have hM1 := hS.map (i := 1) rfl); (try have hM2 := hS.map (i := 2) rfl); (try have hM3 := hS.map (i := 3) rfl); (try have hM4 := hS.map (i := 4) rfl))
        | (apply WL.storeF (w0 := wc) tOk; exact rfl; exact rfl; exact rfl; exact rfl; assumption; (exact extA); exact rfl; exact rfl; exact rfl; exact rfl; (exact extA); (first | assumption | omega | (focus (apply Nat.le_trans; rotate_left; assumption; exact Below.size (by (exact extA))))); intro w' hb hX' hU; replace hS := Sep.updCell (i := 3) rfl hU hb hS (by (exact extA)) (by (first | exact Nat.le_refl _ | exact Below.size (by (exact extA)))); (try simp only [List.set_cons_zero, List.set_cons_succ] at hS); (try have hR0 := hS.row (i := 0) rfl); (try have hR1 := hS.row (i := 1) rfl); (try have hR2 := hS.row (i := 2) rfl); (try have hR3 := hS.row (i := 3) rfl); (try have hR4 := hS.row (i := 4) rfl); (try have hC0 := hS.cell (i := 0) rfl); (try have hD0 := (cells_heap hC0).1); (try have hE0 := (cells_heap hC0).2.1); (try have hF0 := (cells_heap hC0).2.2.1); (try have hG0 := (cells_heap hC0).2.2.2.1); (try have hC1 := hS.cell (i := 1) rfl); (try have hD1 := (cells_heap hC1).1); (try have hE1 := (cells_heap hC1).2.1); (try have hF1 := (cells_heap hC1).2.2.1); (try have hG1 := (cells_heap hC1).2.2.2.1); (try have hC2 := hS.cell (i := 2) rfl); (try have hD2 := (cells_heap hC2).1); (try have hE2 := (cells_heap hC2).2.1); (try have hF2 := (cells_heap hC2).2.2.1); (try have hG2 := (cells_heap hC2).2.2.2.1); (try have hC3 := hS.cell (i := 3) rfl); (try have hD3 := (cells_heap hC3).1); (try have hE3 := (cells_heap hC3).2.1); (try have hF3 := (cells_heap hC3).2.2.1); (try have hG3 := (cells_heap hC3).2.2.2.1); (try have hC4 := hS.cell (i := 4) rfl); (try have hD4 := (cells_heap hC4).1); (try have hE4 := (cells_heap hC4).2.1); (try have hF4 := (cells_heap hC4).2.2.1); (try have hG4 := (cells_heap hC4).2.2.2.1); (try have hM0 := hS.map (i := 0) rfl); (try have hM1 := hS.map (i := 1) rfl); (try have hM2 := hS.map (i := 2) rfl); (try have hM3 := hS.map (i := 3) rfl); (try have hM4 := hS.map (i := 4) rfl))
        | (show WL _ _ _ _ _ _ _; first | apply WL.nil | (refine WL.au (k := ?_)))
        | (show Z _ _ _ _ _; first | apply Z.then_normal | apply Z.block_normal)
        | (show W _ _ _ _ _ _; first | apply W.region | apply W.skip))
      exact Z.againW ⟨by omega, (by (exact extA)), a', cap', by rw [e1]; exact hS.drop 2⟩ ⟨rfl, rfl, rfl, rfl, rfl, rfl, trivial⟩
  obtain rfl : k = c.lat.2.2.length := by omega
  rw [List.take_length] at hS hL
  repeat' (first
    | (show WL _ _ _ _ _ _ _; first | apply WL.nil | (refine WL.au (k := ?_)))
    | (show Z _ _ _ _ _; apply Z.then_normal)
    | (show W _ _ _ _ _ _; first | apply W.seq | apply W.region))
  refine W.condKF rfl (dec_false (by omega)) ?_
  repeat' (first
    | (show WL _ _ _ _ _ _ _; first | apply WL.nil | (refine WL.au (k := ?_)))
    | (show Z _ _ _ _ _; first | apply Z.then_normal | apply Z.then_exit | apply Z.block_exit)
    | (show W _ _ _ _ _ _; first | apply W.seq | apply W.region | apply W.block | apply W.exit))
  have hS0 : Lt.Sep wc.heap.size w8 (prow 3 enc3 106 wc.heap.size none 0 [] :: prow 3 enc3 69 wc.heap.size al cl (c.lat.2.2.map (latR A)) :: pcell g11 (([.int .i64 ((c.ins.2.2.length : Int) + c.lat.2.2.length + (ordL c.gates.2.2).length), .slice ai (c.ins.2.2.map (litI A)).length ci, .slice al (c.lat.2.2.map (latR A)).length cl, .slice ao (c.outs.2.2.map (litI A)).length co, .slice ab (c.bads.2.2.map (litI A)).length cb, .slice an (c.cons.2.2.map (litI A)).length cn, .slice none ([] : List T3).length 0, rowVal c.syms, .string c.com] : List Value)).toArray 28 :: RS) := Sep.newRow hS (Ext.refl _) Own.nil (fun k hk => by cases hk) (Below.size hX8)
  have hg0 : gatesR c.t 0 = [] := rfl
  refine W.loopW (ordL c.gates.2.2).length (fun k w' => k ≤ (ordL c.gates.2.2).length ∧ Ext wc w' ∧ ∃ ag cg, Lt.Sep wc.heap.size w' (prow 3 enc3 106 wc.heap.size ag cg (gatesR c.t k) :: prow 3 enc3 69 wc.heap.size al cl (c.lat.2.2.map (latR A)) :: pcell g11 (([.int .i64 ((c.ins.2.2.length : Int) + c.lat.2.2.length + (ordL c.gates.2.2).length), .slice ai (c.ins.2.2.map (litI A)).length ci, .slice al (c.lat.2.2.map (latR A)).length cl, .slice ao (c.outs.2.2.map (litI A)).length co, .slice ab (c.bads.2.2.map (litI A)).length cb, .slice an (c.cons.2.2.map (litI A)).length cn, .slice ag (gatesR c.t k).length cg, rowVal c.syms, .string c.com] : List Value)).toArray 28 :: RS)) (fun k => [(1, .pointer (some ⟨gc, 0, none⟩)), (2, .pointer (some ⟨g2, 0, none⟩)), (4, .slice d (c.max.toNat + 1) dp), (6, .slice ad OL.length cd), (11, .pointer (some ⟨g11, 0, none⟩)), (15, .int .i64 k)]) ⟨Nat.zero_le _, hX8, none, 0, hS0⟩ (fun k w' h => h.1) ⟨rfl, rfl, rfl, rfl, rfl, rfl, trivial⟩ ?_
  clear hS0 hX8 hS RA8 hof y0 y1 y2 y3 y4 y5 y6
  rintro k w8 ⟨hk, hX8, ag, cg, hS⟩
  obtain ⟨y0, y1, y2, y3, y4, y5, y6, _⟩ := hcells.ext hX8
  have Rg8 := Rg.ext hX8
  have hSr := hS
  rw [hRS] at hSr
  have RA8 : Row 1 encI w8 d A := (hSr.row (i := 8) rfl).row encI_ok
  have RO8 : Row 1 encI w8 ad OL := (hSr.row (i := 7) rfl).row encI_ok
  have hof : ∀ (l : Int), LitOk A l → ∀ w9, Ext w8 w9 → Pure Try.prog 92 [.slice d (c.max.toNat + 1) dp, .int .i64 l] w9 (.int .i64 (litI A l)) := fun l ok w9 h9 => by
    have := ref16_of d dp A l w9 (RA8.ext h9) ok
    rw [hl2] at this
    exact this.mono fun v w' ⟨h1, m, h2⟩ => ⟨h1, by rw [h2]; exact (Ext.refl _).at m⟩
  have hL2 : (gatesR c.t k).length = k := gatesR_len (c := c.t) hk
  by_cases hlt : k < (ordL c.gates.2.2).length
  · obtain ⟨i, hi⟩ := getI (ordL c.gates.2.2) hlt
    obtain ⟨x, hgg⟩ := getI c.gates.2.2 ((ordL_is c.gates.2.2).1.lt i (List.mem_of_getElem? hi))
    have hxm := List.mem_of_getElem? hgg
    obtain ⟨r1, r2, r3⟩ := hgm x hxm
    have ok1 := okw x.1 r1
    have ok2 := oku x.2.1 r2
    have ok3 := oku x.2.2 r3
    have hni : OL[((k : Nat) : Int).toNat]? = some (i : Int) := by rw [Int.toNat_natCast, hOL, natI, List.getElem?_map, hi]; rfl
    have hgi : c.gates.2.2[((i : Nat) : Int).toNat]? = some x := by rw [Int.toNat_natCast]; exact hgg
    have e1 : gatesR c.t (k + 1) = gatesR c.t k ++ [gateR A x] := by rw [hA]; exact gatesR_s (c := c.t) hi hgg
    repeat' (first
      | (show WL _ _ _ _ _ _ _; first | apply WL.nil | (refine WL.au (k := ?_)))
      | (show Z _ _ _ _ _; apply Z.then_normal)
      | (show W _ _ _ _ _ _; first | apply W.seq | apply W.region))
    refine W.condKT rfl (dec_true (by omega)) ?_
    repeat' (first
      | (show W _ _ (.region 33 _ _) _ _ _; apply W.regionGX (.fl true 0 (.fl true 2 (.fl true 3 (.fl true 4 (.fl false 1 (.fl false 5 (.fl true 6 (.fl false 7 (.br 8 (.br 9 .done .stop) .stop))))))))) [5, 7, 8] tMix; kernel_rfl)
      | (apply WL.alloc tOk; exact rfl; exact rfl; exact rfl; intro gb w' hb hge hx; (obtain ⟨g16, rfl⟩ : ∃ x, x = gb := ⟨_, rfl⟩; obtain ⟨hge16, rfl⟩ : ∃ x, x = hge := ⟨_, rfl⟩))
      | (apply WL.storeB (w0 := w8) tOk; exact rfl; exact rfl; exact rfl; exact rfl; assumption; (exact extA); exact rfl; exact rfl; exact rfl; (exact extA); (first | assumption | omega | (focus (apply Nat.le_trans; rotate_left; assumption; exact Below.size (by (exact extA)); done))); intro w' hb hc hX' hU; have hcc := hc; obtain ⟨h1, h2, _⟩ := hc; (obtain ⟨w9, rfl⟩ : ∃ x, x = w' := ⟨_, rfl⟩; obtain ⟨hb16, rfl⟩ : ∃ x, x = hb := ⟨_, rfl⟩; obtain ⟨hX9, rfl⟩ : ∃ x, x = hX' := ⟨_, rfl⟩; have hC16 := cells_heap hb16; obtain ⟨i0, i1, i2, _⟩ := hC16))
      | (show SX _ _ _ _ _ _ _ _ _; first | (apply SX.done; intro w' hx) | (apply SX.fl0; exact rfl) | (apply SX.fl1; exact rfl; (exact extA)) | (apply SX.br1; exact rfl; intro w' hx))
      | (show FL _ _ _ _ _ _ _ _; first | apply FL.nilX | (apply FL.loadE tOk; exact rfl; exact rfl; exact rfl; exact rfl; exact rfl; assumption) | (apply FL.loadAE tOk; exact rfl; exact rfl; exact rfl; exact rfl; exact rfl; assumption; exact rfl) | (apply FL.indexE tOk; exact rfl; exact rfl; exact rfl; exact rfl; exact rfl; exact rfl; exact rfl; exact rfl; assumption; exact rfl; omega; assumption; intro b off h; have hcc := h; first | (obtain ⟨h1, h2, h3, h4, h5, h6, _⟩ := h) | (obtain ⟨h1, h2, h3, _⟩ := h) | (obtain ⟨h1, h2, _⟩ := h) | (obtain ⟨h1, _⟩ := h)))
      | (show FL _ _ _ _ _ _ _ _; (refine FL.au (k := ?_)))
      | (show Z _ _ _ _ _; first | (apply Z.sxL; exact rfl) | (apply Z.sxE; (exact extA)))
      | (show WL _ _ _ _ _ _ _; apply WL.nil)
      | (show Z _ _ _ _ _; apply Z.then_normal)
      | (show W _ _ _ _ _ _; first | apply W.seq | apply W.block | apply W.skip))
    have hS9 := Sep.newCell hS hX9 hb16 (Nat.le_trans (Below.size (show Ext w8 _ from (by (exact extA)))) hge16) (Below.size hX8)
    have hXc : Ext wc w9 := hX8.trans hX9
    clear hS hU hcc h1 h2
    have hS : Lt.Sep wc.heap.size w' (prow 3 enc3 106 wc.heap.size ag cg (gatesR c.t k) :: prow 3 enc3 69 wc.heap.size al cl (c.lat.2.2.map (latR A)) :: pcell g11 (([.int .i64 ((c.ins.2.2.length : Int) + c.lat.2.2.length + (ordL c.gates.2.2).length), .slice ai (c.ins.2.2.map (litI A)).length ci, .slice al (c.lat.2.2.map (latR A)).length cl, .slice ao (c.outs.2.2.map (litI A)).length co, .slice ab (c.bads.2.2.map (litI A)).length cb, .slice an (c.cons.2.2.map (litI A)).length cn, .slice ag (gatesR c.t k).length cg, rowVal c.syms, .string c.com] : List Value)).toArray 28 :: RS) := Sep.ext (hS9.drop 1) (show Ext w9 w' from (by (exact extA)))
    have hX10 : Ext w9 w' := (by (exact extA))
    clear i0 i1 i2
    have hC16 := cells_heap (hb16.trans rfl)
    obtain ⟨i0, i1, i2, _⟩ := Cells.ext hX10 hC16
    have hRg := hS.row (i := 0) rfl
    have hg11 : wc.heap.size ≤ g11 := (hS.lt (i := 2) rfl rfl).1
    have hc11 := hS.cell (i := 2) rfl
    obtain ⟨n0, n1, n2, n3, n4, n5, n6, _⟩ := cells_heap (hS.cell (i := 2) rfl)
    obtain ⟨w10, rfl⟩ : ∃ x, x = w' := ⟨_, rfl⟩
    have hof9 := fun (l : Int) (ok : LitOk A l) (w0 : World) (h0 : Ext w9 w0) => hof l ok w0 (hX9.trans h0)
    have hA4 : True := trivial
    repeat' (first
      | (show W _ _ (.region 34 _ _) _ _ _; apply W.regionGX (.fl true 0 (.fl true 1 (.fl true 4 (.fl true 5 (.fl false 2 (.fl false 6 (.fl false 3 (.fl false 7 (.fl true 8 (.fl true 9 .done)))))))))) [3, 6, 7, 8] tMix; kernel_rfl)
      | (apply SX.flP; exact rfl; (exact extA); exact rfl; exact rfl; exact rfl; exact rfl; (focus (intro w9 hw9; exact hof x.2.1 ok2 _ (Ext.trans (by (exact extA)) hw9))))
      | (apply SX.flP; exact rfl; (exact extA); exact rfl; exact rfl; exact rfl; exact rfl; (focus (intro w9 hw9; exact hof x.2.2 ok3 _ (Ext.trans (by (exact extA)) hw9))))
      | (show SX _ _ _ _ _ _ _ _ _; first | (apply SX.done; intro w' hx) | (apply SX.fl0; exact rfl) | (apply SX.fl1; exact rfl; (exact extA)))
      | (show FL _ _ _ _ _ _ _ _; first | apply FL.nilX | (apply FL.loadE tOk; exact rfl; exact rfl; exact rfl; exact rfl; exact rfl; assumption))
      | (show FL _ _ _ _ _ _ _ _; (refine FL.au (k := ?_)))
      | (show WL _ _ _ _ _ _ _; first | apply WL.nil | (refine WL.au (k := ?_)))
      | (show Z _ _ _ _ _; apply Z.then_normal)
      | (show W _ _ _ _ _ _; first | apply W.seq | apply W.region))
    have hX11 : Ext w10 w' := (by (exact extA))
    obtain ⟨w11, rfl⟩ : ∃ x, x = w' := ⟨_, rfl⟩
    replace i0 := hX11.cell i0
    replace i1 := hX11.cell i1
    replace i2 := hX11.cell i2
    replace n0 := hX11.cell n0
    replace n1 := hX11.cell n1
    replace n2 := hX11.cell n2
    replace n3 := hX11.cell n3
    replace n4 := hX11.cell n4
    replace n5 := hX11.cell n5
    replace n6 := hX11.cell n6
    by_cases hab : litI A x.2.1 < litI A x.2.2
    · skip
      have e2 : gateR A x = (litI A x.1, litI A x.2.2, litI A x.2.1) := by unfold gateR; rw [show max (litI A x.2.1) (litI A x.2.2) = litI A x.2.2 by omega, show min (litI A x.2.1) (litI A x.2.2) = litI A x.2.1 by omega]
      rw [e2] at e1
      skip
      refine W.condKT rfl (dec_true hab) ?_
      repeat' (first
        | (show W _ _ (.region 37 _ _) _ _ _; apply W.regionGX (.fl true 0 (.fl true 2 (.fl true 3 (.fl true 6 (.fl true 7 (.fl false 1 (.br 4 (.fl false 5 (.fl true 8 (.br 9 (.br 10 (.fl true 11 (.br 12 .done .stop)) .stop) .stop))) .stop))))))) [4, 5, 8, 9] tMix; kernel_rfl)
        | (apply SX.flP; exact rfl; (exact extA); exact rfl; exact rfl; exact rfl; exact rfl; (focus (intro w9 hw9; exact hof x.1 ok1 _ (Ext.trans (by (exact extA)) hw9))))
        | ((show FL _ _ _ _ (⟨_, .build 106 _, _, _, _, _⟩ :: _) _ _ _; apply FL.build (cs := [.int .i64 (litI A x.1), .int .i64 (litI A x.2.2), .int .i64 (litI A x.2.1)]) tOk; exact rfl; exact rfl; exact rfl; exact rfl; exact rfl; exact rfl; (first | kernel_rfl | exact rfl); kernel_rfl))
        | (apply WL.lit tOk; exact rfl; exact rfl; exact rfl; exact rfl; exact rfl; exact rfl; (first | exact rfl | kernel_rfl | (simp [Instr.fill, catCells]; done)); exact rfl; intro gb w' hb hge hc hx)
        | (apply WL.append1 (z := (((litI A x.1, litI A x.2.2, litI A x.2.1) : T3))) tOk enc3_ok; exact rfl; exact rfl; exact rfl; exact rfl; exact rfl; exact rfl; exact rfl; exact rfl; exact rfl; exact rfl; assumption; (exact extA); (first | exact rfl | (focus (simp only [List.length_set]; done)) | (focus (simp; done)) | (focus (simp [*]; done)) | omega | (focus (simp only [List.length_set]; omega))); (first | assumption | (refine Cells.ext ?_ (by assumption); exact extA)); exact rfl; exact rfl; (exact extA); (first | omega | (simp; omega) | (simp at *; omega)); intro a' cap' w' hO hX' hU hF; (first | replace hS := Sep.updRow (i := 0) rfl hU hO hF hS (by (exact extA)) (by (first | exact Nat.le_refl _ | exact Below.size (by (exact extA)))) | replace hS := Sep.updRow (i := 1) rfl hU hO hF hS (by (exact extA)) (by (first | exact Nat.le_refl _ | exact Below.size (by (exact extA)))) | replace hS := Sep.updRow (i := 2) rfl hU hO hF hS (by (exact extA)) (by (first | exact Nat.le_refl _ | exact Below.size (by (exact extA)))) | replace hS := Sep.updRow (i := 3) rfl hU hO hF hS (by (exact extA)) (by (first | exact Nat.le_refl _ | exact Below.size (by (exact extA)))) | replace hS := Sep.updRow (i := 4) rfl hU hO hF hS (by (exact extA)) (by (first | exact Nat.le_refl _ | exact Below.size (by (exact extA)))) | replace hS := Sep.updRow (i := 5) rfl hU hO hF hS (by (exact extA)) (by (first | exact Nat.le_refl _ | exact Below.size (by (exact extA))))); (try simp only [List.set_cons_zero, List.set_cons_succ] at hS); (try have hR0 := hS.row (i := 0) rfl); (try have hR1 := hS.row (i := 1) rfl); (try have hR2 := hS.row (i := 2) rfl); (try have hR3 := hS.row (i := 3) rfl); (try have hR4 := hS.row (i := 4) rfl); (try have hC0 := hS.cell (i := 0) rfl); (try have hD0 := (cells_heap hC0).1); (try have hE0 := (cells_heap hC0).2.1); (try have hF0 := (cells_heap hC0).2.2.1); (try have hG0 := (cells_heap hC0).2.2.2.1); (try have hC1 := hS.cell (i := 1) rfl); (try have hD1 := (cells_heap hC1).1); (try have hE1 := (cells_heap hC1).2.1); (try have hF1 := (cells_heap hC1).2.2.1); (try have hG1 := (cells_heap hC1).2.2.2.1); (try have hC2 := hS.cell (i := 2) rfl); (try have hD2 := (cells_heap hC2).1); (try have hE2 := (cells_heap hC2).2.1); (try have hF2 := (cells_heap hC2).2.2.1); (try have hG2 := (cells_heap hC2).2.2.2.1); (try have hC3 := hS.cell (i := 3) rfl); (try have hD3 := (cells_heap hC3).1); (try have hE3 := (cells_heap hC3).2.1); (try have hF3 := (cells_heap hC3).2.2.1); (try have hG3 := (cells_heap hC3).2.2.2.1); (try have hC4 := hS.cell (i := 4) rfl); (try have hD4 := (cells_heap hC4).1); (try have hE4 := (cells_heap hC4).2.1); (try have hF4 := (cells_heap hC4).2.2.1); (try have hG4 := (cells_heap hC4).2.2.2.1); (try have hM0 := hS.map (i := 0) rfl); (try have hM1 := hS.map (i := 1) rfl); (try have hM2 := hS.map (i := 2) rfl); (try have hM3 := hS.map (i := 3) rfl); (try have hM4 := hS.map (i := 4) rfl))
        | (apply WL.storeF (w0 := wc) tOk; exact rfl; exact rfl; exact rfl; exact rfl; assumption; (exact extA); exact rfl; exact rfl; exact rfl; exact rfl; (exact extA); (first | assumption | omega | (focus (apply Nat.le_trans; rotate_left; assumption; exact Below.size (by (exact extA))))); intro w' hb hX' hU; replace hS := Sep.updCell (i := 2) rfl hU hb hS (by (exact extA)) (by (first | exact Nat.le_refl _ | exact Below.size (by (exact extA)))); (try simp only [List.set_cons_zero, List.set_cons_succ] at hS); (try have hR0 := hS.row (i := 0) rfl); (try have hR1 := hS.row (i := 1) rfl); (try have hR2 := hS.row (i := 2) rfl); (try have hR3 := hS.row (i := 3) rfl); (try have hR4 := hS.row (i := 4) rfl); (try have hC0 := hS.cell (i := 0) rfl); (try have hD0 := (cells_heap hC0).1); (try have hE0 := (cells_heap hC0).2.1); (try have hF0 := (cells_heap hC0).2.2.1); (try have hG0 := (cells_heap hC0).2.2.2.1); (try have hC1 := hS.cell (i := 1) rfl); (try have hD1 := (cells_heap hC1).1); (try have hE1 := (cells_heap hC1).2.1); (try have hF1 := (cells_heap hC1).2.2.1); (try have hG1 := (cells_heap hC1).2.2.2.1); (try have hC2 := hS.cell (i := 2) rfl); (try have hD2 := (cells_heap hC2).1); (try have hE2 := (cells_heap hC2).2.1); (try have hF2 := (cells_heap hC2).2.2.1); (try have hG2 := (cells_heap hC2).2.2.2.1); (try have hC3 := hS.cell (i := 3) rfl); (try have hD3 := (cells_heap hC3).1); (try have hE3 := (cells_heap hC3).2.1); (try have hF3 := (cells_heap hC3).2.2.1); (try have hG3 := (cells_heap hC3).2.2.2.1); (try have hC4 := hS.cell (i := 4) rfl); (try have hD4 := (cells_heap hC4).1); (try have hE4 := (cells_heap hC4).2.1); (try have hF4 := (cells_heap hC4).2.2.1); (try have hG4 := (cells_heap hC4).2.2.2.1); (try have hM0 := hS.map (i := 0) rfl); (try have hM1 := hS.map (i := 1) rfl); (try have hM2 := hS.map (i := 2) rfl); (try have hM3 := hS.map (i := 3) rfl); (try have hM4 := hS.map (i := 4) rfl))
        | (show SX _ _ _ _ _ _ _ _ _; first | (apply SX.done; intro w' hx) | (apply SX.fl0; exact rfl) | (apply SX.fl1; exact rfl; (exact extA)) | (apply SX.br1; exact rfl; intro w' hx))
        | (show FL _ _ _ _ _ _ _ _; first | apply FL.nilX | (apply FL.loadE tOk; exact rfl; exact rfl; exact rfl; exact rfl; exact rfl; assumption))
        | (show FL _ _ _ _ _ _ _ _; (refine FL.au (k := ?_)))
        | (show Z _ _ _ _ _; first | (apply Z.sxL; exact rfl) | (apply Z.sxE; (exact extA)))
        | (show WL _ _ _ _ _ _ _; first | apply WL.nil | (refine WL.au (k := ?_)))
        | (show Z _ _ _ _ _; first | apply Z.then_normal | apply Z.block_normal)
        | (show W _ _ _ _ _ _; apply W.region))
      exact Z.againW ⟨by omega, (by (exact extA)), a', cap', by rw [e1]; exact Sep.ext hS (by (exact extA))⟩ ⟨rfl, rfl, rfl, rfl, rfl, rfl, trivial⟩
    · skip
      have e2 : gateR A x = (litI A x.1, litI A x.2.1, litI A x.2.2) := by unfold gateR; rw [show max (litI A x.2.1) (litI A x.2.2) = litI A x.2.1 by omega, show min (litI A x.2.1) (litI A x.2.2) = litI A x.2.2 by omega]
      rw [e2] at e1
      skip
      refine W.condKF rfl (dec_false hab) ?_
      repeat' (first
        | (show W _ _ (.region 37 _ _) _ _ _; apply W.regionGX (.fl true 0 (.fl true 2 (.fl true 3 (.fl true 6 (.fl true 7 (.fl false 1 (.br 4 (.fl false 5 (.fl true 8 (.br 9 (.br 10 (.fl true 11 (.br 12 .done .stop)) .stop) .stop))) .stop))))))) [4, 5, 8, 9] tMix; kernel_rfl)
        | (apply SX.flP; exact rfl; (exact extA); exact rfl; exact rfl; exact rfl; exact rfl; (focus (intro w9 hw9; exact hof x.1 ok1 _ (Ext.trans (by (exact extA)) hw9))))
        | ((show FL _ _ _ _ (⟨_, .build 106 _, _, _, _, _⟩ :: _) _ _ _; apply FL.build (cs := [.int .i64 (litI A x.1), .int .i64 (litI A x.2.1), .int .i64 (litI A x.2.2)]) tOk; exact rfl; exact rfl; exact rfl; exact rfl; exact rfl; exact rfl; (first | kernel_rfl | exact rfl); kernel_rfl))
        | (apply WL.lit tOk; exact rfl; exact rfl; exact rfl; exact rfl; exact rfl; exact rfl; (first | exact rfl | kernel_rfl | (simp [Instr.fill, catCells]; done)); exact rfl; intro gb w' hb hge hc hx)
        | (apply WL.append1 (z := (((litI A x.1, litI A x.2.1, litI A x.2.2) : T3))) tOk enc3_ok; exact rfl; exact rfl; exact rfl; exact rfl; exact rfl; exact rfl; exact rfl; exact rfl; exact rfl; exact rfl; assumption; (exact extA); (first | exact rfl | (focus (simp only [List.length_set]; done)) | (focus (simp; done)) | (focus (simp [*]; done)) | omega | (focus (simp only [List.length_set]; omega))); (first | assumption | (refine Cells.ext ?_ (by assumption); exact extA)); exact rfl; exact rfl; (exact extA); (first | omega | (simp; omega) | (simp at *; omega)); intro a' cap' w' hO hX' hU hF; (first | replace hS := Sep.updRow (i := 0) rfl hU hO hF hS (by (exact extA)) (by (first | exact Nat.le_refl _ | exact Below.size (by (exact extA)))) | replace hS := Sep.updRow (i := 1) rfl hU hO hF hS (by (exact extA)) (by (first | exact Nat.le_refl _ | exact Below.size (by (exact extA)))) | replace hS := Sep.updRow (i := 2) rfl hU hO hF hS (by (exact extA)) (by (first | exact Nat.le_refl _ | exact Below.size (by (exact extA)))) | replace hS := Sep.updRow (i := 3) rfl hU hO hF hS (by (exact extA)) (by (first | exact Nat.le_refl _ | exact Below.size (by (exact extA)))) | replace hS := Sep.updRow (i := 4) rfl hU hO hF hS (by (exact extA)) (by (first | exact Nat.le_refl _ | exact Below.size (by (exact extA)))) | replace hS := Sep.updRow (i := 5) rfl hU hO hF hS (by (exact extA)) (by (first | exact Nat.le_refl _ | exact Below.size (by (exact extA))))); (try simp only [List.set_cons_zero, List.set_cons_succ] at hS); (try have hR0 := hS.row (i := 0) rfl); (try have hR1 := hS.row (i := 1) rfl); (try have hR2 := hS.row (i := 2) rfl); (try have hR3 := hS.row (i := 3) rfl); (try have hR4 := hS.row (i := 4) rfl); (try have hC0 := hS.cell (i := 0) rfl); (try have hD0 := (cells_heap hC0).1); (try have hE0 := (cells_heap hC0).2.1); (try have hF0 := (cells_heap hC0).2.2.1); (try have hG0 := (cells_heap hC0).2.2.2.1); (try have hC1 := hS.cell (i := 1) rfl); (try have hD1 := (cells_heap hC1).1); (try have hE1 := (cells_heap hC1).2.1); (try have hF1 := (cells_heap hC1).2.2.1); (try have hG1 := (cells_heap hC1).2.2.2.1); (try have hC2 := hS.cell (i := 2) rfl); (try have hD2 := (cells_heap hC2).1); (try have hE2 := (cells_heap hC2).2.1); (try have hF2 := (cells_heap hC2).2.2.1); (try have hG2 := (cells_heap hC2).2.2.2.1); (try have hC3 := hS.cell (i := 3) rfl); (try have hD3 := (cells_heap hC3).1); (try have hE3 := (cells_heap hC3).2.1); (try have hF3 := (cells_heap hC3).2.2.1); (try have hG3 := (cells_heap hC3).2.2.2.1); (try have hC4 := hS.cell (i := 4) rfl); (try have hD4 := (cells_heap hC4).1); (try have hE4 := (cells_heap hC4).2.1); (try have hF4 := (cells_heap hC4).2.2.1); (try have hG4 := (cells_heap hC4).2.2.2.1); (try have hM0 := hS.map (i := 0) rfl); (try have hM1 := hS.map (i := 1) rfl); (try have hM2 := hS.map (i := 2) rfl); (try have hM3 := hS.map (i := 3) rfl); (try have hM4 := hS.map (i := 4) rfl))
        | (apply WL.storeF (w0 := wc) tOk; exact rfl; exact rfl; exact rfl; exact rfl; assumption; (exact extA); exact rfl; exact rfl; exact rfl; exact rfl; (exact extA); (first | assumption | omega | (focus (apply Nat.le_trans; rotate_left; assumption; exact Below.size (by (exact extA))))); intro w' hb hX' hU; replace hS := Sep.updCell (i := 2) rfl hU hb hS (by (exact extA)) (by (first | exact Nat.le_refl _ | exact Below.size (by (exact extA)))); (try simp only [List.set_cons_zero, List.set_cons_succ] at hS); (try have hR0 := hS.row (i := 0) rfl); (try have hR1 := hS.row (i := 1) rfl); (try have hR2 := hS.row (i := 2) rfl); (try have hR3 := hS.row (i := 3) rfl); (try have hR4 := hS.row (i := 4) rfl); (try have hC0 := hS.cell (i := 0) rfl); (try have hD0 := (cells_heap hC0).1); (try have hE0 := (cells_heap hC0).2.1); (try have hF0 := (cells_heap hC0).2.2.1); (try have hG0 := (cells_heap hC0).2.2.2.1); (try have hC1 := hS.cell (i := 1) rfl); (try have hD1 := (cells_heap hC1).1); (try have hE1 := (cells_heap hC1).2.1); (try have hF1 := (cells_heap hC1).2.2.1); (try have hG1 := (cells_heap hC1).2.2.2.1); (try have hC2 := hS.cell (i := 2) rfl); (try have hD2 := (cells_heap hC2).1); (try have hE2 := (cells_heap hC2).2.1); (try have hF2 := (cells_heap hC2).2.2.1); (try have hG2 := (cells_heap hC2).2.2.2.1); (try have hC3 := hS.cell (i := 3) rfl); (try have hD3 := (cells_heap hC3).1); (try have hE3 := (cells_heap hC3).2.1); (try have hF3 := (cells_heap hC3).2.2.1); (try have hG3 := (cells_heap hC3).2.2.2.1); (try have hC4 := hS.cell (i := 4) rfl); (try have hD4 := (cells_heap hC4).1); (try have hE4 := (cells_heap hC4).2.1); (try have hF4 := (cells_heap hC4).2.2.1); (try have hG4 := (cells_heap hC4).2.2.2.1); (try have hM0 := hS.map (i := 0) rfl); (try have hM1 := hS.map (i := 1) rfl); (try have hM2 := hS.map (i := 2) rfl); (try have hM3 := hS.map (i := 3) rfl); (try have hM4 := hS.map (i := 4) rfl))
        | (show SX _ _ _ _ _ _ _ _ _; first | (apply SX.done; intro w' hx) | (apply SX.fl0; exact rfl) | (apply SX.fl1; exact rfl; (exact extA)) | (apply SX.br1; exact rfl; intro w' hx))
        | (show FL _ _ _ _ _ _ _ _; first | apply FL.nilX | (apply FL.loadE tOk; exact rfl; exact rfl; exact rfl; exact rfl; exact rfl; assumption))
        | (show FL _ _ _ _ _ _ _ _; (refine FL.au (k := ?_)))
        | (show Z _ _ _ _ _; first | (apply Z.sxL; exact rfl) | (apply Z.sxE; (exact extA)))
        | (show WL _ _ _ _ _ _ _; first | apply WL.nil | (refine WL.au (k := ?_)))
        | (show Z _ _ _ _ _; first | apply Z.then_normal | apply Z.block_normal)
        | (show W _ _ _ _ _ _; first | apply W.region | apply W.skip))
      exact Z.againW ⟨by omega, (by (exact extA)), a', cap', by rw [e1]; exact Sep.ext hS (by (exact extA))⟩ ⟨rfl, rfl, rfl, rfl, rfl, rfl, trivial⟩
  obtain rfl : k = (ordL c.gates.2.2).length := by omega
  rw [gatesR_all hg] at hS hL2
  have hlA : c.lat.2.2.map (latR A) = (numC c.t).lat := by rw [hA]; exact latR_all (c := c.t) hg
  rw [hlA] at hS
  have hlen : (cNet c.t).1.length = c.ins.2.2.length + c.lat.2.2.length + (ordL c.gates.2.2).length := hl1.1
  have hcell11 := hS.cell (i := 2) rfl
  rw [hRS] at hS
  have hg2 : wc.heap.size ≤ g2 := (hS.lt (i := 9) rfl rfl).1
  have hcell2 : w8.heap[g2]? = some (.cells (Value.cells (.agg #[.int .i64 0, .slice none 0 0, .slice none 0 0, .slice none 0 0, .slice none 0 0, .slice none 0 0, .slice none 0 0, .slice none 0 0, .string ⟨#[]⟩])) 28 (0, 0)) := by have := hS.cell (i := 9) rfl; rw [hzC] at this; exact this
  have hX8w : Ext w w8 := hxc.trans hX8
  obtain ⟨dd, hdd⟩ : ∃ dd : Circ, dd = ⟨((cNet c.t).1.length : Nat), (ai, ci, c.ins.2.2.map (litI A)), (al, cl, (numC c.t).lat), (ao, co, c.outs.2.2.map (litI A)), (ab, cb, c.bads.2.2.map (litI A)), (an, cn, c.cons.2.2.map (litI A)), (ag, cg, (numC c.t).gates), c.syms, c.com⟩ := ⟨_, rfl⟩
  have hcd : Cells w8 g11 0 dd.vals := by
    rw [hdd]
    have := cells_heap hcell11
    show Cells w8 g11 0 [.int .i64 ((cNet c.t).1.length : Nat), _, _, _, _, _, _, _, _]
    rw [hlen]
    exact this
  have hddt : dd.t = numC c.t := by
    rw [hdd]
    show (⟨((cNet c.t).1.length : Nat), c.ins.2.2.map (litI A), (numC c.t).lat, c.outs.2.2.map (litI A), c.bads.2.2.map (litI A), c.cons.2.2.map (litI A), (numC c.t).gates, c.syms.2.2, c.com⟩ : CirT) = _
    rw [hA, num_ins (c := c.t) hg]; rfl
  have hg2w : w.heap.size ≤ g2 := Nat.le_trans (Below.size hxc) hg2
  clear hcells y0 y1 y2 y3 y4 y5 y6
  repeat' (first
    | (show WL _ _ _ _ _ _ _; first | apply WL.nil | (refine WL.au (k := ?_)))
    | (show Z _ _ _ _ _; apply Z.then_normal)
    | (show W _ _ _ _ _ _; first | apply W.seq | apply W.region))
  refine W.condKF rfl (dec_false (by omega)) ?_
  repeat' (first
    | (apply WL.storeB (w0 := w) tOk; exact rfl; exact rfl; exact rfl; exact rfl; assumption; (exact extA); exact rfl; exact rfl; exact rfl; (exact extA); (first | assumption | omega | (focus (apply Nat.le_trans; rotate_left; assumption; exact Below.size (by (exact extA)); done))); intro w' hb hc hX' hU; have hcc := hc; obtain ⟨h1, h2, _⟩ := hc; (obtain ⟨w9, rfl⟩ : ∃ x, x = w' := ⟨_, rfl⟩; obtain ⟨hb9, rfl⟩ : ∃ x, x = hb := ⟨_, rfl⟩; obtain ⟨hX9, rfl⟩ : ∃ x, x = hX' := ⟨_, rfl⟩))
    | (show WL _ _ _ _ _ _ _; first | apply WL.nil | (refine WL.au (k := ?_)))
    | (show Z _ _ _ _ _; first | apply Z.then_normal | apply Z.then_exit | apply Z.block_exit)
    | (show W _ _ _ _ _ _; first | apply W.seq | apply W.region | apply W.ret | apply W.exit))
  have hS9 := hS.updCell (i := 9) rfl hU hb9 (Ext.refl _) (Below.size hX8)
  have hX9w : Ext wc w9 := hU.ext hX8 hg2
  have o0 := hS9.row (i := 0) rfl
  have o1 := hS9.row (i := 1) rfl
  have o3 := hS9.row (i := 3) rfl
  have o4 := hS9.row (i := 4) rfl
  have o5 := hS9.row (i := 5) rfl
  have o6 := hS9.row (i := 6) rfl
  have o8 := hS9.row (i := 8) rfl
  have hCd : CAt w9 dd := by
    rw [hdd]
    exact ⟨⟨o6.row encI_ok, o6.capLe, o6.noneCap⟩, ⟨o1.row enc3_ok, o1.capLe, o1.noneCap⟩, ⟨o5.row encI_ok, o5.capLe, o5.noneCap⟩, ⟨o4.row encI_ok, o4.capLe, o4.noneCap⟩, ⟨o3.row encI_ok, o3.capLe, o3.noneCap⟩, ⟨o0.row enc3_ok, o0.capLe, o0.noneCap⟩, hC.syms.ext (hxc.trans hX9w)⟩
  have hc2 : Cells w9 g2 0 dd.vals := cells_heap hb9
  refine Z.bodyCT tOk Try.results31 rfl rfl rfl rfl rfl hc2 fun m => ⟨(hxc.trans hX9w).at m, dd, d, dp, ?_, hddt, hCd.ext ((Ext.refl _).at m), (o8.row encI_ok).ext ((Ext.refl _).at m)⟩
  rw [hl2]
end Go.Proofs.Ythpnahapiodflaa
namespace Go.Proofs.Ythpnahapiodflaa
open Go Go.Lt Go.RowKit
set_option linter.unusedVariables false
set_option linter.unusedSimpArgs false
set_option maxRecDepth 20000

theorem renum_Number1 (w : World) (g5 : Nat) (aa : Option Addr) (ca : Nat) (A : List Int) (l : Int) (hc : w.cell? ⟨g5, 0, none⟩ = some (.slice aa A.length ca)) (R : Row 1 encI w aa A) (h : LitOk A l) :
    Still Try.prog 88 [.int .i64 l, .pointer (some ⟨g5, 0, none⟩)] w (.int .i64 (litI A l)) := by
  obtain ⟨h0, h1, z, hz, z0, z2, z3⟩ := h
  have hlt := lt_of_get hz
  have hl := R.len
  have e0 : litI A l = xorI z (l % 2) := litI_some hz
  refine Spec.of _ Try.func88 rfl Try.ntmps88 (by kernel_rfl) rfl ?_
  repeat' (first
    | (apply WL.andA; exact rfl; exact rfl; exact rfl; exact rfl)
    | (apply WL.xorI; exact rfl; exact rfl; exact rfl; exact rfl; omega; omega)
    | (show WL _ _ _ _ _ _ _; first | apply WL.nil | (refine WL.au (k := ?_)) | (apply WL.index tOk; exact rfl; exact rfl; exact rfl; exact rfl; exact rfl; exact rfl; exact rfl; exact rfl; assumption; (exact extA); exact rfl; omega; assumption; intro b off h; have hcc := h; first | (obtain ⟨h1, h2, h3, h4, h5, h6, _⟩ := h) | (obtain ⟨h1, h2, h3, _⟩ := h) | (obtain ⟨h1, h2, _⟩ := h) | (obtain ⟨h1, _⟩ := h)))
    | (show Z _ _ _ _ _; apply Z.then_normal)
    | (show W _ _ _ _ _ _; first | apply W.seq | apply W.region | apply W.ret))
  exact Z.body1 Try.results88 rfl fun m => ⟨by rw [e0], m, rfl⟩
abbrev encRI : RowV Int → List Value := encRow
theorem encRI_ok : Enc 1 encRI := encRow_ok
/-- Another block, older than all pieces, is written. -/
theorem Sep.updOld {B B' g : Nat} {w w' : World} {ps : List Piece} (hS : Lt.Sep B w ps) (hU : Upd B' (some ⟨g, 0, none⟩) w w') (hg : g < B) : Lt.Sep B w' ps := by
  refine ⟨fun i p h => ⟨p.keep (hS.holds i p h).1 (fun k hk => hU.grown.block k ((hS.holds i p h).2 k hk).2 (fun he => ?_)), fun k hk => ⟨((hS.holds i p h).2 k hk).1, Nat.lt_of_lt_of_le ((hS.holds i p h).2 k hk).2 hU.grown.size⟩⟩, hS.apart⟩
  have h1 := ((hS.holds i p h).2 k hk).1
  simp only [blk, Option.map_some, Option.some.injEq] at he
  omega
theorem set_same {α : Type} {l : List α} {i : Nat} {x : α} (h : l[i]? = some x) : l.set i x = l := by
  apply List.ext_getElem?
  intro j
  rw [List.getElem?_set]
  split
  · rename_i hij; subst hij
    split
    · exact h.symm
    · rw [List.getElem?_eq_none (by omega)]
  · rfl
/-- Some of a list's first ones in other numbers. -/
def mapT {α : Type} (f : α → α) (L : List α) (k : Nat) : List α := (L.take k).map f ++ L.drop k
theorem mapT_0 {α : Type} (f : α → α) (L : List α) : mapT f L 0 = L := by simp [mapT]
theorem mapT_all {α : Type} (f : α → α) (L : List α) : mapT f L L.length = L.map f := by simp [mapT]
theorem mapT_len {α : Type} (f : α → α) (L : List α) (k : Nat) (h : k ≤ L.length) : (mapT f L k).length = L.length := by
  unfold mapT; rw [List.length_append, List.length_map, List.length_take, List.length_drop]; omega
theorem mapT_get {α : Type} {f : α → α} {L : List α} {k : Nat} {x : α} (h : L[k]? = some x) : (mapT f L k)[k]? = some x := by
  have hk := lt_of_get h
  have hl : ((L.take k).map f).length = k := by rw [List.length_map, List.length_take]; omega
  unfold mapT
  rw [List.getElem?_append_right (by omega), hl, Nat.sub_self, List.getElem?_drop, Nat.add_zero]; exact h
theorem mapT_set {α : Type} {f : α → α} {L : List α} {k : Nat} {x : α} (h : L[k]? = some x) : (mapT f L k).set k (f x) = mapT f L (k + 1) := by
  have hk := lt_of_get h
  have hl : ((L.take k).map f).length = k := by rw [List.length_map, List.length_take]; omega
  unfold mapT
  rw [take_succ' h, List.map_append, List.set_append_right _ _ (by omega), hl, Nat.sub_self, List.drop_eq_getElem_cons hk, List.set_cons_zero, List.append_assoc]
  rfl

/-- The gates among a net's first nodes. -/
def gTo (N : List (Int × Int)) : Nat → List T3
  | 0 => []
  | k + 1 => match N[k]? with | some x => if 0 ≤ x.1 then gTo N k ++ [gateG k x] else gTo N k | none => gTo N k
theorem gTo_yes {N : List (Int × Int)} {k : Nat} {x : Int × Int} (h : N[k]? = some x) (h0 : 0 ≤ x.1) : gTo N (k + 1) = gTo N k ++ [gateG k x] := by rw [gTo, h]; exact if_pos h0
theorem gTo_no {N : List (Int × Int)} {k : Nat} {x : Int × Int} (h : N[k]? = some x) (h0 : ¬ 0 ≤ x.1) : gTo N (k + 1) = gTo N k := by rw [gTo, h]; exact if_neg h0
theorem gTo_in {m : Nat} {N : List (Int × Int)} (h : OnlyG m N) : ∀ k, k ≤ m → gTo N k = []
  | 0, _ => rfl
  | k + 1, hk => by
    obtain ⟨x, hx⟩ := getI N (show k < N.length by have := h.le; omega)
    rw [gTo_no hx (by rw [h.inp k x hx (by omega)]; decide)]
    exact gTo_in h k (by omega)
theorem gTo_all {m : Nat} {N : List (Int × Int)} (h : OnlyG m N) : ∀ j, m + j ≤ N.length → gTo N (m + j) = gatesG N m j
  | 0, _ => by rw [Nat.add_zero, gTo_in h m (Nat.le_refl _)]; rfl
  | j + 1, hj => by
    obtain ⟨x, hx⟩ := getI N (show m + j < N.length by omega)
    rw [← Nat.add_assoc, gTo_yes hx (h.gate _ x hx (by omega)), gTo_all h j (by omega)]
    unfold gatesG
    rw [List.range_succ, List.map_append, List.map_singleton, getD_of hx]
theorem gTo_len (N : List (Int × Int)) : ∀ k, (gTo N k).length ≤ k
  | 0 => Nat.le_refl _
  | k + 1 => by
    have := gTo_len N k
    rw [gTo]
    split
    · split
      · rw [List.length_append, List.length_singleton]; omega
      · omega
    · omega
noncomputable def latP (A : List Int) (x : T3) : T3 := (litI A x.1, litI A x.2.1, if x.2.2 = x.1 then litI A x.1 else x.2.2)
theorem latP_yes {A : List Int} {x : T3} (h : x.2.2 = x.1) : latP A x = (litI A x.1, litI A x.2.1, litI A x.1) := by unfold latP; rw [if_pos h]
theorem latP_no {A : List Int} {x : T3} (h : ¬ x.2.2 = x.1) : latP A x = (litI A x.1, litI A x.2.1, x.2.2) := by unfold latP; rw [if_neg h]
theorem latP_all {c : CirT} (h : GoodC' c) : c.lat.map (latP (cNet c).2) = (numC c).lat := by
  apply List.ext_getElem?
  intro k
  by_cases hk : k < c.lat.length
  · obtain ⟨x, hx⟩ := getI c.lat hk
    rw [List.getElem?_map, hx, num_lat hx]
    show some (latP _ x) = _
    unfold latP
    rw [net_own h (seq_lat hx)]
  · rw [List.getElem?_eq_none (by rw [List.length_map]; omega), List.getElem?_eq_none (by rw [num_latlen]; omega)]
set_option maxHeartbeats 32000000 in
theorem renum_Number (c : Circ) (w : World) (hC : CAt w c) (hg : GoodC' c.t) (hz : SzC c.t 100000) (hz7 : c.t.syms.length ≤ 100000) :
    Lt.Spec Try.prog 30 [c.val] w (fun v w' => Ext w w' ∧ ∃ (d : Circ) (aa : Option Addr) (ca : Nat), v = .tuple #[d.val, .slice aa (cNet c.t).2.length ca] ∧ d.t = numC c.t ∧ CAt w' d ∧ Row 1 encI w' aa (cNet c.t).2) := by
  have z1 : c.ins.2.2.length ≤ 100000 := hz.1
  have z2 : c.lat.2.2.length ≤ 100000 := hz.2.1
  have z3 : c.outs.2.2.length ≤ 100000 := hz.2.2.1
  have z4 : c.bads.2.2.length ≤ 100000 := hz.2.2.2.1
  have z5 : c.cons.2.2.length ≤ 100000 := hz.2.2.2.2.1
  have hnl := net_len hg hz
  have hgn := (cNet_ok hg).2
  obtain ⟨A, hA⟩ : ∃ A, A = (cNet c.t).2 := ⟨_, rfl⟩
  obtain ⟨NN, hNN⟩ : ∃ N, N = (cNet c.t).1 := ⟨_, rfl⟩
  have oki : ∀ l ∈ c.ins.2.2, LitOk A l := fun l hl => by rw [hA]; exact net_litOk hg hz (.inr (List.mem_append_left _ (List.mem_append_left _ hl)))
  have oku : ∀ l ∈ c.t.used, LitOk A l := fun l hl => by rw [hA]; exact net_litOk hg hz (.inl hl)
  have okw : ∀ l ∈ c.t.own, LitOk A l := fun l hl => by rw [hA]; exact net_litOk hg hz (.inr hl)
  have oko : ∀ l ∈ c.outs.2.2, LitOk A l := fun l hl => oku l (List.mem_append_left _ (List.mem_append_left _ (List.mem_append_left _ (List.mem_append_left _ hl))))
  have okb : ∀ l ∈ c.bads.2.2, LitOk A l := fun l hl => oku l (used_bad (c := c.t) hl)
  have okc : ∀ l ∈ c.cons.2.2, LitOk A l := fun l hl => oku l (used_con (c := c.t) hl)
  refine Spec.of _ Try.func30 rfl Try.ntmps30 (by kernel_rfl) rfl ?_
  repeat' (first
    | (apply WL.box; exact rfl; exact rfl; exact rfl; intro gb w' hb hge hc hx; have hcc := hc; (first | (obtain ⟨h1, h2, h3, _⟩ := hc) | (obtain ⟨h1, h2, _⟩ := hc)); (obtain ⟨gc, rfl⟩ : ∃ x, x = gb := ⟨_, rfl⟩; obtain ⟨wc, rfl⟩ : ∃ x, x = w' := ⟨_, rfl⟩; obtain ⟨hxc, rfl⟩ : ∃ x, x = hx := ⟨_, rfl⟩; have hcells : Cells wc gc 0 c.vals := hcc))
    | (apply WL.alloc tOk; exact rfl; exact rfl; exact rfl; intro gb w' hb hge hx; (first | (have h_0 := g2; clear h_0; obtain ⟨g5, rfl⟩ : ∃ x, x = gb := ⟨_, rfl⟩; obtain ⟨hb5, rfl⟩ : ∃ x, x = hb := ⟨_, rfl⟩; obtain ⟨hge5, rfl⟩ : ∃ x, x = hge := ⟨_, rfl⟩; obtain ⟨hx5, rfl⟩ : ∃ x, x = hx := ⟨_, rfl⟩) | (obtain ⟨g2, rfl⟩ : ∃ x, x = gb := ⟨_, rfl⟩; obtain ⟨w2, rfl⟩ : ∃ x, x = w' := ⟨_, rfl⟩; obtain ⟨hx2, rfl⟩ : ∃ x, x = hx := ⟨_, rfl⟩; obtain ⟨hb2, rfl⟩ : ∃ x, x = hb := ⟨_, rfl⟩; obtain ⟨hge2, rfl⟩ : ∃ x, x = hge := ⟨_, rfl⟩)))
    | (((show WL _ _ _ (⟨_, .call ⟨.value (.func 87), _, _⟩, _, _, _, _⟩ :: _) _ _ _); apply WL.call; exact rfl; exact rfl; exact rfl; exact rfl; exact circ_Net c _ (hC.ext (by (exact extA))) hg hz; rintro v' w3 ⟨hx3, an, cn, aa, ca, rfl, hOn, hOa⟩))
    | (apply WL.storeB (w0 := w3) tOk; exact rfl; exact rfl; exact rfl; exact rfl; assumption; (exact extA); exact rfl; exact rfl; exact rfl; (exact extA); (first | assumption | omega | (focus (apply Nat.le_trans; rotate_left; assumption; exact Below.size (by (exact extA)); done))); intro w' hb hc hX' hU; have hcc := hc; obtain ⟨h1, h2, _⟩ := hc; (obtain ⟨wk, rfl⟩ : ∃ x, x = w' := ⟨_, rfl⟩; obtain ⟨hbk, rfl⟩ : ∃ x, x = hb := ⟨_, rfl⟩; obtain ⟨hXk, rfl⟩ : ∃ x, x = hX' := ⟨_, rfl⟩))
    | (show WL _ _ _ _ _ _ _; first | apply WL.nil | (refine WL.au (k := ?_)))
    | (show Z _ _ _ _ _; apply Z.then_normal)
    | (show W _ _ _ _ _ _; first | apply W.seq | apply W.region))
  have hX3k : Ext w3 wk := hXk
  have hXwk : Ext w wk := hxc.trans (hx2.trans (hx3.trans hXk))
  have hc5 : wk.cell? ⟨g5, 0, none⟩ = some (.slice aa (cNet c.t).2.length ca) := (cells_heap hbk).1
  have RNk : Row 2 encN wk an (cNet c.t).1 := (hOn.row encN_ok).ext hXk
  have RAk : Row 1 encI wk aa (cNet c.t).2 := (hOa.row encI_ok).ext hXk
  have hg5k : g5 < wk.heap.size := heap_lt hbk
  clear hU hcc h1 h2
  repeat' (first
    | (((show WL _ _ _ (⟨_, .call ⟨.value (.func 89), _, _⟩, _, _, _, _⟩ :: _) _ _ _); apply WL.call; exact rfl; exact rfl; exact rfl; exact rfl; exact circ_Clone c wk (hC.ext hXwk) hz hz7; rintro v' w6 ⟨hx6, d, rfl, hdt, hOd⟩))
    | (apply WL.alloc tOk; exact rfl; exact rfl; exact rfl; intro gb w' hb hge hx; (obtain ⟨g7, rfl⟩ : ∃ x, x = gb := ⟨_, rfl⟩; obtain ⟨w7, rfl⟩ : ∃ x, x = w' := ⟨_, rfl⟩; obtain ⟨hb7, rfl⟩ : ∃ x, x = hb := ⟨_, rfl⟩; obtain ⟨hge7, rfl⟩ : ∃ x, x = hge := ⟨_, rfl⟩; obtain ⟨hx7, rfl⟩ : ∃ x, x = hx := ⟨_, rfl⟩))
    | (apply WL.storeB (w0 := w6) tOk; exact rfl; exact rfl; exact rfl; exact rfl; assumption; (exact extA); exact rfl; exact rfl; exact rfl; (exact extA); (first | assumption | omega | (focus (apply Nat.le_trans; rotate_left; assumption; exact Below.size (by (exact extA)); done))); intro w' hb hc hX' hU; have hcc := hc; obtain ⟨h1, h2, _⟩ := hc; (obtain ⟨w8, rfl⟩ : ∃ x, x = w' := ⟨_, rfl⟩; obtain ⟨hb8, rfl⟩ : ∃ x, x = hb := ⟨_, rfl⟩; obtain ⟨hX8, rfl⟩ : ∃ x, x = hX' := ⟨_, rfl⟩))
    | (show WL _ _ _ _ _ _ _; first | apply WL.nil | (refine WL.au (k := ?_)))
    | (show Z _ _ _ _ _; apply Z.then_normal)
    | (show W _ _ _ _ _ _; first | apply W.seq | apply W.region))
  have hS : Lt.Sep wk.heap.size w8 (pcell g7 d.vals.toArray 28 :: d.ps wk.heap.size) := Sep.newCell hOd.sep hX8 hb8 hge7 (Below.size hx6)
  have hg7 : wk.heap.size ≤ g7 := (hS.lt (i := 0) rfl rfl).1
  have hXk8 : Ext wk w8 := hx6.trans hX8
  clear hU hcc h1 h2 hb7
  obtain ⟨y0, y1, y2, y3, y4, y5, y6, y7, y8, _⟩ := cells_heap (hS.cell (i := 0) rfl)
  have hC0 := hS.cell (i := 0) rfl
  clear y0 y1 y2 y3 y4 y5 y6 y7 y8
  repeat' (first
    | (apply WL.storeF (w0 := wk) tOk; exact rfl; exact rfl; exact rfl; exact rfl; assumption; (exact extA); exact rfl; exact rfl; exact rfl; exact rfl; (exact extA); (first | assumption | omega | (focus (apply Nat.le_trans; rotate_left; assumption; exact Below.size (by (exact extA))))); intro w' hb hX' hU; replace hS := Sep.updCell (i := 0) rfl hU hb hS (by (exact extA)) (by (first | exact Nat.le_refl _ | exact Below.size (by (exact extA)))); (try simp only [List.set_cons_zero, List.set_cons_succ] at hS); (try have hR0 := hS.row (i := 0) rfl); (try have hR1 := hS.row (i := 1) rfl); (try have hR2 := hS.row (i := 2) rfl); (try have hR3 := hS.row (i := 3) rfl); (try have hR4 := hS.row (i := 4) rfl); (try have hC0 := hS.cell (i := 0) rfl); (try have hD0 := (cells_heap hC0).1); (try have hE0 := (cells_heap hC0).2.1); (try have hF0 := (cells_heap hC0).2.2.1); (try have hG0 := (cells_heap hC0).2.2.2.1); (try have hC1 := hS.cell (i := 1) rfl); (try have hD1 := (cells_heap hC1).1); (try have hE1 := (cells_heap hC1).2.1); (try have hF1 := (cells_heap hC1).2.2.1); (try have hG1 := (cells_heap hC1).2.2.2.1); (try have hC2 := hS.cell (i := 2) rfl); (try have hD2 := (cells_heap hC2).1); (try have hE2 := (cells_heap hC2).2.1); (try have hF2 := (cells_heap hC2).2.2.1); (try have hG2 := (cells_heap hC2).2.2.2.1); (try have hC3 := hS.cell (i := 3) rfl); (try have hD3 := (cells_heap hC3).1); (try have hE3 := (cells_heap hC3).2.1); (try have hF3 := (cells_heap hC3).2.2.1); (try have hG3 := (cells_heap hC3).2.2.2.1); (try have hC4 := hS.cell (i := 4) rfl); (try have hD4 := (cells_heap hC4).1); (try have hE4 := (cells_heap hC4).2.1); (try have hF4 := (cells_heap hC4).2.2.1); (try have hG4 := (cells_heap hC4).2.2.2.1); (try have hM0 := hS.map (i := 0) rfl); (try have hM1 := hS.map (i := 1) rfl); (try have hM2 := hS.map (i := 2) rfl); (try have hM3 := hS.map (i := 3) rfl); (try have hM4 := hS.map (i := 4) rfl))
    | (show WL _ _ _ _ _ _ _; first | apply WL.nil | (refine WL.au (k := ?_)))
    | (show Z _ _ _ _ _; apply Z.then_normal)
    | (show W _ _ _ _ _ _; first | apply W.seq | apply W.region))
  obtain ⟨y0, y1, y2, y3, y4, y5, y6, y7, y8, _⟩ := cells_heap (hS.cell (i := 0) rfl)
  repeat' (first
    | (apply WL.lit tOk; exact rfl; exact rfl; exact rfl; exact rfl; exact rfl; exact rfl; (first | exact rfl | kernel_rfl | (simp [Instr.fill, catCells]; done)); exact rfl; intro gb w' hb hge hc hx; have hO := Own.of_block ([d.ins, d.outs, d.bads, d.cons]) encRI_ok hb hge rfl; (obtain ⟨g36, rfl⟩ : ∃ x, x = gb := ⟨_, rfl⟩; obtain ⟨w9, rfl⟩ : ∃ x, x = w' := ⟨_, rfl⟩; obtain ⟨hx9, rfl⟩ : ∃ x, x = hx := ⟨_, rfl⟩; obtain ⟨hO9, rfl⟩ : ∃ x, x = hO := ⟨_, rfl⟩))
    | (show WL _ _ _ _ _ _ _; first | apply WL.nil | (refine WL.au (k := ?_)))
    | (show Z _ _ _ _ _; apply Z.then_normal)
    | (show W _ _ _ _ _ _; apply W.block))
  have hSv : Lt.Sep wk.heap.size w9 (prow 1 encRI 23 wk.heap.size (some ⟨g36, 0, none⟩) 4 [d.ins, d.outs, d.bads, d.cons] :: pcell g7 ([.int .i64 ((cNet c.t).1.length : Nat), rowVal d.ins, rowVal d.lat, rowVal d.outs, rowVal d.bads, rowVal d.cons, .slice none 0 0, rowVal d.syms, .string d.com] : List Value).toArray 28 :: d.ps wk.heap.size) := Sep.newRow' hS hx9 hO9 (Below.size (by (exact extA)))
  have hXk9 : Ext wk w9 := (by (exact extA))
  clear hS hC0 y0 y1 y2 y3 y4 y5 y6 y7 y8
  obtain ⟨f, hf⟩ : ∃ f, f = litI (cNet c.t).2 := ⟨_, rfl⟩
  obtain ⟨L, hL⟩ : ∃ L : Nat → Nat → List Int → List Int, L = fun k j l => if j < k then l.map f else l := ⟨_, rfl⟩
  obtain ⟨PS, hPS⟩ : ∃ PS : Nat → List Piece, PS = fun k => [prow 1 encRI 23 wk.heap.size (some ⟨g36, 0, none⟩) 4 [d.ins, d.outs, d.bads, d.cons], pcell g7 ([.int .i64 ((cNet c.t).1.length : Nat), rowVal d.ins, rowVal d.lat, rowVal d.outs, rowVal d.bads, rowVal d.cons, .slice none 0 0, rowVal d.syms, .string d.com] : List Value).toArray 28, prowZ 3 encY 110 wk.heap.size d.syms.1 d.syms.2.1 d.syms.2.2, prowZ 3 enc3 106 wk.heap.size d.gates.1 d.gates.2.1 d.gates.2.2, prowZ 3 enc3 69 wk.heap.size d.lat.1 d.lat.2.1 (d.lat.2.2), prowZ 1 encI 3 wk.heap.size d.cons.1 d.cons.2.1 (L k 3 d.cons.2.2), prowZ 1 encI 3 wk.heap.size d.bads.1 d.bads.2.1 (L k 2 d.bads.2.2), prowZ 1 encI 3 wk.heap.size d.outs.1 d.outs.2.1 (L k 1 d.outs.2.2), prowZ 1 encI 3 wk.heap.size d.ins.1 d.ins.2.1 (L k 0 d.ins.2.2)] := ⟨_, rfl⟩
  have hS0 : Lt.Sep wk.heap.size w9 (PS 0) := by rw [hPS, hL]; exact hSv
  have hdi : d.ins.2.2 = c.ins.2.2 := congrArg CirT.ins hdt
  have hdo : d.outs.2.2 = c.outs.2.2 := congrArg CirT.outs hdt
  have hdb : d.bads.2.2 = c.bads.2.2 := congrArg CirT.bads hdt
  have hdc : d.cons.2.2 = c.cons.2.2 := congrArg CirT.cons hdt
  have hdl : d.lat.2.2 = c.lat.2.2 := congrArg CirT.lat hdt
  rw [← hA] at hf
  have hk4 : ∀ k, k < 4 → ∃ (ix : Nat) (q : RowV Int), ([d.ins, d.outs, d.bads, d.cons] : List (RowV Int))[k]? = some q ∧ ix ≠ 0 ∧ (PS k)[ix]? = some (prowZ 1 encI 3 wk.heap.size q.1 q.2.1 q.2.2) ∧ (PS k).set ix (prowZ 1 encI 3 wk.heap.size q.1 q.2.1 (q.2.2.map f)) = PS (k + 1) ∧ (∀ l ∈ q.2.2, LitOk A l) ∧ q.2.2.length ≤ 100000 := by
    intro k hk
    rw [hPS, hL]
    match k, hk with
    | 0, _ => exact ⟨8, d.ins, rfl, by decide, rfl, rfl, by rw [hdi]; exact oki, by rw [hdi]; exact z1⟩
    | 1, _ => exact ⟨7, d.outs, rfl, by decide, rfl, rfl, by rw [hdo]; exact oko, by rw [hdo]; exact z3⟩
    | 2, _ => exact ⟨6, d.bads, rfl, by decide, rfl, rfl, by rw [hdb]; exact okb, by rw [hdb]; exact z4⟩
    | 3, _ => exact ⟨5, d.cons, rfl, by decide, rfl, rfl, by rw [hdc]; exact okc, by rw [hdc]; exact z5⟩
  clear hSv
  refine W.loopW 4 (fun k w' => k ≤ 4 ∧ Ext wk w' ∧ Lt.Sep wk.heap.size w' (PS k)) (fun k => [(2, .pointer (some ⟨g2, 0, none⟩)), (4, .slice an (cNet c.t).1.length cn), (5, .pointer (some ⟨g5, 0, none⟩)), (6, .func (.func 88) #[] #[.pointer (some ⟨g5, 0, none⟩)]), (7, .pointer (some ⟨g7, 0, none⟩)), (36, .slice (some ⟨g36, 0, none⟩) 4 4), (37, .int .i64 4), (38, .int .i64 k)]) ⟨Nat.zero_le _, hXk9, hS0⟩ (fun k w' h => h.1) ⟨rfl, rfl, rfl, rfl, rfl, rfl, rfl, rfl, trivial⟩ ?_
  clear hS0 hXk9
  rintro k w10 ⟨hk, hX10, hS⟩
  by_cases hlt : k < 4
  · obtain ⟨ix, q, hq, hix, hpi, hset, okq, zq⟩ := hk4 k hlt
    have hR36 : Row 1 encRI w10 (some ⟨g36, 0, none⟩) [d.ins, d.outs, d.bads, d.cons] := by
      have h0 : (PS k)[0]? = some (prow 1 encRI 23 wk.heap.size (some ⟨g36, 0, none⟩) 4 [d.ins, d.outs, d.bads, d.cons]) := by rw [hPS]; rfl
      exact (hS.row h0).row encRI_ok
    have hql : ([d.ins, d.outs, d.bads, d.cons] : List (RowV Int)).length = 4 := rfl
    repeat' (first
      | (show WL _ _ _ _ _ _ _; first | apply WL.nil | (refine WL.au (k := ?_)))
      | (show Z _ _ _ _ _; apply Z.then_normal)
      | (show W _ _ _ _ _ _; first | apply W.seq | apply W.region))
    refine W.condKT rfl (dec_true (by omega)) ?_
    repeat' (first
      | (show WL _ _ _ _ _ _ _; first | apply WL.nil | (refine WL.au (k := ?_)) | (apply WL.index tOk; exact rfl; exact rfl; exact rfl; exact rfl; exact rfl; exact rfl; exact rfl; exact rfl; assumption; (exact extA); exact rfl; omega; assumption; intro b off h; have hcc := h; first | (obtain ⟨h1, h2, h3, h4, h5, h6, _⟩ := h) | (obtain ⟨h1, h2, h3, _⟩ := h) | (obtain ⟨h1, h2, _⟩ := h) | (obtain ⟨h1, _⟩ := h)))
      | (show Z _ _ _ _ _; apply Z.then_normal)
      | (show W _ _ _ _ _ _; first | apply W.seq | apply W.region | apply W.block | apply W.skip))
    refine W.loopW q.2.2.length (fun i w' => i ≤ q.2.2.length ∧ Ext wk w' ∧ Lt.Sep wk.heap.size w' ((PS k).set ix (prowZ 1 encI 3 wk.heap.size q.1 q.2.1 (mapT f q.2.2 i)))) (fun i => [(2, .pointer (some ⟨g2, 0, none⟩)), (4, .slice an (cNet c.t).1.length cn), (5, .pointer (some ⟨g5, 0, none⟩)), (6, .func (.func 88) #[] #[.pointer (some ⟨g5, 0, none⟩)]), (7, .pointer (some ⟨g7, 0, none⟩)), (36, .slice (some ⟨g36, 0, none⟩) 4 4), (37, .int .i64 4), (38, .int .i64 k), (9, .slice q.1 q.2.2.length q.2.1), (42, .slice q.1 q.2.2.length q.2.1), (43, .int .i64 q.2.2.length), (44, .int .i64 i)]) ⟨Nat.zero_le _, hX10, by rw [mapT_0, set_same hpi]; exact hS⟩ (fun i w' h => h.1) ⟨rfl, rfl, rfl, rfl, rfl, rfl, rfl, rfl, rfl, rfl, rfl, rfl, trivial⟩ ?_
    rintro i w11 ⟨hi, hX11, hS11⟩
    have hml := mapT_len f q.2.2 i hi
    by_cases hli : i < q.2.2.length
    · obtain ⟨x, hxx⟩ := getI q.2.2 hli
      have hpi2 : ((PS k).set ix (prowZ 1 encI 3 wk.heap.size q.1 q.2.1 (mapT f q.2.2 i)))[ix]? = some (prowZ 1 encI 3 wk.heap.size q.1 q.2.1 (mapT f q.2.2 i)) := List.getElem?_set_self (lt_of_get hpi)
      have hne : mapT f q.2.2 i ≠ [] := fun h => by rw [h] at hml; simp at hml; omega
      have hOw := hS11.rowZ hpi2 hne
      have hgx : (mapT f q.2.2 i)[((i : Nat) : Int).toNat]? = some x := by rw [Int.toNat_natCast]; exact mapT_get hxx
      have hcall := fun (w0 : World) (h0 : Ext wk w0) => renum_Number1 w0 g5 aa ca A x (by rw [hA]; exact h0.cell hc5) (by rw [hA]; exact RAk.ext h0) (okq x (List.mem_of_getElem? hxx))
      have hfx : litI A x = f x := by rw [hf]
      rw [hfx] at hcall
      repeat' (first
        | (show WL _ _ _ _ _ _ _; first | apply WL.nil | (refine WL.au (k := ?_)))
        | (show Z _ _ _ _ _; apply Z.then_normal)
        | (show W _ _ _ _ _ _; first | apply W.seq | apply W.region))
      refine W.condKT rfl (dec_true (by omega)) ?_
      repeat' (first
        | ((apply WL.indexO tOk; exact rfl; exact rfl; exact rfl; exact rfl; exact rfl; exact rfl; exact rfl; exact rfl; exact hOw; exact (by (exact extA)); exact encI_ok; exact hml; omega; assumption; intro gb ha hc; have hcc := hc; obtain ⟨h1, _⟩ := hc; have hOz := hOw; rw [ha] at hOz))
        | ((show WL _ _ _ (⟨_, .call ⟨.value (.tmp _), _, _⟩, _, _, _, _⟩ :: _) _ _ _; apply WL.callS; exact rfl; exact rfl; exact rfl; exact rfl; exact hcall _ (by (exact extA))))
        | (apply WL.storeO (z' := (f x)) tOk; exact rfl; exact rfl; exact rfl; exact rfl; assumption; (exact extA); exact rfl; exact rfl; exact rfl; exact encI_ok; assumption; exact rfl; (exact extA); intro w' hO hX' hU)
        | (show WL _ _ _ _ _ _ _; first | apply WL.nil | (refine WL.au (k := ?_)))
        | (show Z _ _ _ _ _; first | apply Z.then_normal | apply Z.block_normal)
        | (show W _ _ _ _ _ _; first | apply W.seq | apply W.region | apply W.block | apply W.skip))
      rw [← ha] at hU hO
      have hS2 := Sep.updRowZ hpi2 hne (set_ne hne) hU hO (.inl rfl) hS11 (by (exact extA)) (Below.size (by (exact extA)))
      rw [Int.toNat_natCast, mapT_set hxx, List.set_set] at hS2
      exact Z.againW ⟨by omega, hX', hS2⟩ ⟨rfl, rfl, rfl, rfl, rfl, rfl, rfl, rfl, rfl, rfl, rfl, rfl, trivial⟩
    · obtain rfl : i = q.2.2.length := by omega
      rw [mapT_all, hset] at hS11
      repeat' (first
        | (show WL _ _ _ _ _ _ _; first | apply WL.nil | (refine WL.au (k := ?_)))
        | (show Z _ _ _ _ _; apply Z.then_normal)
        | (show W _ _ _ _ _ _; first | apply W.seq | apply W.region))
      refine W.condKF rfl (dec_false (by omega)) ?_
      repeat' (first
        | (show WL _ _ _ _ _ _ _; first | apply WL.nil | (refine WL.au (k := ?_)))
        | (show Z _ _ _ _ _; first | apply Z.then_normal | apply Z.block_normal | apply Z.then_exit | apply Z.block_exit)
        | (show W _ _ _ _ _ _; first | apply W.region | apply W.exit))
      exact Z.againW ⟨by omega, hX11, hS11⟩ ⟨rfl, rfl, rfl, rfl, rfl, rfl, rfl, rfl, trivial⟩
  obtain rfl : k = 4 := by omega
  repeat' (first
    | (show WL _ _ _ _ _ _ _; first | apply WL.nil | (refine WL.au (k := ?_)))
    | (show Z _ _ _ _ _; apply Z.then_normal)
    | (show W _ _ _ _ _ _; first | apply W.seq | apply W.region))
  refine W.condKF rfl (dec_false (by omega)) ?_
  repeat' (first
    | (show WL _ _ _ _ _ _ _; (refine WL.au (k := ?_)))
    | (show Z _ _ _ _ _; first | apply Z.then_normal | apply Z.then_exit | apply Z.block_exit)
    | (show W _ _ _ _ _ _; first | apply W.seq | apply W.region | apply W.exit))
  obtain ⟨PL, hPL⟩ : ∃ PL : List T3 → List Piece, PL = fun ll => [prow 1 encRI 23 wk.heap.size (some ⟨g36, 0, none⟩) 4 [d.ins, d.outs, d.bads, d.cons], pcell g7 ([.int .i64 ((cNet c.t).1.length : Nat), rowVal d.ins, rowVal d.lat, rowVal d.outs, rowVal d.bads, rowVal d.cons, .slice none 0 0, rowVal d.syms, .string d.com] : List Value).toArray 28, prowZ 3 encY 110 wk.heap.size d.syms.1 d.syms.2.1 d.syms.2.2, prowZ 3 enc3 106 wk.heap.size d.gates.1 d.gates.2.1 d.gates.2.2, prowZ 3 enc3 69 wk.heap.size d.lat.1 d.lat.2.1 ll, prowZ 1 encI 3 wk.heap.size d.cons.1 d.cons.2.1 (d.cons.2.2.map f), prowZ 1 encI 3 wk.heap.size d.bads.1 d.bads.2.1 (d.bads.2.2.map f), prowZ 1 encI 3 wk.heap.size d.outs.1 d.outs.2.1 (d.outs.2.2.map f), prowZ 1 encI 3 wk.heap.size d.ins.1 d.ins.2.1 (d.ins.2.2.map f)] := ⟨_, rfl⟩
  have hS4 : Lt.Sep wk.heap.size w10 (PL d.lat.2.2) := by rw [hPS, hL] at hS; rw [hPL]; exact hS
  have hPc : ∀ ll, (PL ll)[1]? = some (pcell g7 ([.int .i64 ((cNet c.t).1.length : Nat), rowVal d.ins, rowVal d.lat, rowVal d.outs, rowVal d.bads, rowVal d.cons, .slice none 0 0, rowVal d.syms, .string d.com] : List Value).toArray 28) := fun ll => by rw [hPL]; rfl
  have hPl : ∀ ll, (PL ll)[4]? = some (prowZ 3 enc3 69 wk.heap.size d.lat.1 d.lat.2.1 ll) := fun ll => by rw [hPL]; rfl
  have hPs : ∀ ll l2, (PL ll).set 4 (prowZ 3 enc3 69 wk.heap.size d.lat.1 d.lat.2.1 l2) = PL l2 := fun ll l2 => by rw [hPL]; rfl
  clear hS hk4 hPS
  obtain ⟨y0, y1, y2, _⟩ := cells_heap (hS4.cell (hPc _))
  repeat' (first
    | (show WL _ _ _ _ _ _ _; first | apply WL.nil | (refine WL.au (k := ?_)))
    | (show Z _ _ _ _ _; apply Z.then_normal)
    | (show W _ _ _ _ _ _; apply W.block))
  refine W.loopW d.lat.2.2.length (fun k w' => k ≤ d.lat.2.2.length ∧ Ext wk w' ∧ Lt.Sep wk.heap.size w' (PL (mapT (latP A) d.lat.2.2 k))) (fun k => [(2, .pointer (some ⟨g2, 0, none⟩)), (4, .slice an (cNet c.t).1.length cn), (5, .pointer (some ⟨g5, 0, none⟩)), (6, .func (.func 88) #[] #[.pointer (some ⟨g5, 0, none⟩)]), (7, .pointer (some ⟨g7, 0, none⟩)), (58, rowVal d.lat), (59, .int .i64 d.lat.2.2.length), (60, .int .i64 k)]) ⟨Nat.zero_le _, hX10, by rw [mapT_0]; exact hS4⟩ (fun k w' h => h.1) ⟨rfl, rfl, rfl, rfl, rfl, rfl, rfl, rfl, trivial⟩ ?_
  clear hS4 hX10 y0 y1 y2 hlt hk
  rintro k w11 ⟨hk, hX11, hS⟩
  have hml := mapT_len (latP A) d.lat.2.2 k hk
  by_cases hlt : k < d.lat.2.2.length
  · obtain ⟨x, hxx⟩ := getI d.lat.2.2 hlt
    have hxm : x ∈ c.lat.2.2 := by rw [← hdl]; exact List.mem_of_getElem? hxx
    have ok1 : LitOk A x.1 := okw x.1 (List.mem_append_left _ (List.mem_append_right _ (List.mem_map.2 ⟨x, hxm, rfl⟩)))
    have ok2 : LitOk A x.2.1 := oku x.2.1 (used_next (c := c.t) hxm)
    have hne : mapT (latP A) d.lat.2.2 k ≠ [] := fun h => by rw [h] at hml; simp at hml; omega
    have hOw := hS.rowZ (hPl _) hne
    have hgx : (mapT (latP A) d.lat.2.2 k)[((k : Nat) : Int).toNat]? = some x := by rw [Int.toNat_natCast]; exact mapT_get hxx
    have hcall := fun (l : Int) (ok : LitOk A l) (w0 : World) (h0 : Ext wk w0) => renum_Number1 w0 g5 aa ca A l (by rw [hA]; exact h0.cell hc5) (by rw [hA]; exact RAk.ext h0) ok
    have hcallP := fun (l : Int) (ok : LitOk A l) (w0 : World) (h0 : Ext wk w0) => (hcall l ok w0 h0).mono (R' := fun v w' => v = .int .i64 (litI A l) ∧ Ext w0 w') (fun v w' ⟨h1, m, h2⟩ => ⟨h1, by rw [h2]; exact (Ext.refl _).at m⟩)
    repeat' (first
      | (show WL _ _ _ _ _ _ _; first | apply WL.nil | (refine WL.au (k := ?_)))
      | (show Z _ _ _ _ _; apply Z.then_normal)
      | (show W _ _ _ _ _ _; first | apply W.seq | apply W.region))
    refine W.condKT rfl (dec_true (by omega)) ?_
    repeat' (first
      | ((apply WL.indexO tOk; exact rfl; exact rfl; exact rfl; exact rfl; exact rfl; exact rfl; exact rfl; exact rfl; exact hOw; exact (by (exact extA)); exact enc3_ok; exact hml; omega; assumption; intro gb ha hc; have hcc := hc; obtain ⟨h1, h2, h3, _⟩ := hc))
      | (apply WL.alloc tOk; exact rfl; exact rfl; exact rfl; intro gb w' hb hge hx; (obtain ⟨g13, rfl⟩ : ∃ x, x = gb := ⟨_, rfl⟩; obtain ⟨hge13, rfl⟩ : ∃ x, x = hge := ⟨_, rfl⟩))
      | (apply WL.storeB (w0 := w11) tOk; exact rfl; exact rfl; exact rfl; exact rfl; assumption; (exact extA); exact rfl; exact rfl; exact rfl; (exact extA); (first | assumption | omega | (focus (apply Nat.le_trans; rotate_left; assumption; exact Below.size (by (exact extA)); done))); intro w' hb hc hX' hU; have hcc := hc; obtain ⟨h1, h2, _⟩ := hc; (obtain ⟨w12, rfl⟩ : ∃ x, x = w' := ⟨_, rfl⟩; obtain ⟨hb13, rfl⟩ : ∃ x, x = hb := ⟨_, rfl⟩; obtain ⟨hX12, rfl⟩ : ∃ x, x = hX' := ⟨_, rfl⟩; have hC13 := cells_heap hb13; obtain ⟨i0, i1, i2, _⟩ := hC13))
      | (show WL _ _ _ _ _ _ _; first | apply WL.nil | (refine WL.au (k := ?_)))
      | (show Z _ _ _ _ _; apply Z.then_normal)
      | (show W _ _ _ _ _ _; first | apply W.seq | apply W.region | apply W.block | apply W.skip))
    have hPl5 : ∀ (p : Piece) ll, (p :: PL ll)[5]? = some (prowZ 3 enc3 69 wk.heap.size d.lat.1 d.lat.2.1 ll) := fun p ll => hPl ll
    have hPs5 : ∀ (p : Piece) ll l2, (p :: PL ll).set 5 (prowZ 3 enc3 69 wk.heap.size d.lat.1 d.lat.2.1 l2) = p :: PL l2 := fun p ll l2 => congrArg (p :: ·) (hPs ll l2)
    have hXk12 : Ext wk w12 := hX11.trans hX12
    have hS13 : Lt.Sep wk.heap.size w12 (pcell g13 (enc3 x).toArray 69 :: PL (mapT (latP A) d.lat.2.2 k)) := Sep.newCell hS hX12 hb13 hge13 (Below.size hX11)
    clear hU hcc h1 h2 h3 hOw
    refine W.cutT (σ := (List T3 × Int) × World) (fun s => Ext wk s.2 ∧ Lt.Sep wk.heap.size s.2 (pcell g13 (enc3 x).toArray 69 :: PL s.1.1) ∧ s.1.1.length = d.lat.2.2.length ∧ s.1.1[((k : Nat) : Int).toNat]? = some (x.1, x.2.1, s.1.2) ∧ ((s.1.1.set ((k : Nat) : Int).toNat (litI A x.1, x.2.1, s.1.2)).set ((k : Nat) : Int).toNat (litI A x.1, litI A x.2.1, s.1.2)) = mapT (latP A) d.lat.2.2 (k + 1)) (fun s => [(2, .pointer (some ⟨g2, 0, none⟩)), (4, .slice an (cNet c.t).1.length cn), (5, .pointer (some ⟨g5, 0, none⟩)), (6, .func (.func 88) #[] #[.pointer (some ⟨g5, 0, none⟩)]), (7, .pointer (some ⟨g7, 0, none⟩)), (12, .int .i64 k), (13, .pointer (some ⟨g13, 0, none⟩)), (58, rowVal d.lat), (59, .int .i64 d.lat.2.2.length), (60, .int .i64 k)]) (fun s => s.2) ?_ ?_
    · by_cases hres : x.2.2 = x.1
      · refine W.condKT rfl (dec_true hres) ?_
        have hOw := hS13.rowZ (hPl5 _ _) hne
        obtain ⟨n0, n1, n2, _⟩ := cells_heap (hS13.cell (i := 2) (hPc _))
        repeat' (first
          | (show W _ _ (.region 18 _ _) _ _ _; apply W.regionGX (.fl true 0 (.fl true 2 (.fl true 3 (.fl true 4 (.fl false 1 (.fl false 5 (.fl false 6 (.fl true 7 (.fl true 8 (.br 9 .done .stop)))))))))) [5, 6] tMix; kernel_rfl)
          | (apply SX.flP; exact rfl; (exact extA); exact rfl; exact rfl; exact rfl; exact rfl; (focus (intro w9 hw9; exact hcallP x.1 ok1 _ (hXk12.trans (Ext.trans (by (exact extA)) hw9)))))
          | ((show FL _ _ _ _ (⟨_, .indexAddr _ _ _, _, _, _, _⟩ :: _) _ _ _; apply FL.indexO tOk; exact rfl; exact rfl; exact rfl; exact rfl; exact rfl; exact rfl; exact rfl; exact rfl; (first | exact hOn | exact hOw); exact (by (exact extA)); exact enc3_ok; (first | exact hmn | exact hml); omega; (first | exact hgn | exact hgx); intro gb ha hc; (first | (have hOz := hOn; rw [ha] at hOz) | (have hOz := hOw; rw [ha] at hOz))))
          | ((show WL _ _ _ (⟨none, .store _ (.tmp 78) _, _, _, _, _⟩ :: _) _ _ _; apply WL.storeOF (w0 := wk) (z' := ((x.1, x.2.1, litI A x.1) : T3)) (i := ((k : Nat) : Int).toNat) [.int .i64 x.1, .int .i64 x.2.1] [] tOk; exact rfl; exact rfl; exact rfl; exact rfl; exact hOz; exact (by (exact extA)); exact rfl; exact rfl; exact rfl; exact rfl; exact rfl; exact enc3_ok; (first | exact hgn | exact hgx); exact rfl; exact (by (exact extA)); intro w' hO hX' hU; rw [← ha] at hU hO; skip))
          | (show SX _ _ _ _ _ _ _ _ _; first | (apply SX.done; intro w' hx) | (apply SX.fl0; exact rfl) | (apply SX.fl1; exact rfl; (exact extA)) | (apply SX.br1; exact rfl; intro w' hx))
          | (show FL _ _ _ _ _ _ _ _; first | apply FL.nilX | (apply FL.loadE tOk; exact rfl; exact rfl; exact rfl; exact rfl; exact rfl; assumption))
          | (show FL _ _ _ _ _ _ _ _; (refine FL.au (k := ?_)))
          | (show Z _ _ _ _ _; (apply Z.sxL; exact rfl))
          | (show WL _ _ _ _ _ _ _; apply WL.nil))
        all_goals
          have hS14 := Sep.updRowZ (hPl5 _ _) hne (set_ne hne) hU hO (.inl rfl) hS13 (by (exact extA)) (Below.size (by (exact extA)))
          rw [hPs5] at hS14
          refine Z.cut ((_, litI A x.1), _) ⟨(by (exact extA)), Sep.ext hS14 (by (exact extA)), ?_, ?_, ?_⟩ ⟨rfl, rfl, rfl, rfl, rfl, rfl, rfl, rfl, rfl, rfl, trivial⟩ rfl
          · rw [List.length_set]; exact hml
          · exact List.getElem?_set_self (by omega)
          · rw [List.set_set, List.set_set, ← latP_yes hres, Int.toNat_natCast]; exact mapT_set hxx
      · refine W.condKF rfl (dec_false hres) ?_
        repeat' (first
          | (show W _ _ _ _ _ _; apply W.skip))
        refine Z.cut ((mapT (latP A) d.lat.2.2 k, x.2.2), _) ⟨hXk12, hS13, hml, hgx, ?_⟩ ⟨rfl, rfl, rfl, rfl, rfl, rfl, rfl, rfl, rfl, rfl, trivial⟩ rfl
        rw [List.set_set, ← latP_no hres, Int.toNat_natCast]; exact mapT_set hxx
    rintro ⟨⟨ll, r3⟩, w13⟩ ⟨hX13, hS14, hml, hgx, hfin⟩
    dsimp only at hX13 hS14 hml hgx hfin ⊢
    have hne2 : ll ≠ [] := fun h => by rw [h] at hml; simp at hml; omega
    have hOw := hS14.rowZ (hPl5 _ _) hne2
    obtain ⟨n0, n1, n2, _⟩ := cells_heap (hS14.cell (i := 2) (hPc _))
    obtain ⟨i0, i1, i2, _⟩ := cells_heap (hS14.cell (i := 0) rfl)

    have zl : d.lat.2.2.length ≤ 100000 := by rw [hdl]; exact z2
    have hlb : ∀ q, blk d.lat.1 = some q → wk.heap.size ≤ q := fun q hq => (hS14.lt (hPl5 _ _) (by rw [prowZ_b hne2]; exact hq)).1
    have hap : ∀ (j : Nat) (q : Piece) (g : Nat), (pcell g13 (enc3 x).toArray 69 :: PL ll)[j]? = some q → 5 ≠ j → q.b = some g → blk d.lat.1 ≠ some g := fun j q g hj hne9 hb9 he => by
      rcases hS14.apart 5 j _ q (hPl5 _ _) hj hne9 with h | h
      · rw [prowZ_b hne2, he] at h; cases h
      · rw [prowZ_b hne2, he, hb9] at h; exact h rfl
    have hn7 : blk d.lat.1 ≠ some g7 := hap 2 _ g7 (hPc _) (by decide) rfl
    have hn13 : blk d.lat.1 ≠ some g13 := hap 0 _ g13 rfl (by decide) rfl
    have hn5 : blk d.lat.1 ≠ some g5 := fun he => by have := hlb g5 he; omega
    have hcallB := fun (l : Int) (ok : LitOk A l) (w0 : World) (h0 : But w13 (blk d.lat.1) w0) => renum_Number1 w0 g5 aa ca A l (by rw [hA]; exact But.cell h0 (hX13.cell hc5) hn5) (by
      rw [hA]
      refine (RAk.ext hX13).keep fun k hk => h0.block k ?_ ?_
      · exact Nat.lt_of_lt_of_le ((hOa.ext hXk).blk_lt k hk).2 (Below.size hX13)
      · intro he; have h1 := hlb k he.symm; have h2 := ((hOa.ext hXk).blk_lt k hk).2; omega) ok
    repeat' (first
      | (show W _ _ (.region 19 _ _) _ _ _; apply W.regionGB (.fl true 0 (.fl true 2 (.fl true 3 (.fl true 5 (.fl true 6 (.fl true 7 (.fl true 10 (.fl true 11 (.fl false 1 (.fl false 4 (.fl false 8 (.fl false 12 (.fl false 9 (.fl false 13 (.fl true 14 (.fl true 15 (.br 16 (.fl true 17 (.fl true 18 (.br 19 .done .stop))) .stop))))))))))))))))) [4, 8, 9, 12, 13, 14, 15, 16] (blk d.lat.1) tMix; kernel_rfl)
      | (apply SG.flS; exact rfl; (focus ((intro m; first | assumption | (apply Ext.at; (exact extA)) | apply But.of_at; first | exact But.upd (by assumption) | exact But.ext (by (exact extA)) | (refine But.trans ?_ (But.upd (by assumption)); exact But.ext (by (exact extA))) | exact But.at _ _ _); done)); exact rfl; exact rfl; exact rfl; exact rfl; (focus (intro w9 hw9; exact hcallB x.1 ok1 _ hw9)))
      | (apply SG.flS; exact rfl; (focus ((intro m; first | assumption | (apply Ext.at; (exact extA)) | apply But.of_at; first | exact But.upd (by assumption) | exact But.ext (by (exact extA)) | (refine But.trans ?_ (But.upd (by assumption)); exact But.ext (by (exact extA))) | exact But.at _ _ _); done)); exact rfl; exact rfl; exact rfl; exact rfl; (focus (intro w9 hw9; exact hcallB x.2.1 ok2 _ hw9)))
      | ((show FL _ _ _ _ (⟨_, .indexAddr _ _ _, _, _, _, _⟩ :: _) _ _ _; apply FL.indexO tOk; exact rfl; exact rfl; exact rfl; exact rfl; exact rfl; exact rfl; exact rfl; exact rfl; (first | exact hOn | exact hOw); exact (by (exact extA)); exact enc3_ok; (first | exact hmn | exact hml); omega; (first | exact hgn | exact hgx); intro gb ha hc; (first | (have hOz := hOn; rw [ha] at hOz) | (have hOz := hOw; rw [ha] at hOz))))
      | ((show WL _ _ _ (⟨none, .store _ (.tmp 94) _, _, _, _, _⟩ :: _) _ _ _; apply WL.storeOF (w0 := wk) (z := ((x.1, x.2.1, r3) : T3)) (z' := ((litI A x.1, x.2.1, r3) : T3)) (i := ((k : Nat) : Int).toNat) [] [.int .i64 x.2.1, .int .i64 r3] tOk; exact rfl; exact rfl; exact rfl; exact rfl; exact hOz; exact (by (exact extA)); exact rfl; exact rfl; exact rfl; exact rfl; exact rfl; exact enc3_ok; (first | exact hgn | exact hgx); exact rfl; exact (by (exact extA)); intro w' hO hX' hU; rw [← ha] at hU hO; have hOn := hO; have hmn : (ll.set ((k : Nat) : Int).toNat (litI A x.1, x.2.1, r3)).length = d.lat.2.2.length := (List.length_set).trans hml; have hgn : (ll.set ((k : Nat) : Int).toNat (litI A x.1, x.2.1, r3))[((k : Nat) : Int).toNat]? = some (litI A x.1, x.2.1, r3) := List.getElem?_set_self (by omega); have hS15 := Sep.updRowZ (hPl5 _ _) hne2 (set_ne hne2) hU hO (.inl rfl) hS14 (by (exact extA)) (Below.size (by (exact extA))); rw [hPs5] at hS15; obtain ⟨m0, m1, m2, _⟩ := cells_heap (hS15.cell (i := 2) (hPc _)); have hU1 := hU; clear hOz))
      | ((show WL _ _ _ (⟨none, .store _ (.tmp 96) _, _, _, _, _⟩ :: _) _ _ _; apply WL.storeOF (w0 := wk) (z := ((litI A x.1, x.2.1, r3) : T3)) (z' := ((litI A x.1, litI A x.2.1, r3) : T3)) (i := ((k : Nat) : Int).toNat) [.int .i64 (litI A x.1)] [.int .i64 r3] tOk; exact rfl; exact rfl; exact rfl; exact rfl; exact hOz; exact (by (exact extA)); exact rfl; exact rfl; exact rfl; exact rfl; exact rfl; exact enc3_ok; (first | exact hgn | exact hgx); exact rfl; exact (by (exact extA)); intro w' hO hX' hU; rw [← ha] at hU hO; skip))
      | (show WL _ _ _ _ _ _ _; first | apply WL.nil | (refine WL.au (k := ?_)))
      | (show SG _ _ _ _ _ _ _ _ _; first | apply SG.done | (apply SG.fl0; exact rfl) | (apply SG.fl1; exact rfl; (focus ((intro m; first | assumption | (apply Ext.at; (exact extA)) | apply But.of_at; first | exact But.upd (by assumption) | exact But.ext (by (exact extA)) | (refine But.trans ?_ (But.upd (by assumption)); exact But.ext (by (exact extA))) | exact But.at _ _ _); done))) | (apply SG.br1; exact rfl))
      | (show FL _ _ _ _ _ _ _ _; first | apply FL.nilS | (refine FL.au (k := ?_)) | (apply FL.loadG tOk; exact rfl; exact rfl; exact rfl; exact rfl; exact rfl; (first | assumption | (focus (apply Ext.cell; rotate_left; assumption; (exact extA); done))); (first | (focus (intro h; cases h; done)) | (focus (intro h; have h9 := hBC _ h; (try simp only at h9); omega)) | assumption | (focus (intro h; simp only [blk, Option.map_some, Option.some.injEq] at h; omega)))))
      | (show Z _ _ _ _ _; first | (apply Z.sgL; exact rfl) | (apply Z.sgE; (focus ((intro m; first | assumption | (apply Ext.at; (exact extA)) | apply But.of_at; first | exact But.upd (by assumption) | exact But.ext (by (exact extA)) | (refine But.trans ?_ (But.upd (by assumption)); exact But.ext (by (exact extA))) | exact But.at _ _ _); done))))
      | (show Z _ _ _ _ _; first | apply Z.then_normal | apply Z.block_normal)
      | (show W _ _ _ _ _ _; apply W.region))
    all_goals
      have hS16 := Sep.updRowZ (hPl5 _ _) (set_ne hne2) (set_ne (set_ne hne2)) hU hO (.inl rfl) hS15 (by (exact extA)) (Below.size (by (exact extA)))
      rw [hPs5, hfin] at hS16
      exact Z.againW ⟨by omega, (by (exact extA)), Sep.ext (hS16.drop 1) (by (exact extA))⟩ ⟨rfl, rfl, rfl, rfl, rfl, rfl, rfl, rfl, trivial⟩
  obtain rfl : k = d.lat.2.2.length := by omega
  rw [mapT_all] at hS
  clear hml hPs
  obtain ⟨y0, y1, y2, y3, y4, y5, y6, _⟩ := cells_heap (hS.cell (hPc _))
  repeat' (first
    | (show WL _ _ _ _ _ _ _; first | apply WL.nil | (refine WL.au (k := ?_)))
    | (show Z _ _ _ _ _; apply Z.then_normal)
    | (show W _ _ _ _ _ _; first | apply W.seq | apply W.region))
  refine W.condKF rfl (dec_false (by omega)) ?_
  repeat' (first
    | (show WL _ _ _ _ _ _ _; first | apply WL.nil | (refine WL.au (k := ?_)))
    | (show Z _ _ _ _ _; first | apply Z.then_normal | apply Z.then_exit | apply Z.block_exit)
    | (show W _ _ _ _ _ _; first | apply W.seq | apply W.region | apply W.block | apply W.exit))
  obtain ⟨PM, hPM⟩ : ∃ PM : Piece → List Piece, PM = fun p => (PL (d.lat.2.2.map (latP A))).set 1 p := ⟨_, rfl⟩
  have hPm : ∀ (q p : Piece), (q :: PM p)[2]? = some p := fun q p => by rw [hPM, hPL]; rfl
  have hPmm : ∀ (q p p2 : Piece), (q :: PM p).set 2 p2 = q :: PM p2 := fun q p p2 => by rw [hPM, hPL]; rfl
  have hPm0 : ∀ (q q2 p : Piece), (q :: PM p).set 0 q2 = q2 :: PM p := fun q q2 p => rfl
  have hS0 : Lt.Sep wk.heap.size w11 (prow 3 enc3 106 wk.heap.size none 0 (gTo (cNet c.t).1 0) :: PM (pcell g7 ([.int .i64 ((cNet c.t).1.length : Nat), rowVal d.ins, rowVal d.lat, rowVal d.outs, rowVal d.bads, rowVal d.cons, .slice none (gTo (cNet c.t).1 0).length 0, rowVal d.syms, .string d.com] : List Value).toArray 28)) := by
    refine Sep.newRow (?_ : Lt.Sep wk.heap.size w11 (PM _)) (Ext.refl _) Own.nil (fun k hk => by cases hk) (Below.size hX11)
    rw [hPM, hPL]; rw [hPL] at hS; exact hS
  refine W.loopW (cNet c.t).1.length (fun k w' => k ≤ (cNet c.t).1.length ∧ Ext wk w' ∧ ∃ ag cg, Lt.Sep wk.heap.size w' (prow 3 enc3 106 wk.heap.size ag cg (gTo (cNet c.t).1 k) :: PM (pcell g7 ([.int .i64 ((cNet c.t).1.length : Nat), rowVal d.ins, rowVal d.lat, rowVal d.outs, rowVal d.bads, rowVal d.cons, .slice ag (gTo (cNet c.t).1 k).length cg, rowVal d.syms, .string d.com] : List Value).toArray 28))) (fun k => [(2, .pointer (some ⟨g2, 0, none⟩)), (5, .pointer (some ⟨g5, 0, none⟩)), (7, .pointer (some ⟨g7, 0, none⟩)), (98, .slice an (cNet c.t).1.length cn), (99, .int .i64 (cNet c.t).1.length), (100, .int .i64 k)]) ⟨Nat.zero_le _, hX11, none, 0, hS0⟩ (fun k w' h => h.1) ⟨rfl, rfl, rfl, rfl, rfl, rfl, trivial⟩ ?_
  clear hS0 hX11 hS y0 y1 y2 y3 y4 y5 y6
  rintro k w11 ⟨hk, hX11, ag, cg, hS⟩
  have RN := RNk.ext hX11
  have hgl := gTo_len (cNet c.t).1 k
  have hRg := hS.row (i := 0) rfl
  have hC2 := hS.cell (hPm _ _)
  by_cases hlt : k < (cNet c.t).1.length
  · obtain ⟨x, hxx⟩ := getI (cNet c.t).1 hlt
    have hgx : (cNet c.t).1[((k : Nat) : Int).toNat]? = some x := by rw [Int.toNat_natCast]; exact hxx
    repeat' (first
      | (show WL _ _ _ _ _ _ _; first | apply WL.nil | (refine WL.au (k := ?_)))
      | (show Z _ _ _ _ _; apply Z.then_normal)
      | (show W _ _ _ _ _ _; first | apply W.seq | apply W.region))
    refine W.condKT rfl (dec_true (by omega)) ?_
    repeat' (first
      | (apply WL.alloc tOk; exact rfl; exact rfl; exact rfl; intro gb w' hb hge hx; (obtain ⟨g15, rfl⟩ : ∃ x, x = gb := ⟨_, rfl⟩; obtain ⟨hge15, rfl⟩ : ∃ x, x = hge := ⟨_, rfl⟩))
      | (apply WL.storeB (w0 := w11) tOk; exact rfl; exact rfl; exact rfl; exact rfl; assumption; (exact extA); exact rfl; exact rfl; exact rfl; (exact extA); (first | assumption | omega | (focus (apply Nat.le_trans; rotate_left; assumption; exact Below.size (by (exact extA)); done))); intro w' hb hc hX' hU; have hcc := hc; obtain ⟨h1, h2, _⟩ := hc; (obtain ⟨w12, rfl⟩ : ∃ x, x = w' := ⟨_, rfl⟩; obtain ⟨hb15, rfl⟩ : ∃ x, x = hb := ⟨_, rfl⟩; obtain ⟨hX12, rfl⟩ : ∃ x, x = hX' := ⟨_, rfl⟩; have hC15 := cells_heap hb15; obtain ⟨i0, i1, _⟩ := hC15))
      | (show WL _ _ _ _ _ _ _; first | apply WL.nil | (refine WL.au (k := ?_)) | (apply WL.index tOk; exact rfl; exact rfl; exact rfl; exact rfl; exact rfl; exact rfl; exact rfl; exact rfl; assumption; (exact extA); exact rfl; omega; assumption; intro b off h; have hcc := h; first | (obtain ⟨h1, h2, h3, h4, h5, h6, _⟩ := h) | (obtain ⟨h1, h2, h3, _⟩ := h) | (obtain ⟨h1, h2, _⟩ := h) | (obtain ⟨h1, _⟩ := h)))
      | (show Z _ _ _ _ _; apply Z.then_normal)
      | (show W _ _ _ _ _ _; first | apply W.seq | apply W.region | apply W.block | apply W.skip))
    by_cases h0x : 0 ≤ x.1
    · have hgt := hgn.gate hxx h0x
      have e1 := gTo_yes hxx h0x
      have e2 : gateG k x = (2 * (k : Int) + 2, max x.1 x.2, min x.1 x.2) := by unfold gateG; rw [show 2 * ((k : Int) + 1) = 2 * (k : Int) + 2 by omega]
      rw [e2] at e1
      have hX12k : Ext wk w12 := hX11.trans hX12
      have hS12 := hS.ext hX12
      have hC2' := hS12.cell (hPm _ _)
      obtain ⟨y0, y1, y2, y3, y4, y5, y6, _⟩ := cells_heap hC2'
      clear hcc h1 h2 hU
      skip
      refine W.condKT rfl (dec_true h0x) ?_
      repeat' (first
        | (apply WL.min; exact rfl; exact rfl; exact rfl; exact rfl)
        | (apply WL.max; exact rfl; exact rfl; exact rfl; exact rfl)
        | ((show WL _ _ _ (⟨_, .build 106 _, _, _, _, _⟩ :: _) _ _ _; apply WL.build (cs := [.int .i64 (2 * (k : Int) + 2), .int .i64 (max x.1 x.2), .int .i64 (min x.1 x.2)]) tOk; exact rfl; exact rfl; exact rfl; exact rfl; exact rfl; exact rfl; (first | kernel_rfl | exact rfl); kernel_rfl))
        | (apply WL.lit tOk; exact rfl; exact rfl; exact rfl; exact rfl; exact rfl; exact rfl; (first | exact rfl | kernel_rfl | (simp [Instr.fill, catCells]; done)); exact rfl; intro gb w' hb hge hc hx)
        | (apply WL.append1 (z := (((2 * (k : Int) + 2, max x.1 x.2, min x.1 x.2) : T3))) tOk enc3_ok; exact rfl; exact rfl; exact rfl; exact rfl; exact rfl; exact rfl; exact rfl; exact rfl; exact rfl; exact rfl; assumption; (exact extA); (first | exact rfl | (focus (simp only [List.length_set]; done)) | (focus (simp; done)) | (focus (simp [*]; done)) | omega | (focus (simp only [List.length_set]; omega))); (first | assumption | (refine Cells.ext ?_ (by assumption); exact extA)); exact rfl; exact rfl; (exact extA); (first | omega | (simp; omega) | (simp at *; omega)); intro a' cap' w' hO hX' hU hF)
        | (show WL _ _ _ _ _ _ _; (refine WL.au (k := ?_)))
        | (show W _ _ _ _ _ _; apply W.region))
      have hS13 := Sep.updRow (i := 0) rfl hU hO hF hS12 (by (exact extA)) (Below.size (by (exact extA)))
      rw [hPm0] at hS13
      have hC3 := hS13.cell (hPm _ _)
      have hX13 : Ext wk w' := (by (exact extA))
      clear hU hF hb
      repeat' (first
        | ((apply WL.storeF (w0 := wk) tOk; exact rfl; exact rfl; exact rfl; exact rfl; exact hC3; exact (by (exact extA)); exact rfl; exact rfl; exact rfl; exact rfl; exact (by (exact extA)); exact hg7; intro w' hb hX' hU))
        | (show WL _ _ _ _ _ _ _; first | apply WL.nil | (refine WL.au (k := ?_)))
        | (show Z _ _ _ _ _; first | apply Z.then_normal | apply Z.block_normal)
        | (show W _ _ _ _ _ _; apply W.region))
      have hS14 := hS13.updCell (hPm _ _) hU hb (by (exact extA)) (Below.size (by (exact extA)))
      rw [hPmm] at hS14
      exact Z.againW ⟨by omega, hX', a', cap', by rw [e1]; exact hS14⟩ ⟨rfl, rfl, rfl, rfl, rfl, rfl, trivial⟩
    · have e1 := gTo_no hxx h0x
      skip
      refine W.condKF rfl (dec_false h0x) ?_
      repeat' (first
        | (show WL _ _ _ _ _ _ _; first | apply WL.nil | (refine WL.au (k := ?_)))
        | (show Z _ _ _ _ _; first | apply Z.then_normal | apply Z.block_normal)
        | (show W _ _ _ _ _ _; first | apply W.region | apply W.skip))
      exact Z.againW ⟨by omega, hX11.trans hX12, ag, cg, by rw [e1]; exact hS.ext hX12⟩ ⟨rfl, rfl, rfl, rfl, rfl, rfl, trivial⟩
  obtain rfl : k = (cNet c.t).1.length := by omega
  obtain ⟨dd, hdd⟩ : ∃ dd : Circ, dd = ⟨((cNet c.t).1.length : Nat), (d.ins.1, d.ins.2.1, d.ins.2.2.map f), (d.lat.1, d.lat.2.1, d.lat.2.2.map (latP A)), (d.outs.1, d.outs.2.1, d.outs.2.2.map f), (d.bads.1, d.bads.2.1, d.bads.2.2.map f), (d.cons.1, d.cons.2.1, d.cons.2.2.map f), (ag, cg, gTo (cNet c.t).1 (cNet c.t).1.length), d.syms, d.com⟩ := ⟨_, rfl⟩
  have hdv : dd.vals = ([.int .i64 ((cNet c.t).1.length : Nat), rowVal d.ins, rowVal d.lat, rowVal d.outs, rowVal d.bads, rowVal d.cons, .slice ag (gTo (cNet c.t).1 (cNet c.t).1.length).length cg, rowVal d.syms, .string d.com] : List Value) := by
    rw [hdd]
    show ([.int .i64 ((cNet c.t).1.length : Nat), .slice d.ins.1 (d.ins.2.2.map f).length d.ins.2.1, .slice d.lat.1 (d.lat.2.2.map (latP A)).length d.lat.2.1, .slice d.outs.1 (d.outs.2.2.map f).length d.outs.2.1, .slice d.bads.1 (d.bads.2.2.map f).length d.bads.2.1, .slice d.cons.1 (d.cons.2.2.map f).length d.cons.2.1, _, _, _] : List Value) = _
    simp only [List.length_map]
  rw [← hdv] at hC2
  have hg2k : g2 < wk.heap.size := Nat.lt_of_lt_of_le (heap_lt hb2) (Below.size (hx3.trans hXk))
  have hg25 : g2 ≠ g5 := fun he => by have := heap_lt hb2; have h9 : w2.heap.size ≤ g5 := Nat.le_trans (Below.size hx3) hge5; omega
  repeat' (first
    | (show WL _ _ _ _ _ _ _; first | apply WL.nil | (refine WL.au (k := ?_)))
    | (show Z _ _ _ _ _; apply Z.then_normal)
    | (show W _ _ _ _ _ _; first | apply W.seq | apply W.region))
  refine W.condKF rfl (dec_false (by omega)) ?_
  repeat' (first
    | (show Z _ _ _ _ _; first | apply Z.then_normal | apply Z.then_exit | apply Z.block_exit)
    | (show W _ _ _ _ _ _; first | apply W.seq | apply W.exit))
  have hcd : Cells w11 g7 0 dd.vals := cells_heap hC2
  have hc5w : w11.cell? ⟨g5, 0, none⟩ = some (.slice aa (cNet c.t).2.length ca) := hX11.cell hc5
  have hq7 : blk (some (⟨g2, 0, none⟩ : Addr)) ≠ some g7 := fun he => by simp only [blk, Option.map_some, Option.some.injEq] at he; omega
  have hq5 : blk (some (⟨g2, 0, none⟩ : Addr)) ≠ some g5 := fun he => by simp only [blk, Option.map_some, Option.some.injEq] at he; exact hg25 he
  have hb2' := hb2
  have hX2 : Ext w2 w11 := hx3.trans (hXk.trans hX11)
  have hg2w : w.heap.size ≤ g2 := Nat.le_trans (Below.size hxc) hge2
  repeat' (first
    | (show W _ _ (.region 27 _ _) _ _ _; apply W.regionGB (.fl false 0 (.fl false 1 (.br 2 (.fl true 3 .done) .stop))) [1, 2] (blk (some ⟨g2, 0, none⟩)) tMix; kernel_rfl)
    | (apply WL.storeB (w0 := w) tOk; exact rfl; exact rfl; exact rfl; exact rfl; assumption; (exact extA); exact rfl; exact rfl; exact rfl; (exact extA); (first | assumption | omega | (focus (apply Nat.le_trans; rotate_left; assumption; exact Below.size (by (exact extA)); done))); intro w' hb hc hX' hU; have hcc := hc; obtain ⟨h1, h2, _⟩ := hc)
    | (show WL _ _ _ _ _ _ _; apply WL.nil)
    | (show SG _ _ _ _ _ _ _ _ _; first | apply SG.done | (apply SG.fl0; exact rfl) | (apply SG.fl1; exact rfl; (focus ((intro m; first | assumption | (apply Ext.at; (exact extA)) | apply But.of_at; first | exact But.upd (by assumption) | exact But.ext (by (exact extA)) | (refine But.trans ?_ (But.upd (by assumption)); exact But.ext (by (exact extA))) | exact But.at _ _ _); done))) | (apply SG.br1; exact rfl))
    | (show FL _ _ _ _ _ _ _ _; first | apply FL.nilS | (refine FL.au (k := ?_)) | (apply FL.loadG tOk; exact rfl; exact rfl; exact rfl; exact rfl; exact rfl; (first | assumption | (focus (apply Ext.cell; rotate_left; assumption; (exact extA); done))); (first | (focus (intro h; cases h; done)) | (focus (intro h; have h9 := hBC _ h; (try simp only at h9); omega)) | assumption | (focus (intro h; simp only [blk, Option.map_some, Option.some.injEq] at h; omega)))) | (apply FL.loadAG tOk; exact rfl; exact rfl; exact rfl; exact rfl; exact rfl; (first | assumption | (focus (apply Cells.ext; rotate_left; assumption; (exact extA); done))); exact rfl; (first | (focus (intro h; cases h; done)) | (focus (intro h; have h9 := hBC _ h; (try simp only at h9); omega)) | assumption | (focus (intro h; simp only [blk, Option.map_some, Option.some.injEq] at h; omega)))))
    | (show Z _ _ _ _ _; (apply Z.sgE; (focus ((intro m; first | assumption | (apply Ext.at; (exact extA)) | apply But.of_at; first | exact But.upd (by assumption) | exact But.ext (by (exact extA)) | (refine But.trans ?_ (But.upd (by assumption)); exact But.ext (by (exact extA))) | exact But.at _ _ _); done))))
    | (show Z _ _ _ _ _; apply Z.then_normal)
    | (show W _ _ _ _ _ _; apply W.ret))
  have hS' := Sep.updOld hS hU hg2k
  have hz0 : ∀ (q p : Piece), (q :: PM p)[9]? = some (prowZ 1 encI 3 wk.heap.size d.ins.1 d.ins.2.1 (d.ins.2.2.map f)) ∧ (q :: PM p)[8]? = some (prowZ 1 encI 3 wk.heap.size d.outs.1 d.outs.2.1 (d.outs.2.2.map f)) ∧ (q :: PM p)[7]? = some (prowZ 1 encI 3 wk.heap.size d.bads.1 d.bads.2.1 (d.bads.2.2.map f)) ∧ (q :: PM p)[6]? = some (prowZ 1 encI 3 wk.heap.size d.cons.1 d.cons.2.1 (d.cons.2.2.map f)) ∧ (q :: PM p)[5]? = some (prowZ 3 enc3 69 wk.heap.size d.lat.1 d.lat.2.1 (d.lat.2.2.map (latP A))) ∧ (q :: PM p)[3]? = some (prowZ 3 encY 110 wk.heap.size d.syms.1 d.syms.2.1 d.syms.2.2) := fun q p => by
    rw [hPM, hPL]; exact ⟨rfl, rfl, rfl, rfl, rfl, rfl⟩
  obtain ⟨p9, p8, p7, p6, p5, p3⟩ := hz0 (prow 3 enc3 106 wk.heap.size ag cg (gTo (cNet c.t).1 (cNet c.t).1.length)) (pcell g7 dd.vals.toArray 28)
  rw [← hdv] at hS'
  have hc := hOd.cap
  have hCd : CAt w' dd := by
    rw [hdd]
    have o0 := hS'.row (i := 0) rfl
    exact ⟨⟨rowZ_row2 encI_ok hS' p9, by rw [List.length_map]; exact hc.ins.1, hc.ins.2⟩, ⟨rowZ_row2 enc3_ok hS' p5, by rw [List.length_map]; exact hc.lat.1, hc.lat.2⟩, ⟨rowZ_row2 encI_ok hS' p8, by rw [List.length_map]; exact hc.outs.1, hc.outs.2⟩, ⟨rowZ_row2 encI_ok hS' p7, by rw [List.length_map]; exact hc.bads.1, hc.bads.2⟩,
      ⟨rowZ_row2 encI_ok hS' p6, by rw [List.length_map]; exact hc.cons.1, hc.cons.2⟩, ⟨o0.row enc3_ok, o0.capLe, o0.noneCap⟩, ⟨rowZ_row2 encY_ok hS' p3, hc.syms.1, hc.syms.2⟩⟩
  have RAf : Row 1 encI w' aa (cNet c.t).2 := by
    have hOa' : Own 1 encI 3 w2.heap.size w11 aa ca (cNet c.t).2 := hOa.ext (hXk.trans hX11)
    refine (Own.keep hOa' fun k hk => hU.grown.block k (hOa'.blk_lt k hk).2 ?_).row encI_ok
    intro he
    have h1 := (hOa'.blk_lt k hk).1
    have h2 := heap_lt hb2
    simp only [blk, Option.map_some, Option.some.injEq] at he
    omega
  have hdt2 : dd.t = numC c.t := by
    have ho := net_only_all hg
    have hgT := gTo_all ho ((cNet c.t).1.length - (c.t.ins.length + c.t.lat.length)) (by have := ho.le; omega)
    rw [show c.t.ins.length + c.t.lat.length + ((cNet c.t).1.length - (c.t.ins.length + c.t.lat.length)) = (cNet c.t).1.length by have := ho.le; omega] at hgT
    have e7 : (numC c.t).gates = gatesG (cNet c.t).1 (c.t.ins.length + c.t.lat.length) ((cNet c.t).1.length - (c.t.ins.length + c.t.lat.length)) := by
      show gatesG (cNet c.t).1 (c.t.ins.length + (nextN c.t).length) ((cNet c.t).1.length - (c.t.ins.length + (nextN c.t).length)) = _
      rw [nextN_len]
    rw [hdd]
    show (⟨((cNet c.t).1.length : Nat), d.ins.2.2.map f, d.lat.2.2.map (latP A), d.outs.2.2.map f, d.bads.2.2.map f, d.cons.2.2.map f, gTo (cNet c.t).1 (cNet c.t).1.length, d.syms.2.2, d.com⟩ : CirT) = _
    rw [hdi, hdl, hdo, hdb, hdc, show d.syms.2.2 = c.syms.2.2 from congrArg CirT.syms hdt, show d.com = c.com from congrArg CirT.com hdt, hgT, ← e7, hf, hA, latP_all (c := c.t) hg, num_ins (c := c.t) hg]
    rfl
  have hc2 : Cells w' g2 0 dd.vals := cells_heap hb
  exact Z.bodyCT tOk Try.results30 rfl rfl rfl rfl rfl hc2 fun m => ⟨hX'.at m, dd, aa, ca, rfl, hdt2, hCd.ext ((Ext.refl _).at m), RAf.ext ((Ext.refl _).at m)⟩
end Go.Proofs.Ythpnahapiodflaa
namespace Go.Proofs.Ythpnahapiodflaa
open Go Go.Lt Go.RowKit
set_option linter.unusedVariables false
set_option linter.unusedSimpArgs false
set_option maxRecDepth 20000

/-- A machine in memory: the circuit, its net, and where its variables are. -/
structure MAt (w : World) (gm : Nat) (c : Circ) (rn : RowV (Int × Int)) (ra : RowV Int) : Prop where
  cells : Cells w gm 0 (c.vals ++ [rowVal rn, rowVal ra])
  cat : CAt w c
  net : Row 2 encN w rn.1 rn.2.2
  at_ : Row 1 encI w ra.1 ra.2.2
  en : rn.2.2 = (cNet c.t).1
  ea : ra.2.2 = (cNet c.t).2
  good : GoodC' c.t
  size : SzC c.t 100000
theorem MAt.ext {w w' : World} {gm : Nat} {c : Circ} {rn : RowV (Int × Int)} {ra : RowV Int} (h : MAt w gm c rn ra) (hx : Ext w w') : MAt w' gm c rn ra :=
  ⟨h.cells.ext hx, h.cat.ext hx, h.net.ext hx, h.at_.ext hx, h.en, h.ea, h.good, h.size⟩

end Go.Proofs.Ythpnahapiodflaa
namespace Go.Lt
open Go.RowKit
set_option linter.unusedVariables false

theorem OwnRR.nil {α : Type} {s : Nat} {enc : α → List Value} {el elO B : Nat} {w : World} {a : Option Addr} {cap : Nat} (h : Own 1 encRow elO B w a cap ([] : List (RowV α))) : OwnRR s enc el elO B w a cap [] :=
  ⟨h, fun i r hr => by simp at hr, fun i r hr => by simp at hr, fun i j r q hr => by simp at hr⟩
/-- Rows told, and one more that is not put behind yet. -/
structure RR1 {α : Type} (s : Nat) (enc : α → List Value) (el elO B : Nat) (w : World) (a : Option Addr) (cap : Nat) (rs : List (RowV α)) (b : Option Addr) (dp : Nat) (S : List α) : Prop where
  rr : OwnRR s enc el elO B w a cap rs
  own : Own s enc el B w b dp S
  apartO : blk b = none ∨ blk b ≠ blk a
  apart : ∀ (i : Nat) (q : RowV α), rs[i]? = some q → blk q.1 = none ∨ blk q.1 ≠ blk b
section
variable {α : Type} {s : Nat} {enc : α → List Value} {el elO B : Nat} {w w1 w2 w3 : World} {a a' b : Option Addr} {cap cap' dp : Nat} {rs : List (RowV α)} {S : List α}
theorem RR1.ext (h : RR1 s enc el elO B w a cap rs b dp S) (hx : Ext w w1) : RR1 s enc el elO B w1 a cap rs b dp S := ⟨h.rr.ext hx, h.own.ext hx, h.apartO, h.apart⟩
theorem RR1.new (h : OwnRR s enc el elO B w1 a cap rs) (hx : Ext w1 w2) (hO : Own s enc el w1.heap.size w2 b dp S) (hB : B ≤ w1.heap.size) : RR1 s enc el elO B w2 a cap rs b dp S := by
  refine ⟨h.ext hx, hO.base hB, ?_, fun i q hq => ?_⟩
  · cases hb : blk b with
    | none => exact .inl rfl
    | some k =>
      refine .inr fun he => ?_
      have h1 := (hO.blk_lt k hb).1
      have h2 := (h.outer.blk_lt k he.symm).2
      omega
  · cases hb : blk q.1 with
    | none => exact .inl rfl
    | some k =>
      refine .inr fun he => ?_
      have h1 := ((h.inner i q hq).blk_lt k hb).2
      have h2 := (hO.blk_lt k he.symm).1
      omega
theorem RR1.first {g c0 : Nat} (hO : Own s enc el B w b dp S) (h : Own 1 encRow elO B w (some ⟨g, 0, none⟩) c0 ([] : List (RowV α))) (hg : ∀ k, blk b = some k → k ≠ g) : RR1 s enc el elO B w (some ⟨g, 0, none⟩) c0 [] b dp S := by
  refine ⟨OwnRR.nil h, hO, ?_, fun i q hq => by simp at hq⟩
  cases hb : blk b with
  | none => exact .inl rfl
  | some k =>
    refine .inr fun he => hg k hb ?_
    simp only [blk, Option.map_some, Option.some.injEq] at he; exact he
theorem RR1.push (h : RR1 s enc el elO B w2 a cap rs b dp S) (hU : Upd B a w2 w3) (hO : Own 1 encRow elO B w3 a' cap' (rs ++ [(b, dp, S)])) (hF : blk a' = blk a ∨ ∃ k, blk a' = some k ∧ w2.heap.size ≤ k) : OwnRR s enc el elO B w3 a' cap' (rs ++ [(b, dp, S)]) := by
  obtain ⟨hr, ho, hA, hI⟩ := h
  have get : ∀ (i : Nat) (q : RowV α), (rs ++ [(b, dp, S)])[i]? = some q → (i < rs.length ∧ rs[i]? = some q) ∨ (i = rs.length ∧ q = (b, dp, S)) := fun i q hq => by
    by_cases hi : i < rs.length
    · rw [List.getElem?_append_left hi] at hq; exact .inl ⟨hi, hq⟩
    · rw [List.getElem?_append_right (by omega)] at hq
      have h0 := lt_of_get hq
      simp at h0
      have h1 : i - rs.length = 0 := by omega
      rw [h1] at hq
      simp at hq
      exact .inr ⟨by omega, hq.symm⟩
  have lt2 : ∀ (i : Nat) (q : RowV α) (k : Nat), (rs ++ [(b, dp, S)])[i]? = some q → blk q.1 = some k → k < w2.heap.size := fun i q k hq hk => by
    rcases get i q hq with ⟨_, hq⟩ | ⟨_, rfl⟩
    · exact ((hr.inner i q hq).blk_lt k hk).2
    · exact (ho.blk_lt k hk).2
  have apA : ∀ (i : Nat) (q : RowV α), (rs ++ [(b, dp, S)])[i]? = some q → blk q.1 = none ∨ blk q.1 ≠ blk a := fun i q hq => by
    rcases get i q hq with ⟨_, hq⟩ | ⟨_, rfl⟩
    · exact hr.apartO i q hq
    · exact hA
  refine ⟨hO, fun i q hq => ?_, fun i q hq => ?_, fun i j q p h1 h2 hne => ?_⟩
  · rcases get i q hq with ⟨_, hq'⟩ | ⟨_, rfl⟩
    · exact hU.own (hr.inner i q hq') (hr.apartO i q hq')
    · exact hU.own ho hA
  · rcases hF with hF | ⟨k, hk, hle⟩
    · rw [hF]; exact apA i q hq
    · cases hb : blk q.1 with
      | none => exact .inl rfl
      | some b =>
        refine .inr fun he => ?_
        have := lt2 i q b hq hb
        rw [hk] at he
        have := Option.some.inj he
        omega
  · rcases get i q h1 with ⟨_, h1'⟩ | ⟨rfl, rfl⟩
    · rcases get j p h2 with ⟨_, h2'⟩ | ⟨rfl, rfl⟩
      · exact hr.apart i j q p h1' h2' hne
      · exact hI i q h1'
    · rcases get j p h2 with ⟨_, h2'⟩ | ⟨rfl, rfl⟩
      · show blk b = none ∨ blk b ≠ blk p.1
        cases hb : blk b with
        | none => exact .inl rfl
        | some k =>
          refine .inr fun he => ?_
          rcases hI j p h2' with h3 | h3
          · rw [h3] at he; cases he
          · exact h3 (by rw [hb]; exact he.symm)
      · exact absurd rfl hne
end
theorem OwnRR.base {α : Type} {s : Nat} {enc : α → List Value} {el elO B C : Nat} {w : World} {a : Option Addr} {cap : Nat} {rs : List (RowV α)} (h : OwnRR s enc el elO C w a cap rs) (hB : B ≤ C) : OwnRR s enc el elO B w a cap rs := ⟨h.outer.base hB, fun i r hr => (h.inner i r hr).base hB, h.apartO, h.apart⟩
theorem OwnRR.row {α : Type} {s : Nat} {enc : α → List Value} {el elO B : Nat} {w : World} {a : Option Addr} {cap : Nat} {rs : List (RowV α)} (h : OwnRR s enc el elO B w a cap rs) (hE : Enc s enc) {i : Nat} {r : RowV α} (hr : rs[i]? = some r) : Row s enc w r.1 r.2.2 := (h.inner i r hr).row hE
theorem OwnRR.at {α : Type} {s : Nat} {enc : α → List Value} {el elO B : Nat} {w : World} {a : Option Addr} {cap : Nat} {rs : List (RowV α)} (h : OwnRR s enc el elO B w a cap rs) (m : Nat) : OwnRR s enc el elO B (at' w m) a cap rs := h.ext ((Ext.refl w).at m)
end Go.Lt
namespace Go.Proofs.Ythpnahapiodflaa
open Go Go.Lt Go.RowKit
set_option linter.unusedVariables false
set_option linter.unusedSimpArgs false
set_option maxRecDepth 20000

abbrev encRB : RowV Bool → List Value := encRow
/-- A run by value: its rows, with where they lie. -/
structure RunV where
  st : RowV Bool
  ins : RowV (RowV Bool)
abbrev RunV.val (r : RunV) : Value := .agg #[rowVal r.st, rowVal r.ins]
abbrev RunV.s (r : RunV) : List Bool := r.st.2.2
abbrev RunV.i (r : RunV) : List (List Bool) := r.ins.2.2.map (·.2.2)
structure RAt (w : World) (r : RunV) : Prop where
  st : Row 1 encB w r.st.1 r.st.2.2
  ins : Row 1 encRB w r.ins.1 r.ins.2.2
  each : ∀ x ∈ r.ins.2.2, Row 1 encB w x.1 x.2.2
theorem RAt.ext {w w' : World} {r : RunV} (h : RAt w r) (hx : Ext w w') : RAt w' r := ⟨h.st.ext hx, h.ins.ext hx, fun x h1 => (h.each x h1).ext hx⟩
end Go.Proofs.Ythpnahapiodflaa
namespace Go.Proofs.Ythpnahapiodflaa
open Go Go.Lt Go.RowKit
set_option linter.unusedVariables false
set_option linter.unusedSimpArgs false
set_option maxRecDepth 20000

/-- The values of a machine in a step, by value. -/
structure VAt (w : World) (c : Circ) (s i : List Bool) (rv : RowV Bool) (ra : RowV Int) : Prop where
  vals : Row 1 encB w rv.1 rv.2.2
  at_ : Row 1 encI w ra.1 ra.2.2
  ev : rv.2.2 = stepV c.t s i
  ea : ra.2.2 = (cNet c.t).2
  good : GoodC' c.t
  size : SzC c.t 100000
theorem VAt.ext {w w' : World} {c : Circ} {s i : List Bool} {rv : RowV Bool} {ra : RowV Int} (h : VAt w c s i rv ra) (hx : Ext w w') : VAt w' c s i rv ra := ⟨h.vals.ext hx, h.at_.ext hx, h.ev, h.ea, h.good, h.size⟩
end Go.Proofs.Ythpnahapiodflaa
namespace Go.Lt
open Go.RowKit
set_option linter.unusedVariables false
section
variable {P : Program} {N : Nat} {e : Env} {w : World} {C : World → Prop} {ops : List Oper} {l : List Oper} {Kf : Act → Prop} {Q : Exit → Act → World → Prop} {T : Tab}
  {d : Nat} {tt t ty : TypeId} {ps : String} {af : Array Edge} {g : Option (Nat × Bool)} {x y : Operand} {i : TI} {el : TypeId}
theorem QL.neNilS {q : Addr} (hT : OkTab P T) (hg : gate ops e g = some true) (hd : Nat.blt d N = true) (hx : ev e x = some (.pointer (some q))) (hy : ev e y = some (.pointer none)) (ht : tget T t = some i) (htd : i.desc = .pointer el) (k : QL P N C ops.toArray l ((d, .bool true) :: e) Q) : QL P N C ops.toArray (⟨some d, .binOp .neq t x y ty, tt, ps, af, g⟩ :: l) e Q := by
  refine QL.step hg hd ?_ k
  have := (yneNil (P := P) (dd := some d) (ty := ty) (tt := tt) (ps := ps) (af := af) (g := g) hT hx hy ht htd)
  rw [dec_true (by simp)] at this
  exact this.in
theorem QL.eqNilS {q : Addr} (hT : OkTab P T) (hg : gate ops e g = some true) (hd : Nat.blt d N = true) (hx : ev e x = some (.pointer (some q))) (hy : ev e y = some (.pointer none)) (ht : tget T t = some i) (htd : i.desc = .pointer el) (k : QL P N C ops.toArray l ((d, .bool false) :: e) Q) : QL P N C ops.toArray (⟨some d, .binOp .eql t x y ty, tt, ps, af, g⟩ :: l) e Q := by
  refine QL.step hg hd ?_ k
  have := (yeqNil (P := P) (dd := some d) (ty := ty) (tt := tt) (ps := ps) (af := af) (g := g) hT hx hy ht htd)
  rw [dec_false (by simp)] at this
  exact this.in
theorem FL.neNilS {q : Addr} (hT : OkTab P T) (hg : gate ops e g = some true) (hd : Nat.blt d N = true) (hx : ev e x = some (.pointer (some q))) (hy : ev e y = some (.pointer none)) (ht : tget T t = some i) (htd : i.desc = .pointer el) (k : FL P N ops.toArray C l ((d, .bool true) :: e) w Kf) : FL P N ops.toArray C (⟨some d, .binOp .neq t x y ty, tt, ps, af, g⟩ :: l) e w Kf := by
  refine FL.step hg hd ?_ k
  have := (yneNil (P := P) (dd := some d) (ty := ty) (tt := tt) (ps := ps) (af := af) (g := g) hT hx hy ht htd)
  rw [dec_true (by simp)] at this
  exact this.in
theorem FL.eqNilS {q : Addr} (hT : OkTab P T) (hg : gate ops e g = some true) (hd : Nat.blt d N = true) (hx : ev e x = some (.pointer (some q))) (hy : ev e y = some (.pointer none)) (ht : tget T t = some i) (htd : i.desc = .pointer el) (k : FL P N ops.toArray C l ((d, .bool false) :: e) w Kf) : FL P N ops.toArray C (⟨some d, .binOp .eql t x y ty, tt, ps, af, g⟩ :: l) e w Kf := by
  refine FL.step hg hd ?_ k
  have := (yeqNil (P := P) (dd := some d) (ty := ty) (tt := tt) (ps := ps) (af := af) (g := g) hT hx hy ht htd)
  rw [dec_false (by simp)] at this
  exact this.in
end
end Go.Lt
namespace Go.Proofs.Ythpnahapiodflaa
open Go Go.Lt Go.RowKit
set_option linter.unusedVariables false
set_option linter.unusedSimpArgs false
set_option maxRecDepth 20000

theorem num_sz {c : CirT} (h : GoodC' c) (hz : SzC c 100000) : SzC (numC c) 100000 := by
  obtain ⟨z1, z2, z3, z4, z5, z6⟩ := hz
  refine ⟨by rw [num_inslen]; exact z1, by rw [num_latlen]; exact z2, ?_, ?_, ?_, ?_⟩
  · show (c.outs.map _).length ≤ _; rw [List.length_map]; exact z3
  · show (c.bads.map _).length ≤ _; rw [List.length_map]; exact z4
  · show (c.cons.map _).length ≤ _; rw [List.length_map]; exact z5
  · rw [← gatesR_all h, gatesR_len (Nat.le_refl _)]
    exact Nat.le_trans (ordL_is c.gates).1.le z6
end Go.Proofs.Ythpnahapiodflaa
