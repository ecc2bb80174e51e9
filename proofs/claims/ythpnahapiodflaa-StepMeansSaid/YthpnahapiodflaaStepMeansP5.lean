/- StepMeans: a run breaks a property of a circuit just if it does of the circuit in other numbers. No conditions. -/
import Derived.Test.YthpnahapiodflaaRows
import Derived.Lib.SmallJoins
import Derived.KernelRfl
import Derived.WalkKit
import Derived.ProofKit
import Derived.Deep.Quiet
import Derived.Deep.LoopGhost
import Derived.StillTail
import Derived.Test.YthpnahapiodflaaProg
import Derived.OpenShut
import Derived.ShutString
import Derived.ChangeOld
import Derived.Deep.Slices
import Derived.SizedLaws
import Derived.Laws.StructEq
import Derived.Laws.CopyRow
import Derived.Laws.IdiomCopy
import Derived.Test.YthpnahapiodflaaStepMeansP4
namespace Go.Proofs.Ythpnahapiodflaa
open Go Go.Lt Go.RowKit
set_option linter.unusedVariables false
set_option linter.unusedSimpArgs false
set_option maxRecDepth 20000

set_option maxHeartbeats 4000000 in
theorem step_States (gm : Nat) (c : Circ) (rn : RowV (Int × Int)) (ra : RowV Int) (r : RunV) (w : World) (hM : MAt w gm c rn ra) (hR : RAt w r) (hn : r.ins.2.2.length ≤ 1048576) :
    Lt.Spec Try.prog 74 [.pointer (some ⟨gm, 0, none⟩), r.val] w (IsFreshRR 1 encB 4 22 w (statesV c.t r.s r.i)) := by
  have k2 : c.lat.2.2.length ≤ 100000 := hM.size.2.1
  refine Spec.of _ Try.func74 rfl Try.ntmps74 (by kernel_rfl) rfl ?_
  repeat' (first
    | (apply WL.box; exact rfl; exact rfl; exact rfl; intro gb w' hb hge hc hx; have hcc := hc; (first | (obtain ⟨h1, h2, h3, _⟩ := hc) | (obtain ⟨h1, h2, _⟩ := hc)); (obtain ⟨gr, rfl⟩ : ∃ x, x = gb := ⟨_, rfl⟩; obtain ⟨wr, rfl⟩ : ∃ x, x = w' := ⟨_, rfl⟩; obtain ⟨hxr, rfl⟩ : ∃ x, x = hx := ⟨_, rfl⟩))
    | (apply WL.eqNilS tOk; exact rfl; exact rfl; exact rfl; exact rfl; exact rfl; exact rfl)
    | (show WL _ _ _ _ _ _ _; first | apply WL.nil | (refine WL.au (k := ?_)))
    | (show Z _ _ _ _ _; apply Z.then_normal)
    | (show W _ _ _ _ _ _; first | apply W.seq | apply W.region))
  repeat' (first
    | (show W _ _ (.region 4 _ _) _ _ _; apply W.regionGX (.fl true 0 (.fl true 2 (.fl false 1 (.br 3 (.br 4 (.fl true 5 .done) .stop) .stop)))) [3] tMix; kernel_rfl)
    | ((show WL _ _ _ (⟨_, .call ⟨.value (.func 63), _, _⟩, _, _, _, _⟩ :: _) _ _ _); apply WL.callS; exact rfl; exact rfl; exact rfl; exact rfl; exact step_Latches gm c rn ra _ (hM.ext (by (exact extA))))
    | ((show WL _ _ _ (⟨_, .call ⟨.value (.func 127), _, _⟩, _, _, _, _⟩ :: _) _ _ _); apply WL.call; exact rfl; exact rfl; exact rfl; exact rfl; exact step_brought _ _ r.s c.lat.2.2.length _ (hR.st.ext (by (exact extA))) (by omega); rintro v' w' ⟨hx, a', cap', rfl, hO⟩)
    | (show SX _ _ _ _ _ _ _ _ _; first | (apply SX.done; intro w' hx) | (apply SX.fl0; exact rfl) | (apply SX.fl1; exact rfl; (exact extA)) | (apply SX.br1; exact rfl; intro w' hx))
    | (show FL _ _ _ _ _ _ _ _; first | apply FL.nilX | (apply FL.loadE tOk; exact rfl; exact rfl; exact rfl; exact rfl; exact rfl; assumption))
    | (show FL _ _ _ _ _ _ _ _; (refine FL.au (k := ?_)))
    | (show Z _ _ _ _ _; first | (apply Z.sxL; exact rfl) | (apply Z.sxE; (exact extA)))
    | (show WL _ _ _ _ _ _ _; first | apply WL.nil | (refine WL.au (k := ?_)))
    | (show Z _ _ _ _ _; apply Z.then_normal)
    | (show W _ _ _ _ _ _; first | apply W.seq | apply W.region | apply W.block | apply W.skip | (apply W.condF; exact rfl)))
  have hXr : Ext wr w' := (by (exact extA))
  have h0 : RR1 1 encB 4 22 wr.heap.size w' none 0 [] a' cap' (brV r.s c.lat.2.2.length) := by
    refine RR1.ext (RR1.new (OwnRR.nil Own.nil) ?_ hO ?_) ?_
    · exact (by (exact extA))
    · exact Below.size (by (exact extA))
    · exact (by (exact extA))
  obtain ⟨b0, rfl⟩ : ∃ x, x = a' := ⟨_, rfl⟩; obtain ⟨d0, rfl⟩ : ∃ x, x = cap' := ⟨_, rfl⟩; obtain ⟨w1, rfl⟩ : ∃ x, x = w' := ⟨_, rfl⟩
  clear hO
  refine W.loopO2 r.ins.2.2.length (fun k a cp b dp w' => k ≤ r.ins.2.2.length ∧ Ext wr w' ∧ ∃ rs : List (RowV Bool), rs.length = k ∧ rs.map (fun q => q.2.2) = (List.range k).map (stateV c.t r.s r.i) ∧ RR1 1 encB 4 22 wr.heap.size w' a cp rs b dp (stateV c.t r.s r.i k))
    (fun k a cp b dp => [(0, .pointer (some ⟨gm, 0, none⟩)), (17, rowVal r.ins), (18, .int .i64 r.ins.2.2.length), (5, .slice a k cp), (6, .slice b (stateV c.t r.s r.i k).length dp), (19, .int .i64 k)]) none 0 b0 d0 ⟨Nat.zero_le _, hXr, [], rfl, rfl, h0⟩ (fun k a cp b dp w' h => h.1) ⟨rfl, rfl, rfl, rfl, rfl, rfl, trivial⟩ ?_
  clear h0
  rintro k a cp sb dp w2 ⟨hk, hX2, rs, hl, he, hR1⟩
  have hsl' : (stateV c.t r.s r.i k).length = c.lat.2.2.length := stateV_len c.t r.s r.i k
  have hRi := hR.ins
  have hXw2 : Ext w w2 := hxr.trans hX2
  by_cases hlt : k < r.ins.2.2.length
  · obtain ⟨x, hxx⟩ := getI r.ins.2.2 hlt
    have hxi := runI_get hxx
    have hxr2 := hR.each x (List.mem_of_getElem? hxx)
    have e1 : stateV c.t r.s r.i (k + 1) = nextV c.t (stateV c.t r.s r.i k) x.2.2 := by
      show nextV c.t _ (r.i.getD k []) = _; rw [getD_of hxi]
    have hOo : Own 1 encRB 22 wr.heap.size w2 a cp rs := hR1.rr.outer
    have RSt := hR1.own.row encB_ok
    repeat' (first
      | (show WL _ _ _ _ _ _ _; first | apply WL.nil | (refine WL.au (k := ?_)))
      | (show Z _ _ _ _ _; apply Z.then_normal)
      | (show W _ _ _ _ _ _; first | apply W.seq | apply W.region))
    refine W.condKT rfl (dec_true (by omega)) ?_
    repeat' (first
      | (apply WL.lit tOk; exact rfl; exact rfl; exact rfl; exact rfl; exact rfl; exact rfl; (first | exact rfl | kernel_rfl | (simp [Instr.fill, catCells]; done)); exact rfl; intro gb w' hb hge hc hx)
      | (apply WL.append1 (z := (((sb, dp, stateV c.t r.s r.i k) : RowV Bool))) tOk encRB_ok; exact rfl; exact rfl; exact rfl; exact rfl; exact rfl; exact rfl; exact rfl; exact rfl; exact rfl; exact rfl; assumption; (exact extA); (first | exact rfl | (focus (simp only [List.length_set]; done)) | (focus (simp; done)) | (focus (simp [*]; done)) | omega | (focus (simp only [List.length_set]; omega))); assumption; exact rfl; exact rfl; (exact extA); (first | omega | (simp; omega) | (simp at *; omega)); intro a' cap' w' hO hX' hU hF)
      | (show WL _ _ _ _ _ _ _; first | apply WL.nil | (refine WL.au (k := ?_)) | (apply WL.index tOk; exact rfl; exact rfl; exact rfl; exact rfl; exact rfl; exact rfl; exact rfl; exact rfl; assumption; (exact extA); exact rfl; omega; assumption; intro b off h; have hcc := h; first | (obtain ⟨h1, h2, h3, h4, h5, h6, _⟩ := h) | (obtain ⟨h1, h2, h3, _⟩ := h) | (obtain ⟨h1, h2, _⟩ := h) | (obtain ⟨h1, _⟩ := h)))
      | (show Z _ _ _ _ _; apply Z.then_normal)
      | (show W _ _ _ _ _ _; first | apply W.seq | apply W.region | apply W.block | apply W.skip))
    have hXn : Ext wr w' := hX'
    have hR2 := (hR1.ext hx).push hU hO hF
    have hl2 : (rs ++ [((sb, dp, stateV c.t r.s r.i k) : RowV Bool)]).length = k + 1 := by rw [List.length_append, hl]; rfl
    have he2 : (rs ++ [((sb, dp, stateV c.t r.s r.i k) : RowV Bool)]).map (fun q => q.2.2) = (List.range (k + 1)).map (stateV c.t r.s r.i) := by rw [List.map_append, he, range_map_succ]; rfl
    have hget : (rs ++ [((sb, dp, stateV c.t r.s r.i k) : RowV Bool)])[k]? = some (sb, dp, stateV c.t r.s r.i k) := by rw [List.getElem?_append_right (by omega), hl]; simp
    have RSt2 : Row 1 encB w' sb (stateV c.t r.s r.i k) := hR2.row encB_ok hget
    clear hOo RSt hO hU hF
    obtain ⟨w3, rfl⟩ : ∃ x, x = w' := ⟨_, rfl⟩; obtain ⟨a3, rfl⟩ : ∃ x, x = a' := ⟨_, rfl⟩; obtain ⟨c3, rfl⟩ : ∃ x, x = cap' := ⟨_, rfl⟩
    have hM3 := hM.ext (hxr.trans hXn)
    have hxr3 := hxr2.ext (hxr.trans hXn)
    repeat' (first
      | ((show WL _ _ _ (⟨_, .call ⟨.value (.func 67), _, _⟩, _, _, _, _⟩ :: _) _ _ _); apply WL.call; exact rfl; exact rfl; exact rfl; exact rfl; exact step_Next gm c rn ra _ _ _ _ (stateV c.t r.s r.i k) x.2.2 _ (hM3.ext (by (exact extA))) (RSt2.ext (by (exact extA))) (hxr3.ext (by (exact extA))); rintro v' w' ⟨hx, a', cap', rfl, hO⟩)
      | (show WL _ _ _ _ _ _ _; first | apply WL.nil | (refine WL.au (k := ?_)))
      | (show Z _ _ _ _ _; first | apply Z.then_normal | apply Z.block_normal)
      | (show W _ _ _ _ _ _; apply W.region))
    rw [← e1] at hO ⊢
    exact Z.againO2 a3 c3 a' cap' ⟨by omega, hXn.trans (by (exact extA)), _, hl2, he2, RR1.new hR2 (by (exact extA)) hO (Below.size hXn)⟩ ⟨rfl, rfl, rfl, congrArg (fun z => some (Value.slice a3 z c3)) hl2, rfl, rfl, trivial⟩
  · obtain rfl : k = r.ins.2.2.length := by omega
    repeat' (first
      | (show WL _ _ _ _ _ _ _; first | apply WL.nil | (refine WL.au (k := ?_)))
      | (show Z _ _ _ _ _; apply Z.then_normal)
      | (show W _ _ _ _ _ _; first | apply W.seq | apply W.region))
    refine W.condKF rfl (dec_false (by omega)) ?_
    repeat' (first
      | (show WL _ _ _ _ _ _ _; first | apply WL.nil | (refine WL.au (k := ?_)))
      | (show Z _ _ _ _ _; first | apply Z.then_normal | apply Z.then_exit | apply Z.block_exit)
      | (show W _ _ _ _ _ _; first | apply W.seq | apply W.region | apply W.ret | apply W.exit))
    have he' : rs.map (fun q => q.2.2) = statesV c.t r.s r.i := by rw [he]; unfold statesV; rw [runI_len]
    refine Z.body1 Try.results74 rfl fun m => ⟨hXw2.at m, a, cp, rs, by rw [hl], (hR1.rr.base (Below.size hxr)).at m, he'⟩

set_option maxHeartbeats 4000000 in
theorem step_Breaks (gm : Nat) (c : Circ) (rn : RowV (Int × Int)) (ra : RowV Int) (r : RunV) (p : Int) (w : World) (hM : MAt w gm c rn ra) (hR : RAt w r) (hn : r.ins.2.2.length ≤ 1048576) :
    Pure Try.prog 76 [.pointer (some ⟨gm, 0, none⟩), r.val, .int .i64 p] w (.bool (dec (BreaksP c.t r.s r.i p))) := by
  have hM' := hM
  have hil := runI_len r
  by_cases q1 : StartsP c.t r.s
  rotate_left
  · have e : dec (BreaksP c.t r.s r.i p) = false := dec_false fun h => q1 h.1
    refine Spec.of _ Try.func76 rfl Try.ntmps76 (by kernel_rfl) rfl ?_
    repeat' (first
      | (apply WL.box; exact rfl; exact rfl; exact rfl; intro gb w' hb hge hc hx; have hcc := hc; (first | (obtain ⟨h1, h2, h3, _⟩ := hc) | (obtain ⟨h1, h2, _⟩ := hc)))
      | (apply WL.gT; exact rfl; exact rfl; (focus (first | (rw [dec_false q1]; rfl); done)))
      | ((show WL _ _ _ (⟨_, .call ⟨.value (.func 64), _, _⟩, _, _, _, _⟩ :: _) _ _ _); apply WL.callP; exact rfl; exact rfl; exact rfl; exact rfl; exact step_Starts gm c rn ra _ _ r.s _ (hM'.ext (by (exact extA))) (hR.st.ext (by (exact extA))); intro w' hx)
      | (show WL _ _ _ _ _ _ _; first | apply WL.nil | (refine WL.au (k := ?_)) | (apply WL.guardF; exact rfl; exact rfl))
      | (show Z _ _ _ _ _; first | apply Z.then_normal | apply Z.then_ret)
      | (show W _ _ _ _ _ _; first | apply W.seq | apply W.region | apply W.ret | (apply W.condT; exact rfl)))
    exact Z.body1 Try.results76 rfl fun m => ⟨by rw [e], Ext.at (by (exact extA)) m⟩
  by_cases q2 : r.ins.2.2.length = 0
  · have e : dec (BreaksP c.t r.s r.i p) = false := dec_false fun h => h.2.1 (List.eq_nil_of_length_eq_zero (by rw [hil]; exact q2))
    refine Spec.of _ Try.func76 rfl Try.ntmps76 (by kernel_rfl) rfl ?_
    repeat' (first
      | (apply WL.box; exact rfl; exact rfl; exact rfl; intro gb w' hb hge hc hx; have hcc := hc; (first | (obtain ⟨h1, h2, h3, _⟩ := hc) | (obtain ⟨h1, h2, _⟩ := hc)))
      | (apply WL.gF; exact rfl; exact rfl; (focus (first | (rw [dec_true q1]; rfl) | exact dec_true (by omega); done)))
      | (apply W.condKT; exact rfl; (focus (first | (rw [dec_true q1]; rfl) | exact dec_true (by omega); done)))
      | ((show WL _ _ _ (⟨_, .call ⟨.value (.func 64), _, _⟩, _, _, _, _⟩ :: _) _ _ _); apply WL.callP; exact rfl; exact rfl; exact rfl; exact rfl; exact step_Starts gm c rn ra _ _ r.s _ (hM'.ext (by (exact extA))) (hR.st.ext (by (exact extA))); intro w' hx)
      | (show WL _ _ _ _ _ _ _; first | apply WL.nil | (refine WL.au (k := ?_)))
      | (show Z _ _ _ _ _; first | apply Z.then_normal | apply Z.then_ret)
      | (show W _ _ _ _ _ _; first | apply W.seq | apply W.region | apply W.ret))
    exact Z.body1 Try.results76 rfl fun m => ⟨by rw [e], Ext.at (by (exact extA)) m⟩
  refine Spec.of _ Try.func76 rfl Try.ntmps76 (by kernel_rfl) rfl ?_
  repeat' (first
    | (apply WL.box; exact rfl; exact rfl; exact rfl; intro gb w' hb hge hc hx; have hcc := hc; (first | (obtain ⟨h1, h2, h3, _⟩ := hc) | (obtain ⟨h1, h2, _⟩ := hc)); (obtain ⟨gr, rfl⟩ : ∃ x, x = gb := ⟨_, rfl⟩; obtain ⟨wr, rfl⟩ : ∃ x, x = w' := ⟨_, rfl⟩; obtain ⟨hxr, rfl⟩ : ∃ x, x = hx := ⟨_, rfl⟩; have hcr : Cells wr gr 0 [rowVal r.st, rowVal r.ins] := hcc))
    | (apply WL.gF; exact rfl; exact rfl; (focus (first | (rw [dec_true q1]; rfl) | exact dec_false (by omega); done)))
    | (apply W.condKF; exact rfl; (focus (first | (rw [dec_true q1]; rfl) | exact dec_false (by omega); done)))
    | ((show WL _ _ _ (⟨_, .call ⟨.value (.func 64), _, _⟩, _, _, _, _⟩ :: _) _ _ _); apply WL.callP; exact rfl; exact rfl; exact rfl; exact rfl; exact step_Starts gm c rn ra _ _ r.s _ (hM'.ext (by (exact extA))) (hR.st.ext (by (exact extA))); intro w' hx; (obtain ⟨ws, rfl⟩ : ∃ x, x = w' := ⟨_, rfl⟩; obtain ⟨hxs, rfl⟩ : ∃ x, x = hx := ⟨_, rfl⟩; have hcs := hcr.ext hxs; obtain ⟨m1, m2, _⟩ := id hcs))
    | (show WL _ _ _ _ _ _ _; first | apply WL.nil | (refine WL.au (k := ?_)))
    | (show Z _ _ _ _ _; apply Z.then_normal)
    | (show W _ _ _ _ _ _; first | apply W.seq | apply W.region | apply W.skip))
  repeat' (first
    | (show W _ _ (.region 3 _ _) _ _ _; apply W.regionGX (.fl true 0 (.fl true 3 (.fl false 1 (.fl false 4 (.fl true 5 (.fl true 6 (.br 2 (.fl true 7 (.fl true 8 .done)) .stop))))))) [2, 4, 5, 6, 7] tMix; kernel_rfl)
    | (((show WL _ _ _ (⟨_, .call ⟨.value (.func 74), _, _⟩, _, _, _, _⟩ :: _) _ _ _); apply WL.call; exact rfl; exact rfl; exact rfl; exact rfl; exact step_States gm c rn ra r _ (hM'.ext (by (exact extA))) (hR.ext (by (exact extA))) hn; rintro v' w3 ⟨hx3, a3, c3, rs, rfl, hRR, he⟩))
    | (show SX _ _ _ _ _ _ _ _ _; first | (apply SX.done; intro w' hx) | (apply SX.fl0; exact rfl) | (apply SX.fl1; exact rfl; (exact extA)) | (apply SX.br1; exact rfl; intro w' hx))
    | (show FL _ _ _ _ _ _ _ _; first | apply FL.nilX | (apply FL.loadE tOk; exact rfl; exact rfl; exact rfl; exact rfl; exact rfl; assumption) | (apply FL.loadAE tOk; exact rfl; exact rfl; exact rfl; exact rfl; exact rfl; assumption; exact rfl))
    | (show FL _ _ _ _ _ _ _ _; (refine FL.au (k := ?_)))
    | (show Z _ _ _ _ _; (apply Z.sxE; (exact extA)))
    | (show WL _ _ _ _ _ _ _; first | apply WL.nil | (refine WL.au (k := ?_)))
    | (show Z _ _ _ _ _; apply Z.then_normal)
    | (show W _ _ _ _ _ _; first | apply W.seq | apply W.region | apply W.block))
  have hX3 : Ext wr w' := (by (exact extA))
  have hRR' : OwnRR 1 encB 4 22 _ w' a3 c3 rs := hRR.ext (by (exact extA))
  clear hRR
  obtain ⟨w4, rfl⟩ : ∃ x, x = w' := ⟨_, rfl⟩
  have hrl : rs.length = r.ins.2.2.length := by have := congrArg List.length he; rw [List.length_map, statesV_len, hil] at this; exact this
  have Rrs : Row 1 encRB w4 a3 rs := hRR'.outer.row encRB_ok
  have hcc4 := hcr.ext hX3
  have hX0 : Ext w w4 := hxr.trans hX3
  have hM4 := hM'.ext hX0
  have hR4 := hR.ext hX0
  have hnn : (r.ins.2.2.length : Int) - 1 = ((r.ins.2.2.length - 1 : Nat) : Int) := by omega
  refine W.loopW r.ins.2.2.length (fun k w' => k ≤ r.ins.2.2.length ∧ Ext w4 w' ∧ GoesP c.t r.s r.i k) (fun k => [(0, .pointer (some ⟨gm, 0, none⟩)), (2, .int .i64 p), (4, .pointer (some ⟨gr, 0, none⟩)), (7, .slice a3 rs.length c3), (8, .int .i64 ((r.ins.2.2.length : Int) - 1)), (30, rowVal r.ins), (31, .int .i64 r.ins.2.2.length), (32, .int .i64 k)]) ⟨Nat.zero_le _, Ext.refl _, fun j i h => by omega⟩ (fun k w' h => h.1) ⟨rfl, rfl, rfl, rfl, rfl, rfl, rfl, rfl, trivial⟩ ?_
  rintro k w5 ⟨hk, hX5, hgo⟩
  obtain ⟨k1, k3, _⟩ := hcc4.ext hX5
  have Rrs5 := Rrs.ext hX5
  have hRi5 := hR4.ins.ext hX5
  by_cases hlt : k < r.ins.2.2.length
  · obtain ⟨x, hxx⟩ := getI r.ins.2.2 hlt
    have hxi := runI_get hxx
    have hxr := hR4.each x (List.mem_of_getElem? hxx)
    obtain ⟨q, hq, hqe⟩ := statesV_i c.t r he hlt
    have Rq := hRR'.row encB_ok hq
    have hh := fun (w9 : World) (h9 : Ext w5 w9) => step_Holds gm c rn ra q.1 x.1 q.2.1 x.2.1 q.2.2 x.2.2 w9 (hM4.ext (hX5.trans h9)) (Rq.ext (hX5.trans h9)) (hxr.ext (hX5.trans h9))
    have hi := fun (w9 : World) (h9 : Ext w5 w9) => step_Inputs gm c rn ra w9 (hM4.ext (hX5.trans h9))
    repeat' (first
      | (show WL _ _ _ _ _ _ _; first | apply WL.nil | (refine WL.au (k := ?_)))
      | (show Z _ _ _ _ _; apply Z.then_normal)
      | (show W _ _ _ _ _ _; first | apply W.seq | apply W.region))
    refine W.condKT rfl (dec_true (by omega)) ?_
    by_cases u1 : x.2.2.length = c.ins.2.2.length
    · by_cases u2 : HoldsP c.t q.2.2 x.2.2
      · have hstep : GoesP c.t r.s r.i (k + 1) := fun j i hj hi => by
          by_cases hjk : j = k
          · subst hjk; rw [hxi] at hi; cases hi; exact ⟨u1, hqe ▸ u2⟩
          · exact hgo j i (by omega) hi
        rw [dec_true u2] at hh
        repeat' (first
          | (apply WL.callS; exact rfl; exact rfl; exact rfl; exact rfl; (apply hi _; (exact extA)))
          | (apply WL.gF; exact rfl; exact rfl; (focus (first | exact dec_true (by omega) | exact dec_false (by omega); done)))
          | (((show WL _ _ _ (⟨_, .call ⟨.value (.func 71), _, _⟩, _, _, _, _⟩ :: _) _ _ _); apply WL.callP; exact rfl; exact rfl; exact rfl; exact rfl; exact hh _ (by (exact extA)); intro w' hx))
          | (show WL _ _ _ _ _ _ _; first | apply WL.nil | (refine WL.au (k := ?_)) | (apply WL.index tOk; exact rfl; exact rfl; exact rfl; exact rfl; exact rfl; exact rfl; exact rfl; exact rfl; assumption; (exact extA); exact rfl; omega; assumption; intro b off h; have hcc := h; first | (obtain ⟨h1, h2, h3, h4, h5, h6, _⟩ := h) | (obtain ⟨h1, h2, h3, _⟩ := h) | (obtain ⟨h1, h2, _⟩ := h) | (obtain ⟨h1, _⟩ := h)))
          | (show Z _ _ _ _ _; first | apply Z.then_normal | apply Z.block_normal)
          | (show W _ _ _ _ _ _; first | apply W.seq | apply W.region | apply W.block | apply W.skip | (apply W.condF; exact rfl)))
        exact Z.againW ⟨by omega, (by (exact extA)), hstep⟩ ⟨rfl, rfl, rfl, rfl, rfl, rfl, rfl, rfl, trivial⟩
      · have e : dec (BreaksP c.t r.s r.i p) = false := dec_false fun h => u2 (by have := (h.2.2.1 k x.2.2 (by rw [hil]; exact hlt) hxi).2; rw [hqe]; exact this)
        rw [dec_false u2] at hh
        repeat' (first
          | (apply WL.callS; exact rfl; exact rfl; exact rfl; exact rfl; (apply hi _; (exact extA)))
          | (apply WL.gF; exact rfl; exact rfl; (focus (first | exact dec_true (by omega) | exact dec_false (by omega); done)))
          | (((show WL _ _ _ (⟨_, .call ⟨.value (.func 71), _, _⟩, _, _, _, _⟩ :: _) _ _ _); apply WL.callP; exact rfl; exact rfl; exact rfl; exact rfl; exact hh _ (by (exact extA)); intro w' hx))
          | (show WL _ _ _ _ _ _ _; first | apply WL.nil | (refine WL.au (k := ?_)) | (apply WL.index tOk; exact rfl; exact rfl; exact rfl; exact rfl; exact rfl; exact rfl; exact rfl; exact rfl; assumption; (exact extA); exact rfl; omega; assumption; intro b off h; have hcc := h; first | (obtain ⟨h1, h2, h3, h4, h5, h6, _⟩ := h) | (obtain ⟨h1, h2, h3, _⟩ := h) | (obtain ⟨h1, h2, _⟩ := h) | (obtain ⟨h1, _⟩ := h)))
          | (show Z _ _ _ _ _; first | apply Z.then_normal | apply Z.then_ret | apply Z.block_ret)
          | (show W _ _ _ _ _ _; first | apply W.seq | apply W.region | apply W.block | apply W.skip | apply W.ret | (apply W.condT; exact rfl)))
        exact Z.body1 Try.results76 rfl fun m => ⟨by rw [e], Ext.at (by (exact extA)) m⟩
    · have e : dec (BreaksP c.t r.s r.i p) = false := dec_false fun h => u1 (h.2.2.1 k x.2.2 (by rw [hil]; exact hlt) hxi).1
      repeat' (first
        | (apply WL.callS; exact rfl; exact rfl; exact rfl; exact rfl; (apply hi _; (exact extA)))
        | (apply WL.gT; exact rfl; exact rfl; (focus (first | exact dec_true (by omega) | exact dec_false (by omega); done)))
        | (show WL _ _ _ _ _ _ _; first | apply WL.nil | (refine WL.au (k := ?_)) | (apply WL.index tOk; exact rfl; exact rfl; exact rfl; exact rfl; exact rfl; exact rfl; exact rfl; exact rfl; assumption; (exact extA); exact rfl; omega; assumption; intro b off h; have hcc := h; first | (obtain ⟨h1, h2, h3, h4, h5, h6, _⟩ := h) | (obtain ⟨h1, h2, h3, _⟩ := h) | (obtain ⟨h1, h2, _⟩ := h) | (obtain ⟨h1, _⟩ := h)) | (apply WL.guardF; exact rfl; exact rfl))
        | (show Z _ _ _ _ _; first | apply Z.then_normal | apply Z.then_ret | apply Z.block_ret)
        | (show W _ _ _ _ _ _; first | apply W.seq | apply W.region | apply W.block | apply W.skip | apply W.ret | (apply W.condT; exact rfl)))
      exact Z.body1 Try.results76 rfl fun m => ⟨by rw [e], Ext.at (by (exact extA)) m⟩
  · obtain rfl : k = r.ins.2.2.length := by omega
    obtain ⟨x, hxx⟩ := getI r.ins.2.2 (show r.ins.2.2.length - 1 < r.ins.2.2.length by omega)
    have hxi := runI_get hxx
    have hxr := hR4.each x (List.mem_of_getElem? hxx)
    obtain ⟨q, hq, hqe⟩ := statesV_i c.t r he (show r.ins.2.2.length - 1 < r.ins.2.2.length by omega)
    have Rq := hRR'.row encB_ok hq
    have hh := fun (w9 : World) (h9 : Ext w5 w9) => step_Bad gm c rn ra q.1 x.1 q.2.1 x.2.1 q.2.2 x.2.2 p w9 (hM4.ext (hX5.trans h9)) (Rq.ext (hX5.trans h9)) (hxr.ext (hX5.trans h9))
    have e : dec (BreaksP c.t r.s r.i p) = dec (BadP c.t q.2.2 x.2.2 p) := dec_congr ⟨fun h => by
      have := h.2.2.2
      rw [hil, getD_of hxi, ← hqe] at this; exact this, fun h => ⟨q1, fun h0 => q2 (by rw [← hil, h0]; rfl), by rw [hil]; exact hgo, by rw [hil, getD_of hxi, ← hqe]; exact h⟩⟩
    have hq' : rs[((r.ins.2.2.length : Int) - 1).toNat]? = some q := by rw [hnn]; exact hq
    have hx' : r.ins.2.2[((r.ins.2.2.length : Int) - 1).toNat]? = some x := by rw [hnn]; exact hxx
    repeat' (first
      | (show WL _ _ _ _ _ _ _; first | apply WL.nil | (refine WL.au (k := ?_)))
      | (show Z _ _ _ _ _; apply Z.then_normal)
      | (show W _ _ _ _ _ _; first | apply W.seq | apply W.region))
    refine W.condKF rfl (dec_false (by omega)) ?_
    repeat' (first
      | (apply QL.callP; exact rfl; exact rfl; exact rfl; exact rfl; exact hh)
      | (show QL _ _ _ _ _ _ _; first | (apply QL.nilX; intro w' hx) | (refine QL.au (k := ?_)) | (apply QL.index tOk; exact rfl; exact rfl; exact rfl; exact rfl; exact rfl; exact rfl; exact rfl; exact rfl; assumption; (exact extA); exact rfl; omega; assumption; intro b off h; have hcc := h; first | (obtain ⟨h1, h2, h3, h4, h5, h6, _⟩ := h) | (obtain ⟨h1, h2, h3, _⟩ := h) | (obtain ⟨h1, h2, _⟩ := h) | (obtain ⟨h1, _⟩ := h)))
      | (show Z _ _ _ _ _; first | apply Z.then_normal | apply Z.then_exit | apply Z.block_exit)
      | (show W _ _ _ _ _ _; first | apply W.seq | apply W.ret | apply W.exit | (apply W.regionX tMix; kernel_rfl)))
    exact Z.body1 Try.results76 rfl fun m => ⟨by rw [e], Ext.at (by (exact extA)) m⟩

/-- It holds as long as the blocks from b on stay as they are in w. -/
def Stay (b : Nat) (w : World) (P : World → Prop) : Prop := ∀ w', w.heap.size ≤ w'.heap.size → (∀ k, b ≤ k → k < w.heap.size → w'.heap[k]? = w.heap[k]?) → P w'
theorem Sep.stay {B b : Nat} {w : World} {ps : List Piece} (hS : Lt.Sep B w ps) (hb : b ≤ B) : Stay b w (fun w' => Lt.Sep B w' ps) := by
  intro w' hsz hk
  refine ⟨fun i p h => ⟨p.keep (hS.holds i p h).1 (fun k hp => hk k (Nat.le_trans hb ((hS.holds i p h).2 k hp).1) ((hS.holds i p h).2 k hp).2), fun k hp => ⟨((hS.holds i p h).2 k hp).1, Nat.lt_of_lt_of_le ((hS.holds i p h).2 k hp).2 hsz⟩⟩, hS.apart⟩
theorem Own.stay {α : Type} {s : Nat} {enc : α → List Value} {el B b cap : Nat} {w w' : World} {a : Option Addr} {l : List α} (h : Own s enc el B w a cap l) (hb : b ≤ B) (hk : ∀ k, b ≤ k → k < w.heap.size → w'.heap[k]? = w.heap[k]?) : Own s enc el B w' a cap l :=
  h.keep fun k hp => hk k (Nat.le_trans hb (h.blk_lt k hp).1) (h.blk_lt k hp).2
set_option maxHeartbeats 2000000 in
theorem step_New (c : Circ) (w : World) (hC : CAt w c) (hz : SzC c.t 100000) (hz7 : c.t.syms.length ≤ 100000) :
    Lt.Spec Try.prog 60 [c.val] w (fun v w' => Ext w w' ∧ ((chkC c.t ≠ 0 ∧ v = .tuple #[.pointer none, .int .i64 (chkC c.t)]) ∨ (chkC c.t = 0 ∧ ∃ gm d rn ra, v = .tuple #[.pointer (some ⟨gm, 0, none⟩), .int .i64 0] ∧ MAt w' gm d rn ra ∧ d.t = c.t ∧ Stay w.heap.size w' (fun w9 => MAt w9 gm d rn ra)))) := by
  by_cases q1 : chkC c.t = 0
  · have hg := chkC_good.1 q1
    have hck := fun (w9 : World) (h9 : Ext w w9) => circ_Check c w9 (hC.ext h9) hz
    rw [q1] at hck
    refine Spec.of _ Try.func60 rfl Try.ntmps60 (by kernel_rfl) rfl ?_
    repeat' (first
      | (apply WL.box; exact rfl; exact rfl; exact rfl; intro gb w' hb hge hc hx; have hcc := hc; (first | (obtain ⟨h1, h2, h3, _⟩ := hc) | (obtain ⟨h1, h2, _⟩ := hc)); (first | (have h_0 := gc; clear h_0) | (obtain ⟨gc, rfl⟩ : ∃ x, x = gb := ⟨_, rfl⟩; obtain ⟨wc, rfl⟩ : ∃ x, x = w' := ⟨_, rfl⟩; obtain ⟨hxc, rfl⟩ : ∃ x, x = hx := ⟨_, rfl⟩; obtain ⟨hbc, rfl⟩ : ∃ x, x = hb := ⟨_, rfl⟩; obtain ⟨hgec, rfl⟩ : ∃ x, x = hge := ⟨_, rfl⟩)))
      | (apply W.condKF; exact rfl; (focus (exact dec_false (fun h => h rfl); done)))
      | (((show WL _ _ _ (⟨_, .call ⟨.value (.func 119), _, _⟩, _, _, _, _⟩ :: _) _ _ _); apply WL.callP; exact rfl; exact rfl; exact rfl; exact rfl; exact hck _ (by (exact extA)); intro w' hx))
      | (((show WL _ _ _ (⟨_, .call ⟨.value (.func 89), _, _⟩, _, _, _, _⟩ :: _) _ _ _); apply WL.call; exact rfl; exact rfl; exact rfl; exact rfl; exact circ_Clone c _ (hC.ext (by (exact extA))) hz hz7; rintro v' w7 ⟨hx7, d, rfl, hdt, hOd⟩))
      | (show WL _ _ _ _ _ _ _; first | apply WL.nil | (refine WL.au (k := ?_)))
      | (show Z _ _ _ _ _; apply Z.then_normal)
      | (show W _ _ _ _ _ _; first | apply W.seq | apply W.region | apply W.skip))
    have hCd0 : SzC d.t 100000 := by rw [hdt]; exact hz
    have hgd : GoodC' d.t := by rw [hdt]; exact hg
    have hwc : w.heap.size ≤ wc.heap.size := Below.size hxc
    have hS0 : Lt.Sep w.heap.size wc [pcell gc c.vals.toArray 28] := Sep.newCell Sep.none' hxc hbc hgec (Nat.le_refl _)
    have hJ : Lt.Sep w.heap.size w7 (d.ps w'.heap.size ++ [pcell gc c.vals.toArray 28]) := Sep.join (hS0.ext hx) hx7 hOd.sep (Nat.le_trans hwc (Below.size hx))
    have hbc7 : w7.heap[gc]? = some (.cells c.vals.toArray 28 (0, 0)) := hJ.cell (i := 7) rfl
    have hX7 : Ext w w7 := (by (exact extA))
    obtain ⟨w3, rfl⟩ : ∃ x, x = w' := ⟨_, rfl⟩; obtain ⟨hx3, rfl⟩ : ∃ x, x = hx := ⟨_, rfl⟩
    repeat' (first
      | (apply WL.storeB (w0 := w) tOk; exact rfl; exact rfl; exact rfl; exact rfl; assumption; (exact extA); exact rfl; exact rfl; exact rfl; (exact extA); (first | assumption | omega | (focus (apply Nat.le_trans; rotate_left; assumption; exact Below.size (by (exact extA)); done))); intro w' hb hc hX' hU; have hcc := hc; obtain ⟨h1, h2, _⟩ := hc; (obtain ⟨w8, rfl⟩ : ∃ x, x = w' := ⟨_, rfl⟩; obtain ⟨hb8, rfl⟩ : ∃ x, x = hb := ⟨_, rfl⟩; obtain ⟨hX8, rfl⟩ : ∃ x, x = hX' := ⟨_, rfl⟩))
      | (show WL _ _ _ _ _ _ _; first | apply WL.nil | (refine WL.au (k := ?_)))
      | (show Z _ _ _ _ _; apply Z.then_normal)
      | (show W _ _ _ _ _ _; first | apply W.seq | apply W.region))
    have hS8 : Lt.Sep w.heap.size w8 (d.ps w3.heap.size ++ [pcell gc d.vals.toArray 28]) := hJ.updCell (i := 7) rfl hU hb8 (Ext.refl _) (Below.size hX7)
    have hX8' : Ext w w8 := hX8
    have hCd : CAt w8 d := OwnC.at2 (hS8.takeN 7) hOd.cap
    have hc8 : Cells w8 gc 0 d.vals := cells_heap hb8
    clear hcc h1 h2 hU hbc7 hbc hJ hS0
    repeat' (first
      | (((show WL _ _ _ (⟨_, .call ⟨.value (.func 87), _, _⟩, _, _, _, _⟩ :: _) _ _ _); apply WL.call; exact rfl; exact rfl; exact rfl; exact rfl; exact circ_Net d _ (hCd.ext (by (exact extA))) hgd hCd0; rintro v' w9 ⟨hx9, am, cm, ab, cb, rfl, hOm, hOb⟩; have hc9 := hc8.ext hx9; have Rm := hOm.row encN_ok; have Rb := hOb.row encI_ok))
      | (apply WL.build tOk; exact rfl; exact rfl; exact rfl; exact rfl; exact rfl; exact rfl; exact rfl; kernel_rfl)
      | (apply WL.box; exact rfl; exact rfl; exact rfl; intro gb w' hb hge hc hx; have hcc := hc; (first | (obtain ⟨h1, h2, h3, _⟩ := hc) | (obtain ⟨h1, h2, _⟩ := hc)); (obtain ⟨gm, rfl⟩ : ∃ x, x = gb := ⟨_, rfl⟩))
      | (show WL _ _ _ _ _ _ _; first | apply WL.nil | (refine WL.au (k := ?_)))
      | (show Z _ _ _ _ _; apply Z.then_normal)
      | (show W _ _ _ _ _ _; first | apply W.seq | apply W.region | apply W.ret))
    have hcm : Cells w' gm 0 (d.vals ++ [.slice am (cNet d.t).1.length cm, .slice ab (cNet d.t).2.length cb]) := hcc
    have hMd : MAt w' gm d (am, cm, (cNet d.t).1) (ab, cb, (cNet d.t).2) := MAt.mk hcm (hCd.ext (by (exact extA))) (Rm.ext (by (exact extA))) (Rb.ext (by (exact extA))) rfl rfl hgd hCd0
    have hX8 : Ext w8 w' := (by (exact extA))
    have hSd : Lt.Sep w.heap.size w' (d.ps w3.heap.size) := (hS8.takeN 7).ext hX8
    have hw8 : w.heap.size ≤ w8.heap.size := Below.size hX8'
    have hOm' : Own 2 encN 104 w.heap.size w' am cm (cNet d.t).1 := (Own.ext hOm (by (exact extA))).base (Nat.le_trans hw8 (Below.size (by (exact extA))))
    have hOb' : Own 1 encI 3 w.heap.size w' ab cb (cNet d.t).2 := (Own.ext hOb (by (exact extA))).base (Nat.le_trans hw8 (Below.size (by (exact extA))))
    have hgm : w.heap.size ≤ gm := Nat.le_trans (Nat.le_trans hw8 (Below.size (by (exact extA)))) hge
    have hgml : gm < w'.heap.size := heap_lt hb
    have hst : Stay w.heap.size w' (fun w9 => MAt w9 gm d (am, cm, (cNet d.t).1) (ab, cb, (cNet d.t).2)) := by
      intro w9 hsz hk
      refine MAt.mk ?_ (OwnC.at2 (Sep.stay hSd (Nat.le_refl _) w9 hsz hk) hOd.cap) ((Own.stay hOm' (Nat.le_refl _) hk).row encN_ok) ((Own.stay hOb' (Nat.le_refl _) hk).row encI_ok) rfl rfl hgd hCd0
      have hb9 := hb
      rw [← hk gm hgm hgml] at hb9
      exact cells_heap hb9
    exact Z.body2 Try.results60 rfl rfl fun m => ⟨Ext.at (by (exact extA)) m, .inr ⟨q1, gm, d, (am, cm, (cNet d.t).1), (ab, cb, (cNet d.t).2), rfl, hMd.ext ((Ext.refl _).at m), hdt, hst⟩⟩
  · have hck := fun (w9 : World) (h9 : Ext w w9) => circ_Check c w9 (hC.ext h9) hz
    refine Spec.of _ Try.func60 rfl Try.ntmps60 (by kernel_rfl) rfl ?_
    repeat' (first
      | (apply WL.box; exact rfl; exact rfl; exact rfl; intro gb w' hb hge hc hx; have hcc := hc; (first | (obtain ⟨h1, h2, h3, _⟩ := hc) | (obtain ⟨h1, h2, _⟩ := hc)))
      | (apply W.condKT; exact rfl; (focus (exact dec_true q1; done)))
      | (((show WL _ _ _ (⟨_, .call ⟨.value (.func 119), _, _⟩, _, _, _, _⟩ :: _) _ _ _); apply WL.callP; exact rfl; exact rfl; exact rfl; exact rfl; exact hck _ (by (exact extA)); intro w' hx))
      | (show WL _ _ _ _ _ _ _; first | apply WL.nil | (refine WL.au (k := ?_)))
      | (show Z _ _ _ _ _; first | apply Z.then_normal | apply Z.then_ret)
      | (show W _ _ _ _ _ _; first | apply W.seq | apply W.region | apply W.ret))
    exact Z.body2 Try.results60 rfl rfl fun m => ⟨Ext.at (by (exact extA)) m, .inl ⟨q1, rfl⟩⟩
end Go.Proofs.Ythpnahapiodflaa
namespace Go.Proofs.Ythpnahapiodflaa
open Go Go.Lt Go.RowKit
set_option linter.unusedVariables false
set_option linter.unusedSimpArgs false
set_option maxRecDepth 20000

theorem step_NewG (c : Circ) (w : World) (hC : CAt w c) (hz : SzC c.t 100000) (hz7 : c.t.syms.length ≤ 100000) (hg : chkC c.t = 0) :
    Lt.Spec Try.prog 60 [c.val] w (fun v w' => Ext w w' ∧ ∃ gm d rn ra, v = .tuple #[.pointer (some ⟨gm, 0, none⟩), .int .i64 0] ∧ MAt w' gm d rn ra ∧ d.t = c.t) :=
  (step_New c w hC hz hz7).mono fun v w' ⟨h1, h2⟩ => ⟨h1, h2.elim (fun h => absurd hg h.1) (fun ⟨_, gm, d, rn, ra, h3, h4, h5, _⟩ => ⟨gm, d, rn, ra, h3, h4, h5⟩)⟩
theorem exT_val (s i : List Bool) : stepV exT s i = [false, s.getD 0 false] := by
  unfold stepV; rw [exT_net]; rfl
theorem exT_lit2 (s i : List Bool) : litV exT s i 2 = s.getD 0 false := by
  unfold litV; rw [exT_val, exT_net]
  show ofL [false, s.getD 0 false] (xorI 2 0) = _
  show (s.getD 0 false != false) = _
  cases s.getD 0 false <;> rfl
theorem exT_lit3 (s i : List Bool) : litV exT s i 3 = !s.getD 0 false := by
  unfold litV; rw [exT_val, exT_net]
  show ofL [false, s.getD 0 false] (xorI 2 1) = _
  show (s.getD 0 false != true) = _
  cases s.getD 0 false <;> rfl
theorem exT_starts : StartsP exT [false] := by
  refine ⟨rfl, fun k x b h1 h2 => ?_⟩
  have hk := lt_of_get h2
  simp at hk
  subst hk
  simp at h1 h2
  subst h1; subst h2
  decide
theorem exT_b1 : BreaksP exT [false] [[], []] 0 := by
  refine ⟨exT_starts, by decide, fun j i hj hi => ⟨?_, fun l hl => by cases hl⟩, by decide, 2, rfl, ?_⟩
  · have hj2 : j = 0 ∨ j = 1 := by simp at hj; omega
    rcases hj2 with rfl | rfl <;> simp at hi <;> subst hi <;> rfl
  · rw [exT_lit2]
    show (nextV exT (brV [false] 1) []).getD 0 false = true
    show litV exT (brV [false] 1) [] 3 = true
    rw [exT_lit3]; rfl
theorem exT_b2 : ¬ BreaksP exT [false] [[]] 0 := by
  intro h
  obtain ⟨_, l, h1, h2⟩ := h.2.2.2
  have h1 : exT.bads[0]? = some l := h1
  simp at h1
  subst h1
  rw [exT_lit2] at h2
  have h3 : (brV [false] 1).getD 0 false = true := h2
  exact absurd h3 (by decide)

set_option maxRecDepth 20000 in
set_option maxHeartbeats 16000000 in
theorem law17_lives (w : World) : Pure Try.prog 59 [] w (.bool true) := by
  refine Spec.of _ Try.func59 rfl Try.ntmps59 (by kernel_rfl) rfl ?_
  repeat' (first
    | ((show WL _ _ _ (⟨_, .build 28 _, _, _, _, _⟩ :: _) _ _ _; apply WL.build (cs := [.int .i64 1, .slice none 0 0, .slice (some ⟨g1, 0, none⟩) 1 1, .slice none 0 0, .slice (some ⟨g2, 0, none⟩) 1 1, .slice none 0 0, .slice none 0 0, .slice none 0 0, .string ⟨#[]⟩]) tOk; exact rfl; exact rfl; exact rfl; exact rfl; exact rfl; exact rfl; (first | kernel_rfl | exact rfl); kernel_rfl))
    | (apply WL.build tOk; exact rfl; exact rfl; exact rfl; exact rfl; exact rfl; exact rfl; exact rfl; kernel_rfl)
    | (apply WL.lit tOk; exact rfl; exact rfl; exact rfl; exact rfl; exact rfl; exact rfl; (first | exact rfl | kernel_rfl | (simp [Instr.fill, catCells]; done)); exact rfl; intro gb w' hb hge hc hx; have hO := Own.of_block ([((2, 3, 0) : T3)]) enc3_ok hb hge rfl; (obtain ⟨g1, rfl⟩ : ∃ x, x = gb := ⟨_, rfl⟩; obtain ⟨w1, rfl⟩ : ∃ x, x = w' := ⟨_, rfl⟩; obtain ⟨hx1, rfl⟩ : ∃ x, x = hx := ⟨_, rfl⟩; obtain ⟨hO1, rfl⟩ : ∃ x, x = hO := ⟨_, rfl⟩))
    | (apply WL.lit tOk; exact rfl; exact rfl; exact rfl; exact rfl; exact rfl; exact rfl; (first | exact rfl | kernel_rfl | (simp [Instr.fill, catCells]; done)); exact rfl; intro gb w' hb hge hc hx; have hO := Own.of_block ([(2 : Int)]) encI_ok hb hge rfl; (obtain ⟨g2, rfl⟩ : ∃ x, x = gb := ⟨_, rfl⟩; obtain ⟨w3, rfl⟩ : ∃ x, x = w' := ⟨_, rfl⟩; obtain ⟨hx2, rfl⟩ : ∃ x, x = hx := ⟨_, rfl⟩; obtain ⟨hO2, rfl⟩ : ∃ x, x = hO := ⟨_, rfl⟩))
    | (show WL _ _ _ _ _ _ _; first | apply WL.nil | (refine WL.au (k := ?_)))
    | (show Z _ _ _ _ _; apply Z.then_normal)
    | (show W _ _ _ _ _ _; first | apply W.seq | apply W.region))
  obtain ⟨c, hc⟩ : ∃ c : Circ, c = ⟨1, (none, 0, []), (some ⟨g1, 0, none⟩, 1, [(2, 3, 0)]), (none, 0, []), (some ⟨g2, 0, none⟩, 1, [2]), (none, 0, []), (none, 0, []), (none, 0, []), ⟨#[]⟩⟩ := ⟨_, rfl⟩
  have hct : c.t = exT := by rw [hc]
  have hX2 : Ext w1 w3 := (by (exact extA))
  have hX : Ext w w3 := (by (exact extA))
  have nilK : ∀ {α : Type} (s : Nat) (enc : α → List Value), RowK s enc w3 ((none, 0, []) : RowV α) := fun s enc => ⟨Row.nil _ _ _ _, Nat.le_refl _, fun _ => rfl⟩
  have hC : CAt w3 c := by
    rw [hc]
    exact ⟨nilK _ _, ⟨(hO1.row enc3_ok).ext hX2, Nat.le_refl _, fun h => by cases h⟩, nilK _ _, ⟨hO2.row encI_ok, Nat.le_refl _, fun h => by cases h⟩, nilK _ _, nilK _ _, nilK _ _⟩
  have hz : SzC c.t 100000 := by rw [hct]; unfold SzC; simp
  have hz7 : c.t.syms.length ≤ 100000 := by rw [hct]; simp
  have hnew := fun (w9 : World) (h9 : Ext w3 w9) => step_NewG c w9 (hC.ext h9) hz hz7 (by rw [hct]; exact chkC_good.2 exT_good)
  have hv : c.val = .agg #[.int .i64 1, .slice none 0 0, .slice (some ⟨g1, 0, none⟩) 1 1, .slice none 0 0, .slice (some ⟨g2, 0, none⟩) 1 1, .slice none 0 0, .slice none 0 0, .slice none 0 0, .string ⟨#[]⟩] := by rw [hc]; rfl
  rw [hv, hct] at hnew
  repeat' (first
    | (apply WL.gT; exact rfl; exact rfl; (focus (with_reducible exact dec_true rfl; done)))
    | (apply WL.neNilS tOk; exact rfl; exact rfl; exact rfl; exact rfl; exact rfl; exact rfl)
    | (((show WL _ _ _ (⟨_, .call ⟨.value (.func 60), _, _⟩, _, _, _, _⟩ :: _) _ _ _); apply WL.call; exact rfl; exact rfl; exact rfl; exact rfl; exact hnew _ (Ext.refl _); rintro v' w4 ⟨hx4, gm, d, rn, ra, rfl, hM, hdt⟩))
    | (apply WL.lit tOk; exact rfl; exact rfl; exact rfl; exact rfl; exact rfl; exact rfl; (first | exact rfl | kernel_rfl | (simp [Instr.fill, catCells]; done)); exact rfl; intro gb w' hb hge hc hx; have hO := Own.of_block ([false]) encB_ok hb hge rfl; (obtain ⟨g19, rfl⟩ : ∃ x, x = gb := ⟨_, rfl⟩; obtain ⟨w19, rfl⟩ : ∃ x, x = w' := ⟨_, rfl⟩; obtain ⟨hx19, rfl⟩ : ∃ x, x = hx := ⟨_, rfl⟩; obtain ⟨hO19, rfl⟩ : ∃ x, x = hO := ⟨_, rfl⟩))
    | (apply WL.lit (len := 0) tOk; exact rfl; exact rfl; exact rfl; exact rfl; exact rfl; exact rfl; (first | exact rfl | kernel_rfl | (simp [Instr.fill, catCells]; done)); exact rfl; intro gb w' hb hge hc hx; have hO0 := Own.of_block0 (enc := encB) (s := 1) hb hge; (first | (have h_0 := g20; clear h_0; obtain ⟨g21, rfl⟩ : ∃ x, x = gb := ⟨_, rfl⟩) | (obtain ⟨g20, rfl⟩ : ∃ x, x = gb := ⟨_, rfl⟩)))
    | (apply WL.lit tOk; exact rfl; exact rfl; exact rfl; exact rfl; exact rfl; exact rfl; (first | exact rfl | kernel_rfl | (simp [Instr.fill, catCells]; done)); exact rfl; intro gb w' hb hge hc hx; have hO := Own.of_block ([((some ⟨g20, 0, none⟩, 0, []) : RowV Bool), (some ⟨g21, 0, none⟩, 0, [])]) encRB_ok hb hge rfl; (obtain ⟨g22, rfl⟩ : ∃ x, x = gb := ⟨_, rfl⟩; obtain ⟨w22, rfl⟩ : ∃ x, x = w' := ⟨_, rfl⟩; obtain ⟨hx22, rfl⟩ : ∃ x, x = hx := ⟨_, rfl⟩; obtain ⟨hO22, rfl⟩ : ∃ x, x = hO := ⟨_, rfl⟩))
    | (show WL _ _ _ _ _ _ _; first | apply WL.nil | (refine WL.au (k := ?_)))
    | (show Z _ _ _ _ _; apply Z.then_normal)
    | (show W _ _ _ _ _ _; first | apply W.seq | apply W.region))
  obtain ⟨r, hr⟩ : ∃ r : RunV, r = ⟨(some ⟨g19, 0, none⟩, 1, [false]), (some ⟨g22, 0, none⟩, 2, [(some ⟨g20, 0, none⟩, 0, []), (some ⟨g21, 0, none⟩, 0, [])])⟩ := ⟨_, rfl⟩
  have hX19 : Ext w19 w22 := (by (exact extA))
  have hX22 : Ext w4 w22 := (by (exact extA))
  have hR : RAt w22 r := by
    rw [hr]
    refine ⟨(hO19.row encB_ok).ext hX19, hO22.row encRB_ok, fun x hx => ?_⟩
    have : x = (some ⟨g20, 0, none⟩, 0, []) ∨ x = (some ⟨g21, 0, none⟩, 0, []) := by simpa using hx
    rcases this with rfl | rfl <;> exact Row.nil _ _ _ _
  have hrn : r.ins.2.2.length ≤ 1048576 := by rw [hr]; simp
  have hb1 := fun (w9 : World) (h9 : Ext w22 w9) => step_Breaks gm d rn ra r 0 w9 (hM.ext (hX22.trans h9)) (hR.ext h9) hrn
  have e1 : dec (BreaksP d.t r.s r.i 0) = true := dec_true (by rw [hdt, hr]; exact exT_b1)
  have hrv : r.val = .agg #[.slice (some ⟨g19, 0, none⟩) 1 1, .slice (some ⟨g22, 0, none⟩) 2 2] := by rw [hr]; rfl
  rw [e1, hrv] at hb1
  repeat' (first
    | ((show WL _ _ _ (⟨_, .build 82 _, _, _, _, _⟩ :: _) _ _ _; apply WL.build (cs := [.slice (some ⟨g19, 0, none⟩) 1 1, .slice (some ⟨g22, 0, none⟩) 2 2]) tOk; exact rfl; exact rfl; exact rfl; exact rfl; exact rfl; exact rfl; (first | kernel_rfl | exact rfl); kernel_rfl))
    | (((show WL _ _ _ (⟨_, .call ⟨.value (.func 76), _, _⟩, _, _, _, _⟩ :: _) _ _ _); apply WL.callP; exact rfl; exact rfl; exact rfl; exact rfl; exact hb1 _ (Ext.refl _); intro w23 hx23))
    | (show WL _ _ _ _ _ _ _; (refine WL.au (k := ?_))))
  clear hb1
  repeat' (first
    | (apply WL.lit tOk; exact rfl; exact rfl; exact rfl; exact rfl; exact rfl; exact rfl; (first | exact rfl | kernel_rfl | (simp [Instr.fill, catCells]; done)); exact rfl; intro gb w' hb hge hc hx; have hO := Own.of_block ([false]) encB_ok hb hge rfl; (obtain ⟨g28, rfl⟩ : ∃ x, x = gb := ⟨_, rfl⟩; obtain ⟨w28, rfl⟩ : ∃ x, x = w' := ⟨_, rfl⟩; obtain ⟨hx28, rfl⟩ : ∃ x, x = hx := ⟨_, rfl⟩; obtain ⟨hO28, rfl⟩ : ∃ x, x = hO := ⟨_, rfl⟩))
    | (apply WL.lit (len := 0) tOk; exact rfl; exact rfl; exact rfl; exact rfl; exact rfl; exact rfl; (first | exact rfl | kernel_rfl | (simp [Instr.fill, catCells]; done)); exact rfl; intro gb w' hb hge hc hx; have hO0 := Own.of_block0 (enc := encB) (s := 1) hb hge; (obtain ⟨g29, rfl⟩ : ∃ x, x = gb := ⟨_, rfl⟩))
    | (apply WL.lit tOk; exact rfl; exact rfl; exact rfl; exact rfl; exact rfl; exact rfl; (first | exact rfl | kernel_rfl | (simp [Instr.fill, catCells]; done)); exact rfl; intro gb w' hb hge hc hx; have hO := Own.of_block ([((some ⟨g29, 0, none⟩, 0, []) : RowV Bool)]) encRB_ok hb hge rfl; (obtain ⟨g30, rfl⟩ : ∃ x, x = gb := ⟨_, rfl⟩; obtain ⟨w30, rfl⟩ : ∃ x, x = w' := ⟨_, rfl⟩; obtain ⟨hx30, rfl⟩ : ∃ x, x = hx := ⟨_, rfl⟩; obtain ⟨hO30, rfl⟩ : ∃ x, x = hO := ⟨_, rfl⟩)))
  obtain ⟨r2, hr2⟩ : ∃ r : RunV, r = ⟨(some ⟨g28, 0, none⟩, 1, [false]), (some ⟨g30, 0, none⟩, 1, [(some ⟨g29, 0, none⟩, 0, [])])⟩ := ⟨_, rfl⟩
  have hX28 : Ext w28 w30 := (by (exact extA))
  have hX30 : Ext w4 w30 := (by (exact extA))
  have hR2 : RAt w30 r2 := by
    rw [hr2]
    refine ⟨(hO28.row encB_ok).ext hX28, hO30.row encRB_ok, fun x hx => ?_⟩
    have : x = (some ⟨g29, 0, none⟩, 0, []) := by simpa using hx
    subst this; exact Row.nil _ _ _ _
  have hrn2 : r2.ins.2.2.length ≤ 1048576 := by rw [hr2]; simp
  have hb2 := fun (w9 : World) (h9 : Ext w30 w9) => step_Breaks gm d rn ra r2 0 w9 (hM.ext (hX30.trans h9)) (hR2.ext h9) hrn2
  have e2 : dec (BreaksP d.t r2.s r2.i 0) = false := dec_false (by rw [hdt, hr2]; exact exT_b2)
  have hrv2 : r2.val = .agg #[.slice (some ⟨g28, 0, none⟩) 1 1, .slice (some ⟨g30, 0, none⟩) 1 1] := by rw [hr2]; rfl
  rw [e2, hrv2] at hb2
  have hXw4 : Ext w w4 := (by (exact extA))
  repeat' (first
    | ((show WL _ _ _ (⟨_, .build 82 _, _, _, _, _⟩ :: _) _ _ _; apply WL.build (cs := [.slice (some ⟨g28, 0, none⟩) 1 1, .slice (some ⟨g30, 0, none⟩) 1 1]) tOk; exact rfl; exact rfl; exact rfl; exact rfl; exact rfl; exact rfl; (first | kernel_rfl | exact rfl); kernel_rfl))
    | (((show WL _ _ _ (⟨_, .call ⟨.value (.func 76), _, _⟩, _, _, _, _⟩ :: _) _ _ _); apply WL.callP; exact rfl; exact rfl; exact rfl; exact rfl; exact hb2 _ (Ext.refl _); intro w31 hx31))
    | (show WL _ _ _ _ _ _ _; first | apply WL.nil | (refine WL.au (k := ?_)))
    | (show Z _ _ _ _ _; apply Z.then_normal)
    | (show W _ _ _ _ _ _; apply W.ret))
  exact Z.body1 Try.results59 rfl fun m => ⟨rfl, (hXw4.trans (hX30.trans hx31)).at m⟩

def ShortP (r : RunV) (m : Int) : Prop := (r.s.length : Int) ≤ 60 ∧ (r.ins.2.2.length : Int) ≤ m ∧ ∀ x ∈ r.ins.2.2, (x.2.2.length : Int) ≤ 60
theorem law17_Short (r : RunV) (m : Int) (w : World) (hR : RAt w r) : Pure Try.prog 73 [r.val, .int .i64 m] w (.bool (dec (ShortP r m))) := by
  have hil := hR.ins.len
  by_cases q1 : (r.st.2.2.length : Int) ≤ 60
  rotate_left
  · have e : dec (ShortP r m) = false := dec_false fun h => q1 h.1
    refine Spec.of _ Try.func73 rfl Try.ntmps73 (by kernel_rfl) rfl ?_
    repeat' (first
      | (apply WL.box; exact rfl; exact rfl; exact rfl; intro gb w' hb hge hc hx; have hcc := hc; (first | (obtain ⟨h1, h2, h3, _⟩ := hc) | (obtain ⟨h1, h2, _⟩ := hc)))
      | (apply WL.gT; exact rfl; exact rfl; (focus (exact dec_true (by omega); done)))
      | (show WL _ _ _ _ _ _ _; first | apply WL.nil | (refine WL.au (k := ?_)) | (apply WL.guardF; exact rfl; exact rfl))
      | (show Z _ _ _ _ _; first | apply Z.then_normal | apply Z.then_ret)
      | (show W _ _ _ _ _ _; first | apply W.seq | apply W.region | apply W.ret | (apply W.condT; exact rfl)))
    exact Z.body1 Try.results73 rfl fun m => ⟨by rw [e], Ext.at (by (exact extA)) m⟩
  by_cases q2 : (r.ins.2.2.length : Int) ≤ m
  rotate_left
  · have e : dec (ShortP r m) = false := dec_false fun h => q2 h.2.1
    refine Spec.of _ Try.func73 rfl Try.ntmps73 (by kernel_rfl) rfl ?_
    repeat' (first
      | (apply WL.box; exact rfl; exact rfl; exact rfl; intro gb w' hb hge hc hx; have hcc := hc; (first | (obtain ⟨h1, h2, h3, _⟩ := hc) | (obtain ⟨h1, h2, _⟩ := hc)))
      | (apply WL.gF; exact rfl; exact rfl; (focus (first | exact dec_true (by omega) | exact dec_false (by omega); done)))
      | (apply W.condKT; exact rfl; (focus (first | exact dec_true (by omega) | exact dec_false (by omega); done)))
      | (show WL _ _ _ _ _ _ _; first | apply WL.nil | (refine WL.au (k := ?_)))
      | (show Z _ _ _ _ _; first | apply Z.then_normal | apply Z.then_ret)
      | (show W _ _ _ _ _ _; first | apply W.seq | apply W.region | apply W.ret))
    exact Z.body1 Try.results73 rfl fun m => ⟨by rw [e], Ext.at (by (exact extA)) m⟩
  refine Spec.of _ Try.func73 rfl Try.ntmps73 (by kernel_rfl) rfl ?_
  repeat' (first
    | (apply WL.box; exact rfl; exact rfl; exact rfl; intro gb w' hb hge hc hx; have hcc := hc; (first | (obtain ⟨h1, h2, h3, _⟩ := hc) | (obtain ⟨h1, h2, _⟩ := hc)); (obtain ⟨gr, rfl⟩ : ∃ x, x = gb := ⟨_, rfl⟩; obtain ⟨wr, rfl⟩ : ∃ x, x = w' := ⟨_, rfl⟩; obtain ⟨hxr, rfl⟩ : ∃ x, x = hx := ⟨_, rfl⟩; have hcr : Cells wr gr 0 [rowVal r.st, rowVal r.ins] := hcc))
    | (apply WL.gF; exact rfl; exact rfl; (focus (exact dec_false (by omega); done)))
    | (apply W.condKF; exact rfl; (focus (exact dec_false (by omega); done)))
    | (show WL _ _ _ _ _ _ _; first | apply WL.nil | (refine WL.au (k := ?_)))
    | (show Z _ _ _ _ _; apply Z.then_normal)
    | (show W _ _ _ _ _ _; first | apply W.seq | apply W.region | apply W.block | apply W.skip))
  refine W.loop1 r.ins.2.2.length (fun k => k ≤ r.ins.2.2.length ∧ ∀ j x, j < k → r.ins.2.2[j]? = some x → (x.2.2.length : Int) ≤ 60) (fun k => [(2, .pointer (some ⟨gr, 0, none⟩)), (5, .int .i64 k)]) ⟨Nat.zero_le _, fun j x h => by omega⟩ (fun k h => h.1) ⟨rfl, rfl, trivial⟩ ?_
  rintro k ⟨hk, hall⟩
  obtain ⟨m1, m2, _⟩ := id hcr
  have hRi := hR.ins.ext hxr
  by_cases hlt : k < r.ins.2.2.length
  · obtain ⟨x, hxx⟩ := getI r.ins.2.2 hlt
    by_cases q3 : (x.2.2.length : Int) ≤ 60
    · repeat' (first
        | (apply W.condKT; exact rfl; (focus (first | exact dec_true (by omega) | exact dec_false (by omega); done)))
        | (apply W.condKF; exact rfl; (focus (first | exact dec_true (by omega) | exact dec_false (by omega); done)))
        | (show WL _ _ _ _ _ _ _; first | apply WL.nil | (refine WL.au (k := ?_)) | (apply WL.index tOk; exact rfl; exact rfl; exact rfl; exact rfl; exact rfl; exact rfl; exact rfl; exact rfl; assumption; (exact extA); exact rfl; omega; assumption; intro b off h; have hcc := h; first | (obtain ⟨h1, h2, h3, h4, h5, h6, _⟩ := h) | (obtain ⟨h1, h2, h3, _⟩ := h) | (obtain ⟨h1, h2, _⟩ := h) | (obtain ⟨h1, _⟩ := h)))
        | (show Z _ _ _ _ _; first | apply Z.then_normal | apply Z.block_normal)
        | (show W _ _ _ _ _ _; first | apply W.seq | apply W.region | apply W.block | apply W.skip))
      refine Z.again1 ⟨by omega, fun j y hj hy => ?_⟩ ⟨rfl, rfl, trivial⟩
      by_cases hjk : j = k
      · subst hjk; rw [hxx] at hy; cases hy; exact q3
      · exact hall j y (by omega) hy
    · have e : dec (ShortP r m) = false := dec_false fun h => q3 (h.2.2 x (List.mem_of_getElem? hxx))
      repeat' (first
        | (apply W.condKT; exact rfl; (focus (first | exact dec_true (by omega) | exact dec_false (by omega); done)))
        | (show WL _ _ _ _ _ _ _; first | apply WL.nil | (refine WL.au (k := ?_)) | (apply WL.index tOk; exact rfl; exact rfl; exact rfl; exact rfl; exact rfl; exact rfl; exact rfl; exact rfl; assumption; (exact extA); exact rfl; omega; assumption; intro b off h; have hcc := h; first | (obtain ⟨h1, h2, h3, h4, h5, h6, _⟩ := h) | (obtain ⟨h1, h2, h3, _⟩ := h) | (obtain ⟨h1, h2, _⟩ := h) | (obtain ⟨h1, _⟩ := h)))
        | (show Z _ _ _ _ _; first | apply Z.then_normal | apply Z.then_ret | apply Z.block_ret)
        | (show W _ _ _ _ _ _; first | apply W.seq | apply W.region | apply W.block | apply W.skip | apply W.ret))
      exact Z.body1 Try.results73 rfl fun m => ⟨by rw [e], Ext.at (by (exact extA)) m⟩
  · obtain rfl : k = r.ins.2.2.length := by omega
    have e : dec (ShortP r m) = true := dec_true ⟨q1, q2, fun x hx => by
      obtain ⟨j, hj⟩ := List.mem_iff_getElem?.1 hx
      exact hall j x (lt_of_get hj) hj⟩
    repeat' (first
      | (apply W.condKF; exact rfl; (focus (exact dec_false (by omega); done)))
      | (show WL _ _ _ _ _ _ _; first | apply WL.nil | (refine WL.au (k := ?_)))
      | (show Z _ _ _ _ _; first | apply Z.then_normal | apply Z.then_exit | apply Z.block_exit)
      | (show W _ _ _ _ _ _; first | apply W.seq | apply W.region | apply W.ret | apply W.exit))
    exact Z.body1 Try.results73 rfl fun m => ⟨by rw [e], Ext.at (by (exact extA)) m⟩
end Go.Proofs.Ythpnahapiodflaa
namespace Go.Proofs.Ythpnahapiodflaa
open Go Go.Lt Go.RowKit
set_option linter.unusedVariables false
set_option linter.unusedSimpArgs false
set_option maxRecDepth 20000

/-- The first m nodes are inputs, and no others are. -/
structure OnlyG (m : Nat) (N : List (Int × Int)) : Prop where
  le : m ≤ N.length
  inp : ∀ i x, N[i]? = some x → i < m → x = (-1, 0)
  gate : ∀ i x, N[i]? = some x → m ≤ i → 0 ≤ x.1
theorem OnlyG.start (m : Nat) : OnlyG m (List.replicate m (-1, 0)) := by
  refine ⟨by simp, fun i x h hm => ?_, fun i x h hm => ?_⟩
  · rw [List.getElem?_replicate, if_pos hm] at h
    exact (Option.some.inj h).symm
  · have := lt_of_get h; simp at this; omega
theorem snoc_get {α : Type} {N : List α} {x y : α} {i : Nat} (h : (N ++ [x])[i]? = some y) : N[i]? = some y ∨ (i = N.length ∧ y = x) := by
  by_cases hi : i < N.length
  · rw [List.getElem?_append_left hi] at h; exact .inl h
  · have := lt_of_get h
    simp only [List.length_append, List.length_cons, List.length_nil] at this
    have : i = N.length := by omega
    subst this
    simp at h; exact .inr ⟨rfl, h.symm⟩
def evenL (a n : Nat) : List Int := (List.range n).map fun i => 2 * (((a + i : Nat) : Int) + 1)
theorem evenL_len (a n : Nat) : (evenL a n).length = n := by simp [evenL]
theorem evenL_get (a n : Nat) {i : Nat} (h : i < n) : (evenL a n)[i]? = some (2 * (((a + i : Nat) : Int) + 1)) := by
  unfold evenL; rw [List.getElem?_map, List.getElem?_range h]; rfl
theorem evenL_succ (a n : Nat) : evenL a (n + 1) = evenL a n ++ [2 * (((a + n : Nat) : Int) + 1)] := by
  unfold evenL; rw [List.range_succ, List.map_append]; rfl
theorem evenL_app (a n m : Nat) : evenL a n ++ evenL (a + n) m = evenL a (n + m) := by
  induction m with
  | zero => simp [evenL]
  | succ m ih => rw [evenL_succ, ← List.append_assoc, ih, show n + (m + 1) = (n + m) + 1 by omega, evenL_succ, Nat.add_assoc]
theorem evenL_mem {a n : Nat} {x : Int} : x ∈ evenL a n ↔ x % 2 = 0 ∧ 2 * ((a : Int) + 1) ≤ x ∧ x ≤ 2 * ((a : Int) + n) := by
  unfold evenL
  rw [List.mem_map]
  constructor
  · rintro ⟨i, hi, rfl⟩
    have := List.mem_range.1 hi
    omega
  · rintro ⟨h1, h2, h3⟩
    exact ⟨(x / 2 - 1 - a).toNat, List.mem_range.2 (by omega), by omega⟩
theorem evenL_nodup (a n : Nat) : (evenL a n).Nodup := by
  unfold evenL
  rw [List.nodup_iff_pairwise_ne, List.pairwise_map]
  refine (List.nodup_iff_pairwise_ne.1 (List.nodup_range (n := n))).imp fun h he => h (by omega)
def gateG (i : Nat) (x : Int × Int) : T3 := (2 * ((i : Int) + 1), max x.1 x.2, min x.1 x.2)
def gatesG (N : List (Int × Int)) (m k : Nat) : List T3 := (List.range k).map fun i => gateG (m + i) (N.getD (m + i) (0, 0))
def latsG (a : Nat) (next reset : List Int) : List T3 := (List.range next.length).map fun i => (2 * (((a + i : Nat) : Int) + 1), next.getD i 0, reset.getD i 0)
theorem gatesG_len (N : List (Int × Int)) (m k : Nat) : (gatesG N m k).length = k := by simp [gatesG]
theorem latsG_len (a : Nat) (next reset : List Int) : (latsG a next reset).length = next.length := by simp [latsG]
theorem gatesG_get {N : List (Int × Int)} {m k i : Nat} {x : Int × Int} (h : i < k) (hx : N[m + i]? = some x) : (gatesG N m k)[i]? = some (gateG (m + i) x) := by
  unfold gatesG; rw [List.getElem?_map, List.getElem?_range h]; show some (gateG _ (N.getD _ _)) = _; rw [getD_of hx]
theorem latsG_get {a : Nat} {next reset : List Int} {i : Nat} (h : i < next.length) : (latsG a next reset)[i]? = some (2 * (((a + i : Nat) : Int) + 1), next.getD i 0, reset.getD i 0) := by
  unfold latsG; rw [List.getElem?_map, List.getElem?_range h]; rfl
theorem latsG_fst (a : Nat) (next reset : List Int) : (latsG a next reset).map (·.1) = evenL a next.length := by
  unfold latsG evenL; rw [List.map_map]; rfl
theorem gatesG_fst (N : List (Int × Int)) (m k : Nat) : (gatesG N m k).map (·.1) = evenL m k := by
  unfold gatesG evenL; rw [List.map_map]; rfl
/-- What else there is beside latches and gates. -/
structure Rest where
  outs : List Int
  bads : List Int
  cons : List Int
  syms : List Sy
  com : ByteArray
def genC (nin : Nat) (next reset : List Int) (bad : Rest) (N : List (Int × Int)) : CirT :=
  ⟨N.length, evenL 0 nin, latsG nin next reset, bad.outs, bad.bads, bad.cons, gatesG N (nin + next.length) (N.length - (nin + next.length)), bad.syms, bad.com⟩
/-- What may be done with. -/
structure GenOk (nin : Nat) (next reset : List Int) (bad : Rest) (N : List (Int × Int)) : Prop where
  good : GoodNet N
  only : OnlyG (nin + next.length) N
  len : N.length ≤ 16777216
  nexts : ∀ z ∈ next, hasL N z
  resets : ∀ i, i < next.length → reset.getD i 0 = 0 ∨ reset.getD i 0 = 1 ∨ reset.getD i 0 = 2 * (((nin + i : Nat) : Int) + 1)
  outs : ∀ z ∈ bad.outs, hasL N z
  bads : ∀ z ∈ bad.bads, hasL N z
  cons : ∀ z ∈ bad.cons, hasL N z
section
variable {nin : Nat} {next reset : List Int} {bad : Rest} {N : List (Int × Int)}
theorem genC_own (h : GenOk nin next reset bad N) : (genC nin next reset bad N).own = evenL 0 N.length := by
  show evenL 0 nin ++ (latsG nin next reset).map (·.1) ++ (gatesG N (nin + next.length) (N.length - (nin + next.length))).map (·.1) = _
  have e1 := evenL_app 0 nin next.length
  rw [Nat.zero_add] at e1
  have e2 := evenL_app 0 (nin + next.length) (N.length - (nin + next.length))
  rw [Nat.zero_add] at e2
  rw [latsG_fst, gatesG_fst, e1, e2]
  have := h.only.le
  rw [show nin + next.length + (N.length - (nin + next.length)) = N.length by omega]
theorem genC_gate (h : GenOk nin next reset bad N) {i : Nat} {g : T3} (hi : (genC nin next reset bad N).gates[i]? = some g) : ∃ x, N[nin + next.length + i]? = some x ∧ (0 ≤ x.1 ∧ 0 ≤ x.2) ∧ x.1 / 2 ≤ ((nin + next.length + i : Nat) : Int) ∧ x.2 / 2 ≤ ((nin + next.length + i : Nat) : Int) ∧ g = (2 * (((nin + next.length + i : Nat) : Int) + 1), max x.1 x.2, min x.1 x.2) := by
  have hl := lt_of_get hi
  have hl' : i < N.length - (nin + next.length) := by have : (genC nin next reset bad N).gates.length = _ := gatesG_len N _ _; omega
  obtain ⟨x, hx⟩ := getI N (show nin + next.length + i < N.length by omega)
  have h0 := h.only.gate _ _ hx (by omega)
  have hgt := h.good.gate hx h0
  have e : (genC nin next reset bad N).gates[i]? = some (gateG (nin + next.length + i) x) := gatesG_get hl' hx
  rw [e] at hi; cases hi
  exact ⟨x, hx, ⟨h0, hgt.2.1⟩, by omega, by omega, rfl⟩
theorem genC_used (h : GenOk nin next reset bad N) {x : Int} (hx : x ∈ (genC nin next reset bad N).used) : hasL N x := by
  rcases List.mem_append.1 hx with hx | hx
  · rcases List.mem_append.1 hx with hx | hx
    · rcases List.mem_append.1 hx with hx | hx
      · rcases List.mem_append.1 hx with hx | hx
        · exact h.outs x hx
        · exact h.bads x hx
      · exact h.cons x hx
    · obtain ⟨y, hy, rfl⟩ := List.mem_map.1 hx
      obtain ⟨i, hi⟩ := List.mem_iff_getElem?.1 hy
      have hl := lt_of_get hi
      have hl' : i < next.length := by have : (genC nin next reset bad N).lat.length = _ := latsG_len nin next reset; omega
      have e : (genC nin next reset bad N).lat[i]? = _ := latsG_get (a := nin) (reset := reset) hl'
      rw [e] at hi; cases hi
      obtain ⟨z, hz⟩ := getI next hl'
      show hasL N (next.getD i 0)
      rw [getD_of hz]; exact h.nexts z (List.mem_of_getElem? hz)
  · obtain ⟨g, hg, hm⟩ := List.mem_flatMap.1 hx
    obtain ⟨i, hi⟩ := List.mem_iff_getElem?.1 hg
    obtain ⟨y, hy, y1, y2, y3, rfl⟩ := genC_gate h hi
    have hlt := lt_of_get hy
    simp only [List.mem_cons, List.not_mem_nil, or_false] at hm
    unfold hasL
    rcases hm with rfl | rfl <;> omega
theorem genC_ordIs (h : GenOk nin next reset bad N) : IsOrd (genC nin next reset bad N).gates (List.range (genC nin next reset bad N).gates.length) := by
  have hfst : ∀ (j : Nat) (x : G3), (genC nin next reset bad N).gates[j]? = some x → x.1 / 2 = ((nin + next.length + j : Nat) : Int) + 1 := fun j x hj => by
    obtain ⟨y, _, _, _, _, rfl⟩ := genC_gate h hj
    show (2 * (((nin + next.length + j : Nat) : Int) + 1)) / 2 = _
    omega
  refine ⟨fun k i hk => ?_, fun i hi => ?_⟩
  · have hkl := lt_of_get hk
    rw [List.length_range] at hkl
    rw [List.getElem?_range hkl] at hk
    cases hk
    have ht : (List.range (genC nin next reset bad N).gates.length).take k = List.range k := by rw [List.take_range, Nat.min_eq_left (by omega)]
    rw [ht]
    refine ⟨?_, fun j hj => ?_⟩
    · obtain ⟨g, hg⟩ := getI (genC nin next reset bad N).gates hkl
      refine ⟨g, hg, by simp, fun j x hj hn => ?_⟩
      obtain ⟨y, hy, y1, y2, y3, rfl⟩ := genC_gate h hg
      have h1 := hfst j x hj
      have h2 : ¬ j < k := fun hh => hn (List.mem_range.2 hh)
      dsimp only
      omega
    · obtain ⟨_, _, hn, _⟩ := hj
      exact Nat.le_of_not_lt fun hh => hn (List.mem_range.2 hh)
  · obtain ⟨g, hg, hn, _⟩ := hi
    exact hn (List.mem_range.2 (lt_of_get hg))
theorem genC_ord (h : GenOk nin next reset bad N) : ordL (genC nin next reset bad N).gates = List.range (genC nin next reset bad N).gates.length := (genC_ordIs h).ord.symm
theorem genC_good (h : GenOk nin next reset bad N) : GoodC' (genC nin next reset bad N) := by
  have hl := h.len
  refine ⟨?_, fun x hx => ?_, fun x hx => ?_, fun x hx => ?_, ?_, fun x hx h1 => ?_, ?_⟩
  · show 0 ≤ (N.length : Int) ∧ (N.length : Int) ≤ 16777216; omega
  · rw [genC_own h, evenL_mem] at hx
    show 2 ≤ x ∧ x % 2 = 0 ∧ x ≤ 2 * (N.length : Int)
    omega
  · have := genC_used h hx
    show 0 ≤ x ∧ x ≤ 2 * (N.length : Int) + 1
    unfold hasL at this; omega
  · obtain ⟨i, hi⟩ := List.mem_iff_getElem?.1 hx
    have hl := lt_of_get hi
    have hl' : i < next.length := by have : (genC nin next reset bad N).lat.length = _ := latsG_len nin next reset; omega
    have e : (genC nin next reset bad N).lat[i]? = _ := latsG_get (a := nin) (reset := reset) hl'
    rw [e] at hi; cases hi
    exact h.resets i hl'
  · rw [genC_own h]; exact evenL_nodup _ _
  · have := genC_used h hx
    rw [genC_own h, evenL_mem]
    unfold hasL at this; omega
  · rw [genC_ord h, List.length_range]
/-- A gate's two, the greater one first. -/
def sw (x : Int × Int) : Int × Int := if 0 ≤ x.1 then (max x.1 x.2, min x.1 x.2) else x
theorem cIn_fst (ls : List Int) : ∀ s : NA, (cIn s ls).1 = s.1 ++ List.replicate ls.length (-1, 0) := by
  induction ls with
  | nil => intro s; simp [cIn]
  | cons l ls ih =>
    intro s
    show (cIn (cput s l (-1, 0)) ls).1 = _
    rw [ih]; show (s.1 ++ [(-1, 0)]) ++ _ = _
    simp [List.replicate_succ]
theorem genC_seq (h : GenOk nin next reset bad N) {k : Nat} (hk : k ≤ (genC nin next reset bad N).gates.length) : (genC nin next reset bad N).inl ++ ((ordL (genC nin next reset bad N).gates).take k).map (fun i => (gAt (genC nin next reset bad N).gates i).1) = evenL 0 (nin + next.length + k) := by
  have e0 : (genC nin next reset bad N).inl = evenL 0 (nin + next.length) := by
    show evenL 0 nin ++ (latsG nin next reset).map (·.1) = _
    have e1 := evenL_app 0 nin next.length
    rw [Nat.zero_add] at e1
    rw [latsG_fst, e1]
  have e1 := evenL_app 0 (nin + next.length) k
  rw [Nat.zero_add] at e1
  rw [e0, ← e1, genC_ord h, List.take_range, Nat.min_eq_left hk]
  congr 1
  unfold evenL
  refine List.map_congr_left fun i hi => ?_
  obtain ⟨g, hg⟩ := getI (genC nin next reset bad N).gates (show i < _ by have := List.mem_range.1 hi; omega)
  obtain ⟨y, _, _, _, _, rfl⟩ := genC_gate h hg
  rw [gAt_of hg]
theorem genC_at (h : GenOk nin next reset bad N) {k : Nat} (hk : k ≤ (genC nin next reset bad N).gates.length) {l : Int} (hl : 0 ≤ l ∧ l / 2 ≤ ((nin + next.length + k : Nat) : Int)) : litI (cGates (genC nin next reset bad N).gates (cIn ([], cAt0 (genC nin next reset bad N).max) (genC nin next reset bad N).inl) ((ordL (genC nin next reset bad N).gates).take k)).2 l = l := by
  have hp := (net_to (genC_good h) k (by rw [genC_ord h, List.length_range]; exact hk)).1
  rw [genC_seq h hk] at hp
  have hz : (cGates (genC nin next reset bad N).gates (cIn ([], cAt0 (genC nin next reset bad N).max) (genC nin next reset bad N).inl) ((ordL (genC nin next reset bad N).gates).take k)).2[(l / 2).toNat]? = some (2 * (l / 2)) := by
    by_cases h0 : l / 2 = 0
    · rw [h0]; exact hp.zero
    · have := hp.has ((l / 2).toNat - 1) _ (evenL_get 0 _ (show (l / 2).toNat - 1 < nin + next.length + k by omega))
      rw [show ((2 * (((0 + ((l / 2).toNat - 1) : Nat) : Int) + 1)) / 2).toNat = (l / 2).toNat by omega] at this
      rw [this]; congr 1; omega
  rw [litI_some hz]
  unfold xorI Lt.xor1
  split
  · rw [if_pos (by omega)]; omega
  · omega
theorem genC_to (h : GenOk nin next reset bad N) : ∀ k, k ≤ (genC nin next reset bad N).gates.length →
    (cGates (genC nin next reset bad N).gates (cIn ([], cAt0 (genC nin next reset bad N).max) (genC nin next reset bad N).inl) ((ordL (genC nin next reset bad N).gates).take k)).1 = (N.take (nin + next.length + k)).map sw
  | 0, _ => by
    have e0 : (genC nin next reset bad N).inl.length = nin + next.length := by
      show (evenL 0 nin ++ (latsG nin next reset).map (·.1)).length = _
      rw [List.length_append, evenL_len, List.length_map, latsG_len]
    show (cIn ([], cAt0 (genC nin next reset bad N).max) (genC nin next reset bad N).inl).1 = _
    rw [cIn_fst, e0, List.nil_append]
    apply List.ext_getElem?
    intro i
    have hle := h.only.le
    by_cases hi : i < nin + next.length
    · obtain ⟨x, hx⟩ := getI N (show i < N.length by omega)
      have hx0 := h.only.inp i x hx hi
      rw [List.getElem?_replicate, if_pos hi, List.getElem?_map, List.getElem?_take, if_pos (by omega), hx, hx0]; rfl
    · rw [List.getElem?_replicate, if_neg hi, List.getElem?_map, List.getElem?_take, if_neg (by omega)]; rfl
  | k + 1, hk => by
    have ih := genC_to h k (by omega)
    have ho : (ordL (genC nin next reset bad N).gates)[k]? = some k := by rw [genC_ord h, List.getElem?_range (by omega)]
    obtain ⟨g, hg⟩ := getI (genC nin next reset bad N).gates (show k < _ by omega)
    obtain ⟨y, hy, y1, y2, y3, hge⟩ := genC_gate h hg
    rw [take_succ' ho, cGates_snoc]
    unfold cGate cput
    rw [gAt_of hg, hge]
    show _ ++ [(litI _ (max y.1 y.2), litI _ (min y.1 y.2))] = _
    rw [genC_at h (by omega) (by omega), genC_at h (by omega) (by omega), ih, show nin + next.length + (k + 1) = (nin + next.length + k) + 1 by omega, take_succ' hy, List.map_append]
    congr 1
    show _ = [sw y]
    unfold sw; rw [if_pos (by omega)]
theorem genC_net (h : GenOk nin next reset bad N) : (cNet (genC nin next reset bad N)).1 = N.map sw ∧ ∀ l, hasL N l → litI (cNet (genC nin next reset bad N)).2 l = l := by
  have hlen : (genC nin next reset bad N).gates.length = N.length - (nin + next.length) := gatesG_len N _ _
  have hle := h.only.le
  have e : cNet (genC nin next reset bad N) = cGates (genC nin next reset bad N).gates (cIn ([], cAt0 (genC nin next reset bad N).max) (genC nin next reset bad N).inl) ((ordL (genC nin next reset bad N).gates).take (genC nin next reset bad N).gates.length) := by
    rw [List.take_of_length_le (by rw [genC_ord h, List.length_range]; exact Nat.le_refl _)]; rfl
  rw [e]
  refine ⟨?_, fun l hl => ?_⟩
  · rw [genC_to h _ (Nat.le_refl _), List.take_of_length_le (by omega)]
  · refine genC_at h (Nat.le_refl _) ?_
    unfold hasL at hl; omega
end
theorem vto_sw {N : List (Int × Int)} (hg : GoodNet N) (ins : List Bool) : ∀ k, k ≤ N.length → vto (N.map sw) ins k = vto N ins k
  | 0, _ => rfl
  | k + 1, h => by
    obtain ⟨x, hx⟩ := getI N (show k < N.length by omega)
    have hx' : (N.map sw)[k]? = some (sw x) := by rw [List.getElem?_map, hx]; rfl
    rw [vto_succ ins hx, vto_succ ins hx', vto_sw hg ins k (by omega)]
    unfold vstep sw
    by_cases h0 : 0 ≤ x.1
    · have h1 := (hg.gate hx h0).2.1
      rw [if_pos h0]
      rw [if_neg (show ¬ x.1 < 0 by omega), if_neg (show ¬ max x.1 x.2 < 0 by omega)]
      by_cases h2 : x.1 ≤ x.2
      · rw [show max x.1 x.2 = x.2 by omega, show min x.1 x.2 = x.1 by omega]
        simp only [Bool.and_comm]
      · rw [show max x.1 x.2 = x.1 by omega, show min x.1 x.2 = x.2 by omega]
    · rw [if_neg h0]
theorem values_sw {N : List (Int × Int)} (hg : GoodNet N) (ins : List Bool) : values (N.map sw) ins = values N ins := by
  unfold values; rw [List.length_map, vto_sw hg ins _ (Nat.le_refl _)]
theorem genC_step {nin : Nat} {next reset : List Int} {bad : Rest} {N : List (Int × Int)} (h : GenOk nin next reset bad N) (s i : List Bool) : stepV (genC nin next reset bad N) s i = values N (brV i nin ++ brV s next.length) := by
  unfold stepV insV
  rw [(genC_net h).1, values_sw h.good]
  show values N (brV i (evenL 0 nin).length ++ brV s (latsG nin next reset).length) = _
  rw [evenL_len, latsG_len]
theorem genC_lit {nin : Nat} {next reset : List Int} {bad : Rest} {N : List (Int × Int)} (h : GenOk nin next reset bad N) (s i : List Bool) {l : Int} (hl : hasL N l) : litV (genC nin next reset bad N) s i l = ofL (values N (brV i nin ++ brV s next.length)) l := by
  unfold litV
  rw [genC_step h, (genC_net h).2 l hl]
end Go.Proofs.Ythpnahapiodflaa
namespace Go.Proofs.Ythpnahapiodflaa
open Go Go.Lt Go.RowKit
set_option linter.unusedVariables false
set_option linter.unusedSimpArgs false
set_option maxRecDepth 20000

noncomputable def nextN (c : CirT) : List Int := c.lat.map fun x => litI (cNet c).2 x.2.1
noncomputable def resN (c : CirT) : List Int := c.lat.map fun x => if x.2.2 = x.1 then litI (cNet c).2 x.1 else x.2.2
noncomputable def restN (c : CirT) : Rest := ⟨c.outs.map (litI (cNet c).2), c.bads.map (litI (cNet c).2), c.cons.map (litI (cNet c).2), c.syms, c.com⟩
/-- The circuit in other numbers. -/
noncomputable def numC (c : CirT) : CirT := genC c.ins.length (nextN c) (resN c) (restN c) (cNet c).1
theorem nextN_len (c : CirT) : (nextN c).length = c.lat.length := List.length_map _
theorem net_only {c : CirT} (h : GoodC' c) : ∀ k, k ≤ (ordL c.gates).length → OnlyG c.inl.length (cGates c.gates (cIn ([], cAt0 c.max) c.inl) ((ordL c.gates).take k)).1
  | 0, _ => by
    show OnlyG c.inl.length (cIn ([], cAt0 c.max) c.inl).1
    rw [cIn_fst, List.nil_append]; exact OnlyG.start _
  | k + 1, hk => by
    obtain ⟨i, hi⟩ := getI (ordL c.gates) (show k < _ by omega)
    have ih := net_only h k (by omega)
    obtain ⟨h1, h2⟩ := net_to h k (by omega)
    have hO := (ordL_is c.gates).1
    obtain ⟨g, hg, hn, hr⟩ := (hO k i hi).1
    have hm' := List.mem_of_getElem? hg
    have ua : g.2.1 ∈ c.used := List.mem_append_right _ (List.mem_flatMap.2 ⟨g, hm', by simp⟩)
    obtain ⟨za, a1, a2, a3, a4⟩ := h1.ge (used_put h ua fun j x hx hj => (hr j x hx hj).1)
    rw [take_succ' hi, cGates_snoc]
    unfold cGate
    rw [gAt_of hg]
    refine ⟨?_, fun j x hx hj => ?_, fun j x hx hj => ?_⟩
    · refine Nat.le_trans ih.le ?_
      show _ ≤ (_ ++ [_]).length
      rw [List.length_append]; exact Nat.le_add_right _ _
    · rcases snoc_get hx with hx | ⟨rfl, rfl⟩
      · exact ih.inp j x hx hj
      · have := ih.le; omega
    · rcases snoc_get hx with hx | ⟨rfl, rfl⟩
      · exact ih.gate j x hx hj
      · show 0 ≤ litI _ g.2.1
        rw [litI_some a1]
        unfold xorI Lt.xor1
        split <;> (try split) <;> omega
theorem net_only_all {c : CirT} (h : GoodC' c) : OnlyG (c.ins.length + c.lat.length) (cNet c).1 := by
  have := net_only h _ (Nat.le_refl _)
  rw [List.take_length] at this
  have e : c.inl.length = c.ins.length + c.lat.length := by show (c.ins ++ c.lat.map (·.1)).length = _; rw [List.length_append, List.length_map]
  rw [e] at this
  exact this
theorem net_hasL {c : CirT} (h : GoodC' c) {l : Int} (hl : l ∈ c.used) : hasL (cNet c).1 (litI (cNet c).2 l) := by
  have := litI_range h hl
  unfold hasL; omega
theorem net_own {c : CirT} (h : GoodC' c) {k : Nat} {l : Int} (hk : c.seq[k]? = some l) : litI (cNet c).2 l = 2 * ((k : Int) + 1) := by
  have h1 := (cNet_ok h).1.has k l hk
  have hm : l ∈ c.own := by
    rcases List.mem_append.1 (List.mem_of_getElem? hk) with hm | hm
    · exact List.mem_append_left _ hm
    · obtain ⟨j, hj, rfl⟩ := List.mem_map.1 hm
      obtain ⟨x, hx⟩ := getI c.gates ((ordL_is c.gates).1.lt j hj)
      exact List.mem_append_right _ (List.mem_map.2 ⟨x, List.mem_of_getElem? hx, by rw [gAt_of hx]⟩)
  rw [litI_some h1, (h.own l hm).2.1]
  unfold xorI; rw [if_neg (by decide)]
theorem seq_in {c : CirT} {i : Nat} {l : Int} (h : c.ins[i]? = some l) : c.seq[i]? = some l := by
  rw [List.getElem?_append_left (by have := lt_of_get h; rw [List.length_append]; omega), List.getElem?_append_left (lt_of_get h)]; exact h
theorem seq_lat {c : CirT} {i : Nat} {x : T3} (h : c.lat[i]? = some x) : c.seq[c.ins.length + i]? = some x.1 := by
  have hl := lt_of_get h
  rw [List.getElem?_append_left (by rw [List.length_append, List.length_map]; omega), List.getElem?_append_right (by omega), List.getElem?_map, show c.ins.length + i - c.ins.length = i by omega, h]; rfl
theorem num_ok {c : CirT} (h : GoodC' c) (hz : SzC c 100000) : GenOk c.ins.length (nextN c) (resN c) (restN c) (cNet c).1 := by
  refine ⟨(cNet_ok h).2, by rw [nextN_len]; exact net_only_all h, Nat.le_trans (net_len h hz) (by decide), fun z hz => ?_, fun i hi => ?_, fun z hz => ?_, fun z hz => ?_, fun z hz => ?_⟩
  · obtain ⟨x, hx, rfl⟩ := List.mem_map.1 hz
    exact net_hasL h (used_next hx)
  · rw [nextN_len] at hi
    obtain ⟨x, hx⟩ := getI c.lat hi
    have e : (resN c)[i]? = some (if x.2.2 = x.1 then litI (cNet c).2 x.1 else x.2.2) := by unfold resN; rw [List.getElem?_map, hx]; rfl
    rw [getD_of e]
    have hr := h.res x (List.mem_of_getElem? hx)
    by_cases h1 : x.2.2 = x.1
    · rw [if_pos h1, net_own h (seq_lat hx)]; exact .inr (.inr rfl)
    · rw [if_neg h1]
      rcases hr with hr | hr | hr
      · exact .inl hr
      · exact .inr (.inl hr)
      · exact absurd hr h1
  · obtain ⟨x, hx, rfl⟩ := List.mem_map.1 hz
    exact net_hasL h (List.mem_append_left _ (List.mem_append_left _ (List.mem_append_left _ (List.mem_append_left _ hx))))
  · obtain ⟨x, hx, rfl⟩ := List.mem_map.1 hz
    exact net_hasL h (used_bad hx)
  · obtain ⟨x, hx, rfl⟩ := List.mem_map.1 hz
    exact net_hasL h (used_con hx)
section
variable {c : CirT}
theorem num_good (h : GoodC' c) (hz : SzC c 100000) : GoodC' (numC c) := genC_good (num_ok h hz)
theorem num_lit (h : GoodC' c) (hz : SzC c 100000) (s i : List Bool) {l : Int} (hl : l ∈ c.used) : litV (numC c) s i (litI (cNet c).2 l) = litV c s i l := by
  unfold numC
  rw [genC_lit (num_ok h hz) s i (net_hasL h hl), nextN_len]; rfl
theorem num_lat {k : Nat} {x : T3} (hx : c.lat[k]? = some x) : (numC c).lat[k]? = some (2 * (((c.ins.length + k : Nat) : Int) + 1), litI (cNet c).2 x.2.1, if x.2.2 = x.1 then litI (cNet c).2 x.1 else x.2.2) := by
  have hk := lt_of_get hx
  show (latsG c.ins.length (nextN c) (resN c))[k]? = _
  rw [latsG_get (by rw [nextN_len]; exact hk)]
  have e1 : (nextN c)[k]? = some (litI (cNet c).2 x.2.1) := by unfold nextN; rw [List.getElem?_map, hx]; rfl
  have e2 : (resN c)[k]? = some (if x.2.2 = x.1 then litI (cNet c).2 x.1 else x.2.2) := by unfold resN; rw [List.getElem?_map, hx]; rfl
  rw [getD_of e1, getD_of e2]
theorem num_latlen : (numC c).lat.length = c.lat.length := by
  show (latsG c.ins.length (nextN c) (resN c)).length = _
  rw [latsG_len, nextN_len]
theorem num_inslen : (numC c).ins.length = c.ins.length := evenL_len _ _
theorem num_next (h : GoodC' c) (hz : SzC c 100000) (s i : List Bool) : nextV (numC c) s i = nextV c s i := by
  apply List.ext_getElem?
  intro k
  unfold nextV
  by_cases hk : k < c.lat.length
  · obtain ⟨x, hx⟩ := getI c.lat hk
    rw [List.getElem?_map, List.getElem?_map, hx, num_lat hx]
    show some (litV (numC c) s i (litI (cNet c).2 x.2.1)) = some (litV c s i x.2.1)
    rw [num_lit h hz s i (used_next (List.mem_of_getElem? hx))]
  · rw [List.getElem?_eq_none (by rw [List.length_map, num_latlen]; omega), List.getElem?_eq_none (by rw [List.length_map]; omega)]
theorem num_starts (h : GoodC' c) (s : List Bool) : StartsP (numC c) s ↔ StartsP c s := by
  have key : ∀ (k : Nat) x, c.lat[k]? = some x → ((if x.2.2 = x.1 then litI (cNet c).2 x.1 else x.2.2) = 0 ↔ x.2.2 = 0) ∧ ((if x.2.2 = x.1 then litI (cNet c).2 x.1 else x.2.2) = 1 ↔ x.2.2 = 1) := by
    intro k x hx
    have ho := h.own x.1 (List.mem_append_left _ (List.mem_append_right _ (List.mem_map.2 ⟨x, List.mem_of_getElem? hx, rfl⟩)))
    by_cases h1 : x.2.2 = x.1
    · rw [if_pos h1, net_own h (seq_lat hx)]; omega
    · rw [if_neg h1]; exact ⟨Iff.rfl, Iff.rfl⟩
  unfold StartsP
  rw [num_latlen]
  constructor
  · rintro ⟨h1, h2⟩
    refine ⟨h1, fun k x b hx hb => ?_⟩
    have := h2 k _ b (num_lat hx) hb
    dsimp only at this
    rw [(key k x hx).1, (key k x hx).2] at this
    exact this
  · rintro ⟨h1, h2⟩
    refine ⟨h1, fun k y b hy hb => ?_⟩
    obtain ⟨x, hx⟩ := getI c.lat (show k < c.lat.length by have := lt_of_get hy; rw [num_latlen] at this; exact this)
    rw [num_lat hx] at hy
    cases hy
    dsimp only
    rw [(key k x hx).1, (key k x hx).2]
    exact h2 k x b hx hb
theorem num_holds (h : GoodC' c) (hz : SzC c 100000) (s i : List Bool) : HoldsP (numC c) s i ↔ HoldsP c s i := by
  unfold HoldsP
  constructor
  · intro hh l hl
    rw [← num_lit h hz s i (used_con hl)]
    exact hh _ (List.mem_map.2 ⟨l, hl, rfl⟩)
  · intro hh l hl
    obtain ⟨x, hx, rfl⟩ := List.mem_map.1 (show l ∈ c.cons.map (litI (cNet c).2) from hl)
    rw [num_lit h hz s i (used_con hx)]
    exact hh x hx
theorem num_bad (h : GoodC' c) (hz : SzC c 100000) (s i : List Bool) (p : Int) : BadP (numC c) s i p ↔ BadP c s i p := by
  unfold BadP
  have e : (numC c).bads = c.bads.map (litI (cNet c).2) := rfl
  rw [e]
  constructor
  · rintro ⟨h0, l, hl, hv⟩
    rw [List.getElem?_map] at hl
    obtain ⟨x, hx, rfl⟩ := Option.map_eq_some_iff.1 hl
    exact ⟨h0, x, hx, by rw [← num_lit h hz s i (used_bad (List.mem_of_getElem? hx))]; exact hv⟩
  · rintro ⟨h0, x, hx, hv⟩
    exact ⟨h0, litI (cNet c).2 x, by rw [List.getElem?_map, hx]; rfl, by rw [num_lit h hz s i (used_bad (List.mem_of_getElem? hx))]; exact hv⟩
theorem num_state (h : GoodC' c) (hz : SzC c 100000) (s : List Bool) (r : List (List Bool)) : ∀ k, stateV (numC c) s r k = stateV c s r k
  | 0 => by show brV s (numC c).lat.length = _; rw [num_latlen]; rfl
  | k + 1 => by show nextV (numC c) _ _ = nextV c _ _; rw [num_state h hz s r k, num_next h hz]
theorem num_breaks (h : GoodC' c) (hz : SzC c 100000) (s : List Bool) (r : List (List Bool)) (p : Int) : BreaksP (numC c) s r p ↔ BreaksP c s r p := by
  unfold BreaksP GoesP
  rw [num_starts h, num_state h hz, num_bad h hz, num_inslen]
  refine and_congr_right fun _ => and_congr_right fun _ => and_congr_left fun _ => ?_
  constructor
  · intro hh j i hj hi
    have := hh j i hj hi
    rw [num_state h hz, num_holds h hz] at this
    exact this
  · intro hh j i hj hi
    rw [num_state h hz, num_holds h hz]
    exact hh j i hj hi
end
end Go.Proofs.Ythpnahapiodflaa
namespace Go.Proofs.Ythpnahapiodflaa
open Go Go.Lt Go.RowKit
set_option linter.unusedVariables false
set_option linter.unusedSimpArgs false
set_option maxRecDepth 20000

/-- A literal has a new one. -/
def LitOk (A : List Int) (l : Int) : Prop := 0 ≤ l ∧ l ≤ 4294967296 ∧ ∃ z, A[(l / 2).toNat]? = some z ∧ 0 ≤ z ∧ z % 2 = 0 ∧ z ≤ 4294967296
theorem lit_add {A : List Int} {l z : Int} (h : A[(l / 2).toNat]? = some z) (h0 : 0 ≤ l) (h2 : z % 2 = 0) : litI A l = z + l % 2 := by
  rw [litI_some h]
  unfold xorI Lt.xor1
  by_cases h3 : l % 2 = 1
  · rw [if_pos h3, if_pos h2]; omega
  · rw [if_neg h3]; omega
theorem net_litOk {c : CirT} (h : GoodC' c) (hz : SzC c 100000) {l : Int} (hl : l ∈ c.used ∨ l ∈ c.own) : LitOk (cNet c).2 l := by
  have hm := h.max
  have hn := net_len h hz
  rcases hl with hl | hl
  · have hu := h.used l hl
    obtain ⟨z, h1, h2, h3, h4⟩ := net_lit h hl
    exact ⟨hu.1, by omega, z, h1, h2, h3, by omega⟩
  · have ho := h.own l hl
    obtain ⟨k, hk⟩ := List.mem_iff_getElem?.1 (seq_all h hl)
    have h1 := (cNet_ok h).1.has k l hk
    have h2 := lt_of_get hk
    have h3 := (cNet_ok h).1.len1
    exact ⟨by omega, by omega, _, h1, by omega, by omega, by omega⟩
theorem ref16_of (a : Option Addr) (cap : Nat) (A : List Int) (l : Int) (w : World) (R : Row 1 encI w a A) (h : LitOk A l) :
    Still Try.prog 92 [.slice a A.length cap, .int .i64 l] w (.int .i64 (litI A l)) := by
  obtain ⟨h0, h1, z, hz, z0, z2, z3⟩ := h
  have hlt := lt_of_get hz
  have hl := R.len
  have e := lit_add hz h0 z2
  refine Spec.of _ Try.func92 rfl Try.ntmps92 (by kernel_rfl) rfl ?_
  repeat' (first
    | (show WL _ _ _ _ _ _ _; first | apply WL.nil | (refine WL.au (k := ?_)) | (apply WL.index tOk; exact rfl; exact rfl; exact rfl; exact rfl; exact rfl; exact rfl; exact rfl; exact rfl; assumption; (exact extA); exact rfl; omega; assumption; intro b off h; have hcc := h; first | (obtain ⟨h1, h2, h3, h4, h5, h6, _⟩ := h) | (obtain ⟨h1, h2, h3, _⟩ := h) | (obtain ⟨h1, h2, _⟩ := h) | (obtain ⟨h1, _⟩ := h)))
    | (show Z _ _ _ _ _; apply Z.then_normal)
    | (show W _ _ _ _ _ _; first | apply W.seq | apply W.region | apply W.ret))
  exact Z.body1 Try.results92 rfl fun m => ⟨by rw [e], m, rfl⟩
theorem ref16_all (a b : Option Addr) (cap cb : Nat) (A L : List Int) (w : World) (R : Row 1 encI w a A) (RL : Row 1 encI w b L) (h : ∀ l ∈ L, LitOk A l) (hn : L.length ≤ 100000) :
    Lt.Spec Try.prog 91 [.slice a A.length cap, .slice b L.length cb] w (IsFresh 1 encI 3 w (L.map (litI A))) := by
  refine Spec.of _ Try.func91 rfl Try.ntmps91 (by kernel_rfl) rfl ?_
  repeat' (first
    | (apply WL.lit (len := 0) tOk; exact rfl; exact rfl; exact rfl; exact rfl; exact rfl; exact rfl; (first | exact rfl | kernel_rfl | (simp [Instr.fill, catCells]; done)); exact rfl; intro gb w' hb hge hc hx; have hO0 := Own.of_block0 (enc := encI) (s := 1) hb hge)
    | (show WL _ _ _ _ _ _ _; first | apply WL.nil | (refine WL.au (k := ?_)))
    | (show Z _ _ _ _ _; apply Z.then_normal)
    | (show W _ _ _ _ _ _; first | apply W.seq | apply W.region | apply W.block))
  refine W.loopO L.length (fun k d dp w' => k ≤ L.length ∧ Ext w w' ∧ Own 1 encI 3 w.heap.size w' d dp ((L.take k).map (litI A))) (fun k d dp => [(0, .slice a A.length cap), (1, .slice b L.length cb), (5, .slice d ((L.take k).map (litI A)).length dp), (6, .int .i64 k)]) (some ⟨gb, 0, none⟩) 0 ⟨Nat.zero_le _, hx, hO0⟩ (fun k d dp w' h => h.1) ⟨rfl, rfl, rfl, rfl, trivial⟩ ?_
  rintro k d dp w' ⟨hk, hx', hO'⟩
  have hl : ((L.take k).map (litI A)).length = k := by rw [List.length_map, List.length_take]; omega
  by_cases hlt : k < L.length
  · obtain ⟨x, hxx⟩ := getI L hlt
    have hok := h x (List.mem_of_getElem? hxx)
    have e1 : (L.take (k + 1)).map (litI A) = (L.take k).map (litI A) ++ [litI A x] := by rw [take_succ' hxx, List.map_append]; rfl
    repeat' (first
      | (apply W.condKT; exact rfl; (focus (exact dec_true (by omega); done)))
      | ((show WL _ _ _ (⟨_, .call ⟨.value (.func 92), _, _⟩, _, _, _, _⟩ :: _) _ _ _); apply WL.callS; exact rfl; exact rfl; exact rfl; exact rfl; exact ref16_of _ _ A x _ (R.ext (by (exact extA))) hok)
      | (apply WL.lit tOk; exact rfl; exact rfl; exact rfl; exact rfl; exact rfl; exact rfl; (first | exact rfl | kernel_rfl | (simp [Instr.fill, catCells]; done)); exact rfl; intro gb w' hb hge hc hx)
      | (apply WL.append1 (z := (litI A x)) tOk encI_ok; exact rfl; exact rfl; exact rfl; exact rfl; exact rfl; exact rfl; exact rfl; exact rfl; exact rfl; exact rfl; assumption; (exact extA); (first | exact rfl | (focus (simp only [List.length_set]; done)) | (focus (simp; done)) | (focus (simp [*]; done)) | omega | (focus (simp only [List.length_set]; omega))); assumption; exact rfl; exact rfl; (exact extA); (first | omega | (simp; omega) | (simp at *; omega)); intro a' cap' w' hO hX' hU hF)
      | (show WL _ _ _ _ _ _ _; first | apply WL.nil | (refine WL.au (k := ?_)) | (apply WL.index tOk; exact rfl; exact rfl; exact rfl; exact rfl; exact rfl; exact rfl; exact rfl; exact rfl; assumption; (exact extA); exact rfl; omega; assumption; intro b off h; have hcc := h; first | (obtain ⟨h1, h2, h3, h4, h5, h6, _⟩ := h) | (obtain ⟨h1, h2, h3, _⟩ := h) | (obtain ⟨h1, h2, _⟩ := h) | (obtain ⟨h1, _⟩ := h)))
      | (show Z _ _ _ _ _; first | apply Z.then_normal | apply Z.block_normal)
      | (show W _ _ _ _ _ _; first | apply W.seq | apply W.region | apply W.block | apply W.skip))
    exact Z.againO a' cap' ⟨by omega, hX', by rw [e1]; exact hO⟩ (by repeat' first | exact trivial | (refine And.intro ?_ ?_) | exact rfl | (rw [e1]; exact rfl))
  · obtain rfl : k = L.length := by omega
    repeat' (first
      | (apply W.condKF; exact rfl; (focus (exact dec_false (by omega); done)))
      | (show WL _ _ _ _ _ _ _; first | apply WL.nil | (refine WL.au (k := ?_)))
      | (show Z _ _ _ _ _; first | apply Z.then_normal | apply Z.then_exit | apply Z.block_exit)
      | (show W _ _ _ _ _ _; first | apply W.seq | apply W.region | apply W.ret | apply W.exit))
    rw [List.take_length] at hO'
    exact Z.body1 Try.results91 rfl fun m => ⟨hx'.at m, d, dp, by rw [List.take_length], hO'⟩
end Go.Proofs.Ythpnahapiodflaa
namespace Go.Proofs.Ythpnahapiodflaa
open Go Go.Lt Go.RowKit
set_option linter.unusedVariables false
set_option linter.unusedSimpArgs false
set_option maxRecDepth 20000

/-- A gate in other numbers. -/
noncomputable def gateR (A : List Int) (g : T3) : T3 := (litI A g.1, max (litI A g.2.1) (litI A g.2.2), min (litI A g.2.1) (litI A g.2.2))
noncomputable def gatesR (c : CirT) (k : Nat) : List T3 := ((ordL c.gates).take k).map fun i => gateR (cNet c).2 (gAt c.gates i)
theorem gatesR_s {c : CirT} {k i : Nat} {g : T3} (hi : (ordL c.gates)[k]? = some i) (hg : c.gates[i]? = some g) : gatesR c (k + 1) = gatesR c k ++ [gateR (cNet c).2 g] := by
  unfold gatesR
  rw [take_succ' hi, List.map_append]
  show _ ++ [gateR _ (gAt c.gates i)] = _
  rw [gAt_of hg]
theorem gatesR_len {c : CirT} {k : Nat} (h : k ≤ (ordL c.gates).length) : (gatesR c k).length = k := by unfold gatesR; rw [List.length_map, List.length_take]; omega
theorem cGates_pre (gs : List G3) : ∀ (L : List Nat) (s : NA), ∃ r, (cGates gs s L).1 = s.1 ++ r
  | [], s => ⟨[], by simp [cGates]⟩
  | i :: L, s => by
    obtain ⟨r, hr⟩ := cGates_pre gs L (cGate gs s i)
    refine ⟨(litI s.2 (gAt gs i).2.1, litI s.2 (gAt gs i).2.2) :: r, ?_⟩
    show (cGates gs (cGate gs s i) L).1 = _
    rw [hr]
    show (s.1 ++ [_]) ++ r = _
    rw [List.append_assoc]; rfl
theorem cGates_app (gs : List G3) (s : NA) (L M : List Nat) : cGates gs s (L ++ M) = cGates gs (cGates gs s L) M := by unfold cGates; rw [List.foldl_append]
theorem seq_take {c : CirT} (k : Nat) : ∃ r, c.seq = (c.inl ++ ((ordL c.gates).take k).map (fun i => (gAt c.gates i).1)) ++ r := by
  refine ⟨((ordL c.gates).drop k).map (fun i => (gAt c.gates i).1), ?_⟩
  rw [List.append_assoc, ← List.map_append, List.take_append_drop]
/-- What is put stays where it is. -/
theorem lit_stays {c : CirT} (h : GoodC' c) {k : Nat} (hk : k ≤ (ordL c.gates).length) {l : Int} (hl : l / 2 = 0 ∨ ∃ y ∈ c.inl ++ ((ordL c.gates).take k).map (fun i => (gAt c.gates i).1), y / 2 = l / 2) :
    litI (cGates c.gates (cIn ([], cAt0 c.max) c.inl) ((ordL c.gates).take k)).2 l = litI (cNet c).2 l := by
  have h1 := (net_to h k hk).1
  have h2 := (cNet_ok h).1
  rcases hl with hl | ⟨y, hy, he⟩
  · have e1 : (cGates c.gates (cIn ([], cAt0 c.max) c.inl) ((ordL c.gates).take k)).2[(l / 2).toNat]? = some 0 := by rw [hl]; exact h1.zero
    have e2 : (cNet c).2[(l / 2).toNat]? = some 0 := by rw [hl]; exact h2.zero
    rw [litI_some e1, litI_some e2]
  · obtain ⟨i, hi⟩ := List.mem_iff_getElem?.1 hy
    have e1 := h1.has i y hi
    obtain ⟨r, hr⟩ := seq_take (c := c) k
    have hi2 : c.seq[i]? = some y := by rw [hr, List.getElem?_append_left (lt_of_get hi)]; exact hi
    have e2 := h2.has i y hi2
    rw [he] at e1 e2
    rw [litI_some e1, litI_some e2]
theorem net_node {c : CirT} (h : GoodC' c) {k i : Nat} {g : T3} (hi : (ordL c.gates)[k]? = some i) (hg : c.gates[i]? = some g) : (cNet c).1[c.ins.length + c.lat.length + k]? = some (litI (cNet c).2 g.2.1, litI (cNet c).2 g.2.2) := by
  have hk := lt_of_get hi
  have hO := (ordL_is c.gates).1
  obtain ⟨g', hg', hn, hr⟩ := (hO k i hi).1
  rw [hg] at hg'; cases hg'
  have hm' := List.mem_of_getElem? hg
  have ua : g.2.1 ∈ c.used := List.mem_append_right _ (List.mem_flatMap.2 ⟨g, hm', by simp⟩)
  have ub : g.2.2 ∈ c.used := List.mem_append_right _ (List.mem_flatMap.2 ⟨g, hm', by simp⟩)
  have e1 := lit_stays h (Nat.le_of_lt hk) (used_put h ua fun j x hx hj => (hr j x hx hj).1)
  have e2 := lit_stays h (Nat.le_of_lt hk) (used_put h ub fun j x hx hj => (hr j x hx hj).2)
  have hl := (net_to h k (Nat.le_of_lt hk)).1.len1
  have hll : (cGates c.gates (cIn ([], cAt0 c.max) c.inl) ((ordL c.gates).take k)).1.length = c.ins.length + c.lat.length + k := by
    rw [hl, List.length_append, List.length_append, List.length_map, List.length_map, List.length_take]; omega
  have hsplit : ordL c.gates = (ordL c.gates).take (k + 1) ++ (ordL c.gates).drop (k + 1) := (List.take_append_drop _ _).symm
  have hN : cNet c = cGates c.gates (cGates c.gates (cIn ([], cAt0 c.max) c.inl) ((ordL c.gates).take (k + 1))) ((ordL c.gates).drop (k + 1)) := by
    rw [← cGates_app, List.take_append_drop]; rfl
  obtain ⟨r, hr⟩ := cGates_pre c.gates ((ordL c.gates).drop (k + 1)) (cGates c.gates (cIn ([], cAt0 c.max) c.inl) ((ordL c.gates).take (k + 1)))
  have hstep : (cGates c.gates (cIn ([], cAt0 c.max) c.inl) ((ordL c.gates).take (k + 1))).1 = (cGates c.gates (cIn ([], cAt0 c.max) c.inl) ((ordL c.gates).take k)).1 ++ [(litI (cNet c).2 g.2.1, litI (cNet c).2 g.2.2)] := by
    rw [take_succ' hi, cGates_snoc]
    unfold cGate
    rw [gAt_of hg, e1, e2]; rfl
  conv => lhs; rw [hN]
  rw [hr, hstep, List.getElem?_append_left (by rw [List.length_append, hll, List.length_singleton]; omega), List.getElem?_append_right (by omega), hll, Nat.sub_self]
  rfl
theorem gatesR_all {c : CirT} (h : GoodC' c) : gatesR c (ordL c.gates).length = (numC c).gates := by
  have hlen : (cNet c).1.length = c.ins.length + c.lat.length + (ordL c.gates).length := by
    rw [(cNet_ok h).1.len1]
    show (c.ins ++ c.lat.map (·.1) ++ (ordL c.gates).map (fun i => (gAt c.gates i).1)).length = _
    rw [List.length_append, List.length_append, List.length_map, List.length_map]
  have hg : (numC c).gates = gatesG (cNet c).1 (c.ins.length + c.lat.length) (ordL c.gates).length := by
    show gatesG (cNet c).1 (c.ins.length + (nextN c).length) ((cNet c).1.length - (c.ins.length + (nextN c).length)) = _
    rw [nextN_len, hlen, show c.ins.length + c.lat.length + (ordL c.gates).length - (c.ins.length + c.lat.length) = (ordL c.gates).length by omega]
  rw [hg]
  apply List.ext_getElem?
  intro k
  by_cases hk : k < (ordL c.gates).length
  · obtain ⟨i, hi⟩ := getI (ordL c.gates) hk
    obtain ⟨g, hgg⟩ := getI c.gates ((ordL_is c.gates).1.lt i (List.mem_of_getElem? hi))
    have hx := net_node h hi hgg
    rw [gatesG_get hk hx]
    unfold gatesR
    rw [List.take_length, List.getElem?_map, hi]
    show some (gateR _ (gAt c.gates i)) = _
    rw [gAt_of hgg]
    have hsq : c.seq[c.ins.length + c.lat.length + k]? = some g.1 := by
      show (c.ins ++ c.lat.map (·.1) ++ (ordL c.gates).map (fun i => (gAt c.gates i).1))[c.ins.length + c.lat.length + k]? = _
      rw [List.getElem?_append_right (by simp), List.length_append, List.length_map, show c.ins.length + c.lat.length + k - (c.ins.length + c.lat.length) = k by omega, List.getElem?_map, hi]
      show some (gAt c.gates i).1 = _
      rw [gAt_of hgg]
    unfold gateR gateG
    rw [net_own h hsq]
  · rw [List.getElem?_eq_none (by rw [gatesR_len (Nat.le_refl _)]; omega), List.getElem?_eq_none (by rw [gatesG_len]; omega)]
theorem num_ins {c : CirT} (h : GoodC' c) : c.ins.map (litI (cNet c).2) = (numC c).ins := by
  show _ = evenL 0 c.ins.length
  apply List.ext_getElem?
  intro k
  by_cases hk : k < c.ins.length
  · obtain ⟨x, hx⟩ := getI c.ins hk
    rw [List.getElem?_map, hx, evenL_get 0 _ hk, Nat.zero_add]
    show some (litI _ x) = _
    rw [net_own h (seq_in hx)]
  · rw [List.getElem?_eq_none (by rw [List.length_map]; omega), List.getElem?_eq_none (by rw [evenL_len]; omega)]
end Go.Proofs.Ythpnahapiodflaa
namespace Go.Lt
open Go.RowKit
set_option linter.unusedVariables false
section
variable {P : Program} {N : Nat} {e : Env} {w : World} {T : Tab} {ti : TI}
theorem Z.bodyCT {fn : Func} {R : Value → World → Prop} {b ty : Nat} {vs : List Value} {t u : Nat} {x : Value} (hT : OkTab P T) (hr : fn.results = #[.cell t ty, .tmp u]) (hv : get e t = some (.pointer (some ⟨b, 0, none⟩))) (hx : get e u = some x)
    (ht : tget T ty = some ti) (ha : isAggD ti.desc = true) (hs : ti.size = vs.length) (hc : Cells w b 0 vs) (hR : ∀ m, R (.tuple #[.agg vs.toArray, x]) (at' w m)) :
    Z N (bodyPost P fn fun x w' => ∃ v, x = .returned v ∧ R v w') .ret e w := ⟨fun a m hf => by
  have h1 := run_isAgg' (hT.at ht) (at' w m); rw [ha] at h1
  have h3 := run_sizeOf' (hT.at ht) (at' w m); rw [hs] at h3
  have h2 := run_loadCellsFrom (P := P) (acc := #[]) (off := 0) (i := 0) (b := b) (hc.ext ((Ext.refl w).at m))
  refine bodyPost_ret (v := .tuple #[.agg vs.toArray, x]) ?_ hf.defers ⟨_, rfl, hR m⟩
  have h4 := hf.slots _ _ hv
  have h5 := hf.slots _ _ hx
  simp [results, hr, Array.getD_eq_getD_getElem?, h4, h5, asAddr, loadVar, h1, h3, loadCells, h2]⟩
end
end Go.Lt
namespace Go.Lt
open Go.RowKit
set_option linter.unusedVariables false
theorem Sep.cons_iff {B : Nat} {w : World} {p : Piece} {ps : List Piece} : Sep B w (p :: ps) ↔ (p.P w ∧ ∀ k, p.b = some k → B ≤ k ∧ k < w.heap.size) ∧ (∀ q ∈ ps, p.b = none ∨ p.b ≠ q.b) ∧ (∀ q ∈ ps, q.b = none ∨ q.b ≠ p.b) ∧ Sep B w ps := by
  constructor
  · intro h
    refine ⟨h.holds 0 p rfl, fun q hq => ?_, fun q hq => ?_, ⟨fun i q hi => h.holds (i + 1) q hi, fun i j q r h1 h2 hne => h.apart (i + 1) (j + 1) q r h1 h2 (by omega)⟩⟩
    · obtain ⟨i, hi⟩ := List.mem_iff_getElem?.1 hq
      exact h.apart 0 (i + 1) p q rfl hi (by omega)
    · obtain ⟨i, hi⟩ := List.mem_iff_getElem?.1 hq
      exact h.apart (i + 1) 0 q p hi rfl (by omega)
  · rintro ⟨h1, h2, h3, h4⟩
    refine ⟨fun i q hi => ?_, fun i j q r hi hj hne => ?_⟩
    · cases i with
      | zero => cases hi; exact h1
      | succ i => exact h4.holds i q hi
    · cases i with
      | zero =>
        cases hi
        cases j with
        | zero => exact absurd rfl hne
        | succ j => exact h2 r (List.mem_of_getElem? (i := j) hj)
      | succ i =>
        cases j with
        | zero => cases hj; exact h3 q (List.mem_of_getElem? (i := i) hi)
        | succ j => exact h4.apart i j q r hi hj (by omega)
theorem Sep.ofPerm {B : Nat} {w : World} {ps qs : List Piece} (hp : ps.Perm qs) : Sep B w ps → Sep B w qs := by
  induction hp with
  | nil => exact id
  | cons x hp ih =>
    intro h
    obtain ⟨h1, h2, h3, h4⟩ := Sep.cons_iff.1 h
    exact Sep.cons_iff.2 ⟨h1, fun q hq => h2 q (hp.mem_iff.2 hq), fun q hq => h3 q (hp.mem_iff.2 hq), ih h4⟩
  | swap x y l =>
    intro h
    obtain ⟨h1, h2, h3, h4⟩ := Sep.cons_iff.1 h
    obtain ⟨k1, k2, k3, k4⟩ := Sep.cons_iff.1 h4
    refine Sep.cons_iff.2 ⟨k1, fun q hq => ?_, fun q hq => ?_, Sep.cons_iff.2 ⟨h1, fun q hq => h2 q (List.mem_cons_of_mem _ hq), fun q hq => h3 q (List.mem_cons_of_mem _ hq), k4⟩⟩
    · rcases List.mem_cons.1 hq with rfl | hq
      · exact h3 x (List.mem_cons_self ..)
      · exact k2 q hq
    · rcases List.mem_cons.1 hq with rfl | hq
      · exact h2 x (List.mem_cons_self ..)
      · exact k3 q hq
  | trans _ _ ih1 ih2 => exact fun h => ih2 (ih1 h)
end Go.Lt
namespace Go.Proofs.Ythpnahapiodflaa
open Go Go.Lt Go.RowKit
set_option linter.unusedVariables false
set_option linter.unusedSimpArgs false
set_option maxRecDepth 20000

/-- A latch in other numbers. -/
noncomputable def latR (A : List Int) (x : T3) : T3 := (litI A x.1, litI A x.2.1, if 1 < x.2.2 then litI A x.1 else x.2.2)
theorem latR_yes {A : List Int} {x : T3} (h : 1 < x.2.2) : latR A x = (litI A x.1, litI A x.2.1, litI A x.1) := by unfold latR; rw [if_pos h]
theorem latR_no {A : List Int} {x : T3} (h : ¬ 1 < x.2.2) : latR A x = (litI A x.1, litI A x.2.1, x.2.2) := by unfold latR; rw [if_neg h]
theorem latR_all {c : CirT} (h : GoodC' c) : c.lat.map (latR (cNet c).2) = (numC c).lat := by
  apply List.ext_getElem?
  intro k
  by_cases hk : k < c.lat.length
  · obtain ⟨x, hx⟩ := getI c.lat hk
    rw [List.getElem?_map, hx, num_lat hx]
    have e := net_own h (seq_lat hx)
    have hr := h.res x (List.mem_of_getElem? hx)
    have ho := h.own x.1 (List.mem_append_left _ (List.mem_append_right _ (List.mem_map.2 ⟨x, List.mem_of_getElem? hx, rfl⟩)))
    show some (latR _ x) = _
    unfold latR
    by_cases h1 : x.2.2 = x.1
    · rw [if_pos h1, if_pos (by omega), e]
    · rw [if_neg h1, if_neg (by omega), e]
  · rw [List.getElem?_eq_none (by rw [List.length_map]; omega), List.getElem?_eq_none (by rw [num_latlen]; omega)]
set_option maxHeartbeats 32000000 in
theorem ref16_Number (c : Circ) (w : World) (hC : CAt w c) (hg : GoodC' c.t) (hz : SzC c.t 100000) :
    Lt.Spec Try.prog 31 [c.val] w (fun v w' => Ext w w' ∧ ∃ (d : Circ) (aa : Option Addr) (ca : Nat), v = .tuple #[d.val, .slice aa (cNet c.t).2.length ca] ∧ d.t = numC c.t ∧ CAt w' d ∧ Row 1 encI w' aa (cNet c.t).2) := by
  have z1 : c.ins.2.2.length ≤ 100000 := hz.1
  have z2 : c.lat.2.2.length ≤ 100000 := hz.2.1
  have z6 : c.gates.2.2.length ≤ 100000 := hz.2.2.2.2.2
  have hm : 0 ≤ c.max ∧ c.max ≤ 16777216 := hg.max
  have hown : ∀ x ∈ c.t.own, 2 ≤ x ∧ x % 2 = 0 ∧ x ≤ 2 * c.max := hg.own
  have hused : ∀ x ∈ c.t.used, 0 ≤ x ∧ x ≤ 2 * c.max + 1 := hg.used
  have hgm : ∀ g ∈ c.gates.2.2, g.1 ∈ c.t.own ∧ g.2.1 ∈ c.t.used ∧ g.2.2 ∈ c.t.used := fun g hg =>
    ⟨List.mem_append.2 (.inr (List.mem_map.2 ⟨g, hg, rfl⟩)), List.mem_append.2 (.inr (List.mem_flatMap.2 ⟨g, hg, by simp⟩)), List.mem_append.2 (.inr (List.mem_flatMap.2 ⟨g, hg, by simp⟩))⟩
  have hok : gsOk c.gates.2.2 := fun g hg => by
    obtain ⟨r1, r2, r3⟩ := hgm g hg
    have := hown _ r1
    have := hused _ r2
    have := hused _ r3
    omega
  refine Spec.of _ Try.func31 rfl Try.ntmps31 (by kernel_rfl) rfl ?_
  repeat' (first
    | (apply WL.box; exact rfl; exact rfl; exact rfl; intro gb w' hb hge hc hx; have hcc := hc; (first | (obtain ⟨h1, h2, h3, _⟩ := hc) | (obtain ⟨h1, h2, _⟩ := hc)); (have hcells := hcc; obtain ⟨gc, rfl⟩ : ∃ x, x = gb := ⟨_, rfl⟩; obtain ⟨wc, rfl⟩ : ∃ x, x = w' := ⟨_, rfl⟩; obtain ⟨hxc, rfl⟩ : ∃ x, x = hx := ⟨_, rfl⟩))
    | (apply WL.alloc tOk; exact rfl; exact rfl; exact rfl; intro gb w' hb hge hx; (obtain ⟨g2, rfl⟩ : ∃ x, x = gb := ⟨_, rfl⟩; obtain ⟨w2, rfl⟩ : ∃ x, x = w' := ⟨_, rfl⟩; obtain ⟨hx2, rfl⟩ : ∃ x, x = hx := ⟨_, rfl⟩; obtain ⟨hb2, rfl⟩ : ∃ x, x = hb := ⟨_, rfl⟩; obtain ⟨hge2, rfl⟩ : ∃ x, x = hge := ⟨_, rfl⟩))
    | (apply WL.lit tOk; exact rfl; exact rfl; exact rfl; exact rfl; exact rfl; exact rfl; (first | exact rfl | kernel_rfl | (simp [Instr.fill, catCells]; done)); exact rfl; intro gb w' hb hge hc hx; have hO := Own.of_block ([(0 : Int)]) encI_ok hb hge rfl; (obtain ⟨g0, rfl⟩ : ∃ x, x = gb := ⟨_, rfl⟩; obtain ⟨w3, rfl⟩ : ∃ x, x = w' := ⟨_, rfl⟩; obtain ⟨hx3, rfl⟩ : ∃ x, x = hx := ⟨_, rfl⟩; obtain ⟨hO3, rfl⟩ : ∃ x, x = hO := ⟨_, rfl⟩))
    | ((show WL _ _ _ (⟨_, .call ⟨.value (.func 90), _, _⟩, _, _, _, _⟩ :: _) _ _ _); apply WL.call; exact rfl; exact rfl; exact rfl; exact rfl; exact ref11_Order c _ (hC.gates.row.ext (by (exact extA))) hok (by omega); rintro v' w' ⟨hx, a', cap', rfl, hO⟩; (obtain ⟨ad, rfl⟩ : ∃ x, x = a' := ⟨_, rfl⟩; obtain ⟨cd, rfl⟩ : ∃ x, x = cap' := ⟨_, rfl⟩; obtain ⟨w4, rfl⟩ : ∃ x, x = w' := ⟨_, rfl⟩; obtain ⟨hx4, rfl⟩ : ∃ x, x = hx := ⟨_, rfl⟩; obtain ⟨hO4, rfl⟩ : ∃ x, x = hO := ⟨_, rfl⟩))
    | (show WL _ _ _ _ _ _ _; first | apply WL.nil | (refine WL.au (k := ?_)))
    | (show Z _ _ _ _ _; apply Z.then_normal)
    | (show W _ _ _ _ _ _; first | apply W.seq | apply W.region | apply W.block))
  obtain ⟨zC, hzC⟩ : ∃ z : Array Value, z = Value.cells (.agg #[.int .i64 0, .slice none 0 0, .slice none 0 0, .slice none 0 0, .slice none 0 0, .slice none 0 0, .slice none 0 0, .slice none 0 0, .string ⟨#[]⟩]) := ⟨_, rfl⟩
  have hb2' : w2.heap[g2]? = some (.cells zC 28 (0, 0)) := by rw [hzC]; exact hb2
  clear hb2
  have hS2 : Lt.Sep wc.heap.size w2 [pcell g2 zC 28] := Sep.newCell Sep.none' hx2 hb2' hge2 (Nat.le_refl _)
  have hX23 : Ext wc w3 := hx2.trans hx3
  have hS3 : Lt.Sep wc.heap.size w3 [prow 1 encI 3 wc.heap.size (some ⟨g0, 0, none⟩) 1 [(0 : Int)], pcell g2 zC 28] := hS2.newRow' hx3 hO3 (Below.size hx2)
  obtain ⟨OL, hOL⟩ : ∃ L, L = natI (ordL c.gates.2.2) := ⟨_, rfl⟩
  rw [← hOL] at hO4 ⊢
  have hS : Lt.Sep wc.heap.size w4 [prow 1 encI 3 wc.heap.size ad cd OL, prow 1 encI 3 wc.heap.size (some ⟨g0, 0, none⟩) 1 [(0 : Int)], pcell g2 zC 28] := hS3.newRow' hx4 hO4 (Below.size hX23)
  have hX4 : Ext wc w4 := hX23.trans hx4
  clear hS2 hS3 hO3 hO4
  refine W.loopO c.max.toNat (fun k d dp w' => k ≤ c.max.toNat ∧ Ext wc w' ∧ Lt.Sep wc.heap.size w' [prow 1 encI 3 wc.heap.size ad cd OL, prow 1 encI 3 wc.heap.size d dp (0 :: List.replicate k (-1 : Int)), pcell g2 zC 28]) (fun k d dp => [(1, .pointer (some ⟨gc, 0, none⟩)), (2, .pointer (some ⟨g2, 0, none⟩)), (4, .slice d (0 :: List.replicate k (-1 : Int)).length dp), (5, .int .i64 0), (6, .slice ad OL.length cd), (7, .int .i64 ((k : Int) + 1))]) (some ⟨g0, 0, none⟩) 1 ⟨Nat.zero_le _, hX4, hS⟩ (fun k d dp w' h => h.1) ⟨rfl, rfl, rfl, rfl, rfl, rfl, trivial⟩ ?_
  clear hS hX4
  rintro k d dp w5 ⟨hk, hX5, hS⟩
  have hlk : (0 :: List.replicate k (-1 : Int)).length = k + 1 := by simp
  have hR1 := hS.row (i := 1) rfl
  have hcw := hcells.ext hX5
  obtain ⟨y0, y1, y2, y3, y4, y5, y6, _⟩ := hcw
  by_cases hlt : k < c.max.toNat
  · repeat' (first
      | (show WL _ _ _ _ _ _ _; first | apply WL.nil | (refine WL.au (k := ?_)))
      | (show Z _ _ _ _ _; apply Z.then_normal)
      | (show W _ _ _ _ _ _; first | apply W.seq | apply W.region))
    refine W.condKT rfl (dec_true (by omega)) ?_
    repeat' (first
      | (apply WL.lit tOk; exact rfl; exact rfl; exact rfl; exact rfl; exact rfl; exact rfl; (first | exact rfl | kernel_rfl | (simp [Instr.fill, catCells]; done)); exact rfl; intro gb w' hb hge hc hx)
      | (apply WL.append1 (z := ((-1 : Int))) tOk encI_ok; exact rfl; exact rfl; exact rfl; exact rfl; exact rfl; exact rfl; exact rfl; exact rfl; exact rfl; exact rfl; assumption; (exact extA); (first | exact rfl | (focus (simp only [List.length_set]; done)) | (focus (simp; done)) | (focus (simp [*]; done)) | omega | (focus (simp only [List.length_set]; omega))); (first | assumption | (refine Cells.ext ?_ (by assumption); exact extA)); exact rfl; exact rfl; (exact extA); (first | omega | (simp; omega) | (simp at *; omega)); intro a' cap' w' hO hX' hU hF; (first | replace hS := Sep.updRow (i := 0) rfl hU hO hF hS (by (exact extA)) (by (first | exact Nat.le_refl _ | exact Below.size (by (exact extA)))) | replace hS := Sep.updRow (i := 1) rfl hU hO hF hS (by (exact extA)) (by (first | exact Nat.le_refl _ | exact Below.size (by (exact extA)))) | replace hS := Sep.updRow (i := 2) rfl hU hO hF hS (by (exact extA)) (by (first | exact Nat.le_refl _ | exact Below.size (by (exact extA)))) | replace hS := Sep.updRow (i := 3) rfl hU hO hF hS (by (exact extA)) (by (first | exact Nat.le_refl _ | exact Below.size (by (exact extA)))) | replace hS := Sep.updRow (i := 4) rfl hU hO hF hS (by (exact extA)) (by (first | exact Nat.le_refl _ | exact Below.size (by (exact extA)))) | replace hS := Sep.updRow (i := 5) rfl hU hO hF hS (by (exact extA)) (by (first | exact Nat.le_refl _ | exact Below.size (by (exact extA))))); (try simp only [List.set_cons_zero, List.set_cons_succ] at hS); (try have hR0 := hS.row (i := 0) rfl); (try have hR1 := hS.row (i := 1) rfl); (try have hR2 := hS.row (i := 2) rfl); (try have hR3 := hS.row (i := 3) rfl); (try have hR4 := hS.row (i := 4) rfl); (try have hC0 := hS.cell (i := 0) rfl); (try have hD0 := (cells_heap hC0).1); (try have hE0 := (cells_heap hC0).2.1); (try have hF0 := (cells_heap hC0).2.2.1); (try have hG0 := (cells_heap hC0).2.2.2.1); (try have hC1 := hS.cell (i := 1) rfl); (try have hD1 := (cells_heap hC1).1); (try have hE1 := (cells_heap hC1).2.1); (try have hF1 := (cells_heap hC1).2.2.1); (try have hG1 := (cells_heap hC1).2.2.2.1); (try have hC2 := hS.cell (i := 2) rfl); (try have hD2 := (cells_heap hC2).1); (try have hE2 := (cells_heap hC2).2.1); (try have hF2 := (cells_heap hC2).2.2.1); (try have hG2 := (cells_heap hC2).2.2.2.1); (try have hC3 := hS.cell (i := 3) rfl); (try have hD3 := (cells_heap hC3).1); (try have hE3 := (cells_heap hC3).2.1); (try have hF3 := (cells_heap hC3).2.2.1); (try have hG3 := (cells_heap hC3).2.2.2.1); (try have hC4 := hS.cell (i := 4) rfl); (try have hD4 := (cells_heap hC4).1); (try have hE4 := (cells_heap hC4).2.1); (try have hF4 := (cells_heap hC4).2.2.1); (try have hG4 := (cells_heap hC4).2.2.2.1); (try have hM0 := hS.map (i := 0) rfl); (try have hM1 := hS.map (i := 1) rfl); (try have hM2 := hS.map (i := 2) rfl); (try have hM3 := hS.map (i := 3) rfl); (try have hM4 := hS.map (i := 4) rfl))
      | (show WL _ _ _ _ _ _ _; first | apply WL.nil | (refine WL.au (k := ?_)))
      | (show Z _ _ _ _ _; first | apply Z.then_normal | apply Z.block_normal)
      | (show W _ _ _ _ _ _; first | apply W.seq | apply W.region | apply W.block | apply W.skip))
    exact Z.againO a' cap' ⟨by omega, (by (exact extA)), by rw [← at_snoc]; exact hS⟩ ⟨rfl, rfl, by rw [← at_snoc]; exact rfl, rfl, rfl, rfl, trivial⟩
  obtain rfl : k = c.max.toNat := by omega
  repeat' (first
    | (show WL _ _ _ _ _ _ _; first | apply WL.nil | (refine WL.au (k := ?_)))
    | (show Z _ _ _ _ _; apply Z.then_normal)
    | (show W _ _ _ _ _ _; first | apply W.seq | apply W.region))
  refine W.condKF rfl (dec_false (by omega)) ?_
  repeat' (first
    | (show WL _ _ _ _ _ _ _; first | apply WL.nil | (refine WL.au (k := ?_)))
    | (show Z _ _ _ _ _; first | apply Z.then_normal | apply Z.then_exit | apply Z.block_exit)
    | (show W _ _ _ _ _ _; first | apply W.seq | apply W.region | apply W.block | apply W.exit))
  have hown1 : ∀ x ∈ c.ins.2.2, 2 ≤ x ∧ x % 2 = 0 ∧ x ≤ 2 * c.max := fun x hx => hown x (List.mem_append_left _ (List.mem_append_left _ hx))
  have hown2 : ∀ x ∈ c.lat.2.2, 2 ≤ x.1 ∧ x.1 % 2 = 0 ∧ x.1 ≤ 2 * c.max := fun x hx => hown x.1 (List.mem_append_left _ (List.mem_append_right _ (List.mem_map.2 ⟨x, hx, rfl⟩)))
  have e10 : (cS1 c.t 0).2 = 0 :: List.replicate c.max.toNat (-1 : Int) := by rw [cS1_0]; rfl
  have Ri := hC.ins.row.ext hxc
  have Rl := hC.lat.row.ext hxc
  have Rg := hC.gates.row.ext hxc
  refine W.loopW c.ins.2.2.length (fun k w' => k ≤ c.ins.2.2.length ∧ Ext wc w' ∧ Lt.Sep wc.heap.size w' [prow 1 encI 3 wc.heap.size ad cd OL, prow 1 encI 3 wc.heap.size d dp (cS1 c.t k).2, pcell g2 zC 28]) (fun k => [(1, .pointer (some ⟨gc, 0, none⟩)), (2, .pointer (some ⟨g2, 0, none⟩)), (4, .slice d (c.max.toNat + 1) dp), (5, .int .i64 k), (6, .slice ad OL.length cd), (8, .int .i64 k)]) ⟨Nat.zero_le _, hX5, by rw [e10]; exact hS⟩ (fun k w' h => h.1) ⟨rfl, rfl, congrArg (fun z => some (Value.slice d z dp)) hlk, rfl, rfl, rfl, trivial⟩ ?_
  clear hS hR1 hX5 hlt hk y0 y1 y2 y3 y4 y5 y6 hlk
  rintro k w6 ⟨hk, hX6, hS⟩
  have hl1 : (cS1 c.t k).1.length = k ∧ (cS1 c.t k).2.length = c.max.toNat + 1 := cS1_len c.t hk
  have hl2 := hl1.2
  have hR1 := hS.row (i := 1) rfl
  obtain ⟨y0, y1, y2, y3, y4, y5, y6, _⟩ := hcells.ext hX6
  have Ri6 := Ri.ext hX6
  by_cases hlt : k < c.ins.2.2.length
  · obtain ⟨x, hgx⟩ := getI c.ins.2.2 hlt
    have hxo := hown1 x (List.mem_of_getElem? hgx)
    have e1 : (cS1 c.t (k + 1)).2 = (cS1 c.t k).2.set (x / 2).toNat (2 * ((k : Int) + 1)) := by rw [cS1_s (c := c.t) hgx]; unfold cput; rw [hl1.1]
    obtain ⟨yv, hgy⟩ := getI (cS1 c.t k).2 (show (x / 2).toNat < _ by omega)
    repeat' (first
      | (show WL _ _ _ _ _ _ _; first | apply WL.nil | (refine WL.au (k := ?_)))
      | (show Z _ _ _ _ _; apply Z.then_normal)
      | (show W _ _ _ _ _ _; first | apply W.seq | apply W.region))
    refine W.condKT rfl (dec_true (by omega)) ?_
    repeat' (first
      | (apply WL.storeO (z' := (2 * ((k : Int) + 1))) tOk; exact rfl; exact rfl; exact rfl; exact rfl; assumption; (exact extA); exact rfl; exact rfl; exact rfl; exact encI_ok; assumption; exact rfl; (exact extA); intro w' hO hX' hU; (first | replace hS := Sep.updRow (i := 0) rfl hU hO (.inl rfl) hS (by (exact extA)) (by (first | exact Nat.le_refl _ | exact Below.size (by (exact extA)))) | replace hS := Sep.updRow (i := 1) rfl hU hO (.inl rfl) hS (by (exact extA)) (by (first | exact Nat.le_refl _ | exact Below.size (by (exact extA)))) | replace hS := Sep.updRow (i := 2) rfl hU hO (.inl rfl) hS (by (exact extA)) (by (first | exact Nat.le_refl _ | exact Below.size (by (exact extA)))) | replace hS := Sep.updRow (i := 3) rfl hU hO (.inl rfl) hS (by (exact extA)) (by (first | exact Nat.le_refl _ | exact Below.size (by (exact extA)))) | replace hS := Sep.updRow (i := 4) rfl hU hO (.inl rfl) hS (by (exact extA)) (by (first | exact Nat.le_refl _ | exact Below.size (by (exact extA)))) | replace hS := Sep.updRow (i := 5) rfl hU hO (.inl rfl) hS (by (exact extA)) (by (first | exact Nat.le_refl _ | exact Below.size (by (exact extA))))); (try simp only [List.set_cons_zero, List.set_cons_succ] at hS); (try have hR0 := hS.row (i := 0) rfl); (try have hR1 := hS.row (i := 1) rfl); (try have hR2 := hS.row (i := 2) rfl); (try have hR3 := hS.row (i := 3) rfl); (try have hR4 := hS.row (i := 4) rfl); (try have hC0 := hS.cell (i := 0) rfl); (try have hD0 := (cells_heap hC0).1); (try have hE0 := (cells_heap hC0).2.1); (try have hF0 := (cells_heap hC0).2.2.1); (try have hG0 := (cells_heap hC0).2.2.2.1); (try have hC1 := hS.cell (i := 1) rfl); (try have hD1 := (cells_heap hC1).1); (try have hE1 := (cells_heap hC1).2.1); (try have hF1 := (cells_heap hC1).2.2.1); (try have hG1 := (cells_heap hC1).2.2.2.1); (try have hC2 := hS.cell (i := 2) rfl); (try have hD2 := (cells_heap hC2).1); (try have hE2 := (cells_heap hC2).2.1); (try have hF2 := (cells_heap hC2).2.2.1); (try have hG2 := (cells_heap hC2).2.2.2.1); (try have hC3 := hS.cell (i := 3) rfl); (try have hD3 := (cells_heap hC3).1); (try have hE3 := (cells_heap hC3).2.1); (try have hF3 := (cells_heap hC3).2.2.1); (try have hG3 := (cells_heap hC3).2.2.2.1); (try have hC4 := hS.cell (i := 4) rfl); (try have hD4 := (cells_heap hC4).1); (try have hE4 := (cells_heap hC4).2.1); (try have hF4 := (cells_heap hC4).2.2.1); (try have hG4 := (cells_heap hC4).2.2.2.1); (try have hM0 := hS.map (i := 0) rfl); (try have hM1 := hS.map (i := 1) rfl); (try have hM2 := hS.map (i := 2) rfl); (try have hM3 := hS.map (i := 3) rfl); (try have hM4 := hS.map (i := 4) rfl))
      | (apply WL.indexO tOk; exact rfl; exact rfl; exact rfl; exact rfl; exact rfl; exact rfl; exact rfl; exact rfl; assumption; (exact extA); exact encI_ok; (first | exact rfl | (focus (simp only [List.length_set]; done)) | (focus (simp; done)) | (focus (simp [*]; done)) | omega | (focus (simp only [List.length_set]; omega))); omega; assumption; intro gb ha hc; cases ha; have hcc := hc; first | (obtain ⟨h1, h2, h3, _⟩ := hc) | (obtain ⟨h1, h2, _⟩ := hc) | (obtain ⟨h1, _⟩ := hc))
      | (show WL _ _ _ _ _ _ _; first | apply WL.nil | (refine WL.au (k := ?_)) | (apply WL.index tOk; exact rfl; exact rfl; exact rfl; exact rfl; exact rfl; exact rfl; exact rfl; exact rfl; assumption; (exact extA); exact rfl; omega; assumption; intro b off h; have hcc := h; first | (obtain ⟨h1, h2, h3, h4, h5, h6, _⟩ := h) | (obtain ⟨h1, h2, h3, _⟩ := h) | (obtain ⟨h1, h2, _⟩ := h) | (obtain ⟨h1, _⟩ := h)))
      | (show Z _ _ _ _ _; first | apply Z.then_normal | apply Z.block_normal)
      | (show W _ _ _ _ _ _; first | apply W.seq | apply W.region | apply W.block | apply W.skip))
    exact Z.againW ⟨by omega, (by (exact extA)), by rw [e1]; exact hS⟩ ⟨rfl, rfl, rfl, rfl, rfl, rfl, trivial⟩
  obtain rfl : k = c.ins.2.2.length := by omega
  repeat' (first
    | (show WL _ _ _ _ _ _ _; first | apply WL.nil | (refine WL.au (k := ?_)))
    | (show Z _ _ _ _ _; apply Z.then_normal)
    | (show W _ _ _ _ _ _; first | apply W.seq | apply W.region))
  refine W.condKF rfl (dec_false (by omega)) ?_
  repeat' (first
    | (show WL _ _ _ _ _ _ _; first | apply WL.nil | (refine WL.au (k := ?_)))
    | (show Z _ _ _ _ _; first | apply Z.then_normal | apply Z.then_exit | apply Z.block_exit)
    | (show W _ _ _ _ _ _; first | apply W.seq | apply W.region | apply W.block | apply W.exit))
  have e20 : cS2 c.t 0 = cS1 c.t c.ins.2.2.length := cS2_0 c.t
  refine W.loopW c.lat.2.2.length (fun k w' => k ≤ c.lat.2.2.length ∧ Ext wc w' ∧ Lt.Sep wc.heap.size w' [prow 1 encI 3 wc.heap.size ad cd OL, prow 1 encI 3 wc.heap.size d dp (cS2 c.t k).2, pcell g2 zC 28]) (fun k => [(1, .pointer (some ⟨gc, 0, none⟩)), (2, .pointer (some ⟨g2, 0, none⟩)), (4, .slice d (c.max.toNat + 1) dp), (5, .int .i64 ((c.ins.2.2.length : Int) + k)), (6, .slice ad OL.length cd), (9, .int .i64 k)]) ⟨Nat.zero_le _, hX6, by rw [e20]; exact hS⟩ (fun k w' h => h.1) ⟨rfl, rfl, rfl, congrArg (fun z => some (Value.int .i64 z)) (by simp), rfl, rfl, trivial⟩ ?_
  clear hS hR1 hX6 hlt hk y0 y1 y2 y3 y4 y5 y6 hl1 hl2
  rintro k w6 ⟨hk, hX6, hS⟩
  have hl1 : (cS2 c.t k).1.length = c.ins.2.2.length + k ∧ (cS2 c.t k).2.length = c.max.toNat + 1 := cS2_len c.t hk
  have hl2 := hl1.2
  have hR1 := hS.row (i := 1) rfl
  obtain ⟨y0, y1, y2, y3, y4, y5, y6, _⟩ := hcells.ext hX6
  have Rl6 := Rl.ext hX6
  by_cases hlt : k < c.lat.2.2.length
  · obtain ⟨x, hgx⟩ := getI c.lat.2.2 hlt
    have hxo := hown2 x (List.mem_of_getElem? hgx)
    have e1 : (cS2 c.t (k + 1)).2 = (cS2 c.t k).2.set (x.1 / 2).toNat (2 * (((c.ins.2.2.length : Int) + k) + 1)) := by rw [cS2_s (c := c.t) hgx]; unfold cput; rw [hl1.1]; rfl
    obtain ⟨yv, hgy⟩ := getI (cS2 c.t k).2 (show (x.1 / 2).toNat < _ by omega)
    repeat' (first
      | (show WL _ _ _ _ _ _ _; first | apply WL.nil | (refine WL.au (k := ?_)))
      | (show Z _ _ _ _ _; apply Z.then_normal)
      | (show W _ _ _ _ _ _; first | apply W.seq | apply W.region))
    refine W.condKT rfl (dec_true (by omega)) ?_
    repeat' (first
      | (apply WL.storeO (z' := (2 * (((c.ins.2.2.length : Int) + k) + 1))) tOk; exact rfl; exact rfl; exact rfl; exact rfl; assumption; (exact extA); exact rfl; exact rfl; exact rfl; exact encI_ok; assumption; exact rfl; (exact extA); intro w' hO hX' hU; (first | replace hS := Sep.updRow (i := 0) rfl hU hO (.inl rfl) hS (by (exact extA)) (by (first | exact Nat.le_refl _ | exact Below.size (by (exact extA)))) | replace hS := Sep.updRow (i := 1) rfl hU hO (.inl rfl) hS (by (exact extA)) (by (first | exact Nat.le_refl _ | exact Below.size (by (exact extA)))) | replace hS := Sep.updRow (i := 2) rfl hU hO (.inl rfl) hS (by (exact extA)) (by (first | exact Nat.le_refl _ | exact Below.size (by (exact extA)))) | replace hS := Sep.updRow (i := 3) rfl hU hO (.inl rfl) hS (by (exact extA)) (by (first | exact Nat.le_refl _ | exact Below.size (by (exact extA)))) | replace hS := Sep.updRow (i := 4) rfl hU hO (.inl rfl) hS (by (exact extA)) (by (first | exact Nat.le_refl _ | exact Below.size (by (exact extA)))) | replace hS := Sep.updRow (i := 5) rfl hU hO (.inl rfl) hS (by (exact extA)) (by (first | exact Nat.le_refl _ | exact Below.size (by (exact extA))))); (try simp only [List.set_cons_zero, List.set_cons_succ] at hS); (try have hR0 := hS.row (i := 0) rfl); (try have hR1 := hS.row (i := 1) rfl); (try have hR2 := hS.row (i := 2) rfl); (try have hR3 := hS.row (i := 3) rfl); (try have hR4 := hS.row (i := 4) rfl); (try have hC0 := hS.cell (i := 0) rfl); (try have hD0 := (cells_heap hC0).1); (try have hE0 := (cells_heap hC0).2.1); (try have hF0 := (cells_heap hC0).2.2.1); (try have hG0 := (cells_heap hC0).2.2.2.1); (try have hC1 := hS.cell (i := 1) rfl); (try have hD1 := (cells_heap hC1).1); (try have hE1 := (cells_heap hC1).2.1); (try have hF1 := (cells_heap hC1).2.2.1); (try have hG1 := (cells_heap hC1).2.2.2.1); (try have hC2 := hS.cell (i := 2) rfl); (try have hD2 := (cells_heap hC2).1); (try have hE2 := (cells_heap hC2).2.1); (try have hF2 := (cells_heap hC2).2.2.1); (try have hG2 := (cells_heap hC2).2.2.2.1); (try have hC3 := hS.cell (i := 3) rfl); (try have hD3 := (cells_heap hC3).1); (try have hE3 := (cells_heap hC3).2.1); (try have hF3 := (cells_heap hC3).2.2.1); (try have hG3 := (cells_heap hC3).2.2.2.1); (try have hC4 := hS.cell (i := 4) rfl); (try have hD4 := (cells_heap hC4).1); (try have hE4 := (cells_heap hC4).2.1); (try have hF4 := (cells_heap hC4).2.2.1); (try have hG4 := (cells_heap hC4).2.2.2.1); (try have hM0 := hS.map (i := 0) rfl); (try have hM1 := hS.map (i := 1) rfl); (try have hM2 := hS.map (i := 2) rfl); (try have hM3 := hS.map (i := 3) rfl); (try have hM4 := hS.map (i := 4) rfl))
      | (apply WL.indexO tOk; exact rfl; exact rfl; exact rfl; exact rfl; exact rfl; exact rfl; exact rfl; exact rfl; assumption; (exact extA); exact encI_ok; (first | exact rfl | (focus (simp only [List.length_set]; done)) | (focus (simp; done)) | (focus (simp [*]; done)) | omega | (focus (simp only [List.length_set]; omega))); omega; assumption; intro gb ha hc; cases ha; have hcc := hc; first | (obtain ⟨h1, h2, h3, _⟩ := hc) | (obtain ⟨h1, h2, _⟩ := hc) | (obtain ⟨h1, _⟩ := hc))
      | (show WL _ _ _ _ _ _ _; first | apply WL.nil | (refine WL.au (k := ?_)) | (apply WL.index tOk; exact rfl; exact rfl; exact rfl; exact rfl; exact rfl; exact rfl; exact rfl; exact rfl; assumption; (exact extA); exact rfl; omega; assumption; intro b off h; have hcc := h; first | (obtain ⟨h1, h2, h3, h4, h5, h6, _⟩ := h) | (obtain ⟨h1, h2, h3, _⟩ := h) | (obtain ⟨h1, h2, _⟩ := h) | (obtain ⟨h1, _⟩ := h)))
      | (show Z _ _ _ _ _; first | apply Z.then_normal | apply Z.block_normal)
      | (show W _ _ _ _ _ _; first | apply W.seq | apply W.region | apply W.block | apply W.skip))
    exact Z.againW ⟨by omega, (by (exact extA)), by rw [e1]; exact hS⟩ ⟨rfl, rfl, rfl, congrArg (fun z => some (Value.int .i64 z)) (by simp; omega), rfl, rfl, trivial⟩
  obtain rfl : k = c.lat.2.2.length := by omega
  repeat' (first
    | (show WL _ _ _ _ _ _ _; first | apply WL.nil | (refine WL.au (k := ?_)))
    | (show Z _ _ _ _ _; apply Z.then_normal)
    | (show W _ _ _ _ _ _; first | apply W.seq | apply W.region))
  refine W.condKF rfl (dec_false (by omega)) ?_
  repeat' (first
    | (show WL _ _ _ _ _ _ _; first | apply WL.nil | (refine WL.au (k := ?_)))
    | (show Z _ _ _ _ _; first | apply Z.then_normal | apply Z.then_exit | apply Z.block_exit)
    | (show W _ _ _ _ _ _; first | apply W.seq | apply W.region | apply W.block | apply W.exit))
  have e30 : cS3 c.t 0 = cS2 c.t c.lat.2.2.length := cS3_0 c.t
  have hnl : OL.length = (ordL c.gates.2.2).length := by rw [hOL]; simp [natI]
  have hol : (ordL c.gates.2.2).length ≤ c.gates.2.2.length := (ordL_is c.gates.2.2).1.le
  refine W.loopW (ordL c.gates.2.2).length (fun k w' => k ≤ (ordL c.gates.2.2).length ∧ Ext wc w' ∧ Lt.Sep wc.heap.size w' [prow 1 encI 3 wc.heap.size ad cd OL, prow 1 encI 3 wc.heap.size d dp (cS3 c.t k).2, pcell g2 zC 28]) (fun k => [(1, .pointer (some ⟨gc, 0, none⟩)), (2, .pointer (some ⟨g2, 0, none⟩)), (4, .slice d (c.max.toNat + 1) dp), (5, .int .i64 ((c.ins.2.2.length : Int) + c.lat.2.2.length + k)), (6, .slice ad OL.length cd), (10, .int .i64 k)]) ⟨Nat.zero_le _, hX6, by rw [e30]; exact hS⟩ (fun k w' h => h.1) ⟨rfl, rfl, rfl, congrArg (fun z => some (Value.int .i64 z)) (by simp), rfl, rfl, trivial⟩ ?_
  clear hS hR1 hX6 hlt hk y0 y1 y2 y3 y4 y5 y6 hl1 hl2
  rintro k w6 ⟨hk, hX6, hS⟩
  have hl1 : (cS3 c.t k).1.length = c.ins.2.2.length + c.lat.2.2.length + k ∧ (cS3 c.t k).2.length = c.max.toNat + 1 := cS3_len c.t hk
  have hl2 := hl1.2
  have hR0 := hS.row (i := 0) rfl
  have hR1 := hS.row (i := 1) rfl
  obtain ⟨y0, y1, y2, y3, y4, y5, y6, _⟩ := hcells.ext hX6
  have Rg6 := Rg.ext hX6
  have RO := hR0.row encI_ok
  by_cases hlt : k < (ordL c.gates.2.2).length
  · obtain ⟨i, hi⟩ := getI (ordL c.gates.2.2) hlt
    obtain ⟨g, za, zb, hgg, hza, hzb, ka, kb⟩ := cS3_get hg (c := c.t) hi
    have hgg : c.gates.2.2[i]? = some g := hgg
    have hgo := hok g (List.mem_of_getElem? hgg)
    have hgw := hown g.1 (hgm g (List.mem_of_getElem? hgg)).1
    have hgl := lt_of_get hgg
    have hni : OL[((k : Nat) : Int).toNat]? = some (i : Int) := by rw [Int.toNat_natCast, hOL, natI, List.getElem?_map, hi]; rfl
    have hgi : c.gates.2.2[((i : Nat) : Int).toNat]? = some g := by rw [Int.toNat_natCast]; exact hgg
    have e1 : (cS3 c.t (k + 1)).2 = (cS3 c.t k).2.set (g.1 / 2).toNat (2 * (((c.ins.2.2.length : Int) + c.lat.2.2.length + k) + 1)) := by rw [cS3_s (c := c.t) hi]; unfold cGate cput; rw [gAt_of hgg, hl1.1]; rfl
    obtain ⟨yv, hgy⟩ := getI (cS3 c.t k).2 (show (g.1 / 2).toNat < _ by omega)
    repeat' (first
      | (show WL _ _ _ _ _ _ _; first | apply WL.nil | (refine WL.au (k := ?_)))
      | (show Z _ _ _ _ _; apply Z.then_normal)
      | (show W _ _ _ _ _ _; first | apply W.seq | apply W.region))
    refine W.condKT rfl (dec_true (by omega)) ?_
    repeat' (first
      | (show WL _ _ _ _ _ _ _; first | apply WL.nil | (refine WL.au (k := ?_)))
      | (show Z _ _ _ _ _; apply Z.then_normal)
      | (show W _ _ _ _ _ _; first | apply W.seq | apply W.region | apply W.block | apply W.skip))
    repeat' (first
      | (show W _ _ (.region 20 _ _) _ _ _; apply W.regionGX (.fl true 0 (.fl true 1 (.fl true 3 (.fl true 4 (.fl true 5 (.fl true 11 (.fl true 12 (.fl false 2 (.fl false 6 (.fl true 7 (.fl true 8 (.fl false 9 (.fl true 10 (.fl true 13 (.br 14 .done .stop))))))))))))))) [6, 8, 9, 10] tMix; kernel_rfl)
      | (apply WL.storeO (z' := (2 * (((c.ins.2.2.length : Int) + c.lat.2.2.length + k) + 1))) tOk; exact rfl; exact rfl; exact rfl; exact rfl; assumption; (exact extA); exact rfl; exact rfl; exact rfl; exact encI_ok; assumption; exact rfl; (exact extA); intro w' hO hX' hU; (first | replace hS := Sep.updRow (i := 0) rfl hU hO (.inl rfl) hS (by (exact extA)) (by (first | exact Nat.le_refl _ | exact Below.size (by (exact extA)))) | replace hS := Sep.updRow (i := 1) rfl hU hO (.inl rfl) hS (by (exact extA)) (by (first | exact Nat.le_refl _ | exact Below.size (by (exact extA)))) | replace hS := Sep.updRow (i := 2) rfl hU hO (.inl rfl) hS (by (exact extA)) (by (first | exact Nat.le_refl _ | exact Below.size (by (exact extA)))) | replace hS := Sep.updRow (i := 3) rfl hU hO (.inl rfl) hS (by (exact extA)) (by (first | exact Nat.le_refl _ | exact Below.size (by (exact extA)))) | replace hS := Sep.updRow (i := 4) rfl hU hO (.inl rfl) hS (by (exact extA)) (by (first | exact Nat.le_refl _ | exact Below.size (by (exact extA)))) | replace hS := Sep.updRow (i := 5) rfl hU hO (.inl rfl) hS (by (exact extA)) (by (first | exact Nat.le_refl _ | exact Below.size (by (exact extA))))); (try simp only [List.set_cons_zero, List.set_cons_succ] at hS); (try have hR0 := hS.row (i := 0) rfl); (try have hR1 := hS.row (i := 1) rfl); (try have hR2 := hS.row (i := 2) rfl); (try have hR3 := hS.row (i := 3) rfl); (try have hR4 := hS.row (i := 4) rfl); (try have hC0 := hS.cell (i := 0) rfl); (try have hD0 := (cells_heap hC0).1); (try have hE0 := (cells_heap hC0).2.1); (try have hF0 := (cells_heap hC0).2.2.1); (try have hG0 := (cells_heap hC0).2.2.2.1); (try have hC1 := hS.cell (i := 1) rfl); (try have hD1 := (cells_heap hC1).1); (try have hE1 := (cells_heap hC1).2.1); (try have hF1 := (cells_heap hC1).2.2.1); (try have hG1 := (cells_heap hC1).2.2.2.1); (try have hC2 := hS.cell (i := 2) rfl); (try have hD2 := (cells_heap hC2).1); (try have hE2 := (cells_heap hC2).2.1); (try have hF2 := (cells_heap hC2).2.2.1); (try have hG2 := (cells_heap hC2).2.2.2.1); (try have hC3 := hS.cell (i := 3) rfl); (try have hD3 := (cells_heap hC3).1); (try have hE3 := (cells_heap hC3).2.1); (try have hF3 := (cells_heap hC3).2.2.1); (try have hG3 := (cells_heap hC3).2.2.2.1); (try have hC4 := hS.cell (i := 4) rfl); (try have hD4 := (cells_heap hC4).1); (try have hE4 := (cells_heap hC4).2.1); (try have hF4 := (cells_heap hC4).2.2.1); (try have hG4 := (cells_heap hC4).2.2.2.1); (try have hM0 := hS.map (i := 0) rfl); (try have hM1 := hS.map (i := 1) rfl); (try have hM2 := hS.map (i := 2) rfl); (try have hM3 := hS.map (i := 3) rfl); (try have hM4 := hS.map (i := 4) rfl))
      | (apply FL.indexO tOk; exact rfl; exact rfl; exact rfl; exact rfl; exact rfl; exact rfl; exact rfl; exact rfl; assumption; (exact extA); exact encI_ok; (first | exact rfl | (focus (simp only [List.length_set]; done)) | (focus (simp; done)) | (focus (simp [*]; done)) | omega | (focus (simp only [List.length_set]; omega))); omega; assumption; intro gb ha hc; cases ha; have hcc := hc; first | (obtain ⟨h1, h2, h3, _⟩ := hc) | (obtain ⟨h1, h2, _⟩ := hc) | (obtain ⟨h1, _⟩ := hc))
      | (show SX _ _ _ _ _ _ _ _ _; first | (apply SX.done; intro w' hx) | (apply SX.fl0; exact rfl) | (apply SX.fl1; exact rfl; (exact extA)) | (apply SX.br1; exact rfl; intro w' hx))
      | (show FL _ _ _ _ _ _ _ _; first | apply FL.nilX | (apply FL.loadE tOk; exact rfl; exact rfl; exact rfl; exact rfl; exact rfl; assumption) | (apply FL.indexE tOk; exact rfl; exact rfl; exact rfl; exact rfl; exact rfl; exact rfl; exact rfl; exact rfl; assumption; exact rfl; omega; assumption; intro b off h; have hcc := h; first | (obtain ⟨h1, h2, h3, h4, h5, h6, _⟩ := h) | (obtain ⟨h1, h2, h3, _⟩ := h) | (obtain ⟨h1, h2, _⟩ := h) | (obtain ⟨h1, _⟩ := h)))
      | (show FL _ _ _ _ _ _ _ _; (refine FL.au (k := ?_)))
      | (show Z _ _ _ _ _; (apply Z.sxL; exact rfl))
      | (show WL _ _ _ _ _ _ _; first | apply WL.nil | (refine WL.au (k := ?_)))
      | (show Z _ _ _ _ _; first | apply Z.then_normal | apply Z.block_normal)
      | (show W _ _ _ _ _ _; apply W.region))
    exact Z.againW ⟨by omega, (by (exact extA)), by rw [e1]; exact hS.ext hx⟩ ⟨rfl, rfl, rfl, congrArg (fun z => some (Value.int .i64 z)) (by simp; omega), rfl, rfl, trivial⟩
  obtain rfl : k = (ordL c.gates.2.2).length := by omega
  have e39 : cS3 c.t (ordL c.gates.2.2).length = cNet c.t := cS3_all c.t
  rw [e39] at hS hl1 hl2 hR1
  obtain ⟨A, hA⟩ : ∃ A, A = (cNet c.t).2 := ⟨_, rfl⟩
  rw [← hA] at hS hl2 hR1 ⊢
  have RA := hR1.row encI_ok
  have oki : ∀ l ∈ c.ins.2.2, LitOk A l := fun l hl => by rw [hA]; exact net_litOk hg hz (.inr (List.mem_append_left _ (List.mem_append_left _ hl)))
  have oku : ∀ l ∈ c.t.used, LitOk A l := fun l hl => by rw [hA]; exact net_litOk hg hz (.inl hl)
  have okw : ∀ l ∈ c.t.own, LitOk A l := fun l hl => by rw [hA]; exact net_litOk hg hz (.inr hl)
  have oko : ∀ l ∈ c.outs.2.2, LitOk A l := fun l hl => oku l (List.mem_append_left _ (List.mem_append_left _ (List.mem_append_left _ (List.mem_append_left _ hl))))
  have okb : ∀ l ∈ c.bads.2.2, LitOk A l := fun l hl => oku l (used_bad (c := c.t) hl)
  have okc : ∀ l ∈ c.cons.2.2, LitOk A l := fun l hl => oku l (used_con (c := c.t) hl)
  have z3 : c.outs.2.2.length ≤ 100000 := hz.2.2.1
  have z4 : c.bads.2.2.length ≤ 100000 := hz.2.2.2.1
  have z5 : c.cons.2.2.length ≤ 100000 := hz.2.2.2.2.1
  have hX6w : Ext w w6 := hxc.trans hX6
  have Ri6 := hC.ins.row.ext hX6w
  have Ro6 := hC.outs.row.ext hX6w
  have Rb6 := hC.bads.row.ext hX6w
  have Rc6 := hC.cons.row.ext hX6w
  clear y0 y1 y2 y3 y4 y5 y6
  obtain ⟨y0, y1, y2, y3, y4, y5, y6, y7, y8, _⟩ := hcells.ext hX6
  repeat' (first
    | (show WL _ _ _ _ _ _ _; first | apply WL.nil | (refine WL.au (k := ?_)))
    | (show Z _ _ _ _ _; apply Z.then_normal)
    | (show W _ _ _ _ _ _; first | apply W.seq | apply W.region))
  refine W.condKF rfl (dec_false (by omega)) ?_
  repeat' (first
    | (show Z _ _ _ _ _; first | apply Z.then_normal | apply Z.then_exit | apply Z.block_exit)
    | (show W _ _ _ _ _ _; first | apply W.seq | apply W.exit))
  have hall : ∀ (w9 : World) (L : List Int) (b : Option Addr) (cb : Nat), Ext w6 w9 → Row 1 encI w9 b L → (∀ l ∈ L, LitOk A l) → L.length ≤ 100000 → Lt.Spec Try.prog 91 [.slice d (c.max.toNat + 1) dp, .slice b L.length cb] w9 (IsFresh 1 encI 3 w9 (L.map (litI A))) := fun w9 L b cb h9 R9 ok9 n9 => by
    have := ref16_all d b dp cb A L w9 (RA.ext h9) R9 ok9 n9
    rw [hl2] at this; exact this
  refine W.cutT (σ := Nat × ((Option Addr × Nat) × (Option Addr × Nat) × (Option Addr × Nat) × (Option Addr × Nat)) × World) (fun s => Ext wc s.2.2 ∧ Lt.Sep wc.heap.size s.2.2 [pcell s.1 (([.int .i64 ((c.ins.2.2.length : Int) + c.lat.2.2.length + (ordL c.gates.2.2).length), .slice s.2.1.1.1 (c.ins.2.2.map (litI A)).length s.2.1.1.2, .slice none 0 0, .slice s.2.1.2.1.1 (c.outs.2.2.map (litI A)).length s.2.1.2.1.2, .slice s.2.1.2.2.1.1 (c.bads.2.2.map (litI A)).length s.2.1.2.2.1.2, .slice s.2.1.2.2.2.1 (c.cons.2.2.map (litI A)).length s.2.1.2.2.2.2, .slice none 0 0, rowVal c.syms, .string c.com] : List Value).toArray) 28, prow 1 encI 3 wc.heap.size s.2.1.2.2.2.1 s.2.1.2.2.2.2 (c.cons.2.2.map (litI A)), prow 1 encI 3 wc.heap.size s.2.1.2.2.1.1 s.2.1.2.2.1.2 (c.bads.2.2.map (litI A)), prow 1 encI 3 wc.heap.size s.2.1.2.1.1 s.2.1.2.1.2 (c.outs.2.2.map (litI A)), prow 1 encI 3 wc.heap.size s.2.1.1.1 s.2.1.1.2 (c.ins.2.2.map (litI A)), prow 1 encI 3 wc.heap.size ad cd OL, prow 1 encI 3 wc.heap.size d dp A, pcell g2 zC 28]) (fun s => [(1, .pointer (some ⟨gc, 0, none⟩)), (2, .pointer (some ⟨g2, 0, none⟩)), (4, .slice d (c.max.toNat + 1) dp), (6, .slice ad OL.length cd), (11, .pointer (some ⟨s.1, 0, none⟩))]) (fun s => s.2.2) ?_ ?_
  · skip
    repeat' (first
      | (show W _ _ (.region 21 _ _) _ _ _; apply W.regionGX (.fl true 0 (.fl true 1 (.fl true 2 (.fl true 5 (.fl true 6 (.fl true 9 (.fl true 10 (.fl true 13 (.fl true 14 (.fl true 17 (.fl true 19 (.fl false 3 (.fl false 7 (.fl false 11 (.fl false 15 (.fl false 18 (.fl false 20 (.br 4 (.br 8 (.br 12 (.br 16 (.fl true 21 (.br 22 (.br 23 .done .stop) .stop)) (.br 22 (.br 16 (.fl true 21 (.br 23 .done .stop)) .stop) .stop)) (.br 22 (.br 12 (.br 16 (.fl true 21 (.br 23 .done .stop)) .stop) .stop) .stop)) (.br 22 (.br 8 (.br 12 (.br 16 (.fl true 21 (.br 23 .done .stop)) .stop) .stop) .stop) .stop)) (.br 22 (.br 4 (.br 8 (.br 12 (.br 16 (.fl true 21 (.br 23 .done .stop)) .stop) .stop) .stop) .stop) .stop))))))))))))))))))) [4, 7, 8, 11, 12, 15, 16, 18, 20, 21, 22] tMix; kernel_rfl)
      | (((show WL _ _ _ (⟨_, .call ⟨.value (.func 91), _, _⟩, _, _, _, _⟩ :: _) _ _ _); apply WL.call; exact rfl; exact rfl; exact rfl; exact rfl; exact hall _ c.ins.2.2 _ _ (by (exact extA)) (Ri6.ext (by (exact extA))) oki z1; rintro v' w' ⟨hx, ai, ci, rfl, hO⟩; replace hS := Sep.newRow' (Sep.ext hS (by (exact extA))) hx hO (Below.size (by (exact extA))); clear hO))
      | (((show WL _ _ _ (⟨_, .call ⟨.value (.func 91), _, _⟩, _, _, _, _⟩ :: _) _ _ _); apply WL.call; exact rfl; exact rfl; exact rfl; exact rfl; exact hall _ c.outs.2.2 _ _ (by (exact extA)) (Ro6.ext (by (exact extA))) oko z3; rintro v' w' ⟨hx, ao, co, rfl, hO⟩; replace hS := Sep.newRow' (Sep.ext hS (by (exact extA))) hx hO (Below.size (by (exact extA))); clear hO))
      | (((show WL _ _ _ (⟨_, .call ⟨.value (.func 91), _, _⟩, _, _, _, _⟩ :: _) _ _ _); apply WL.call; exact rfl; exact rfl; exact rfl; exact rfl; exact hall _ c.bads.2.2 _ _ (by (exact extA)) (Rb6.ext (by (exact extA))) okb z4; rintro v' w' ⟨hx, ab, cb, rfl, hO⟩; replace hS := Sep.newRow' (Sep.ext hS (by (exact extA))) hx hO (Below.size (by (exact extA))); clear hO))
      | (((show WL _ _ _ (⟨_, .call ⟨.value (.func 91), _, _⟩, _, _, _, _⟩ :: _) _ _ _); apply WL.call; exact rfl; exact rfl; exact rfl; exact rfl; exact hall _ c.cons.2.2 _ _ (by (exact extA)) (Rc6.ext (by (exact extA))) okc z5; rintro v' w' ⟨hx, an, cn, rfl, hO⟩; replace hS := Sep.newRow' (Sep.ext hS (by (exact extA))) hx hO (Below.size (by (exact extA))); clear hO))
      | ((show FL _ _ _ _ (⟨_, .build 28 _, _, _, _, _⟩ :: _) _ _ _; apply FL.build (cs := [.int .i64 ((c.ins.2.2.length : Int) + c.lat.2.2.length + (ordL c.gates.2.2).length), .slice ai (c.ins.2.2.map (litI A)).length ci, .slice none 0 0, .slice ao (c.outs.2.2.map (litI A)).length co, .slice ab (c.bads.2.2.map (litI A)).length cb, .slice an (c.cons.2.2.map (litI A)).length cn, .slice none 0 0, rowVal c.syms, .string c.com]) tOk; exact rfl; exact rfl; exact rfl; exact rfl; exact rfl; exact rfl; (first | kernel_rfl | exact rfl); kernel_rfl))
      | (apply WL.alloc tOk; exact rfl; exact rfl; exact rfl; intro gb w' hb hge hx; (replace hS := Sep.newCell (Sep.ext hS (by (exact extA))) hx hb hge (Below.size (by (exact extA))); obtain ⟨g11, rfl⟩ : ∃ x, x = gb := ⟨_, rfl⟩))
      | (show SX _ _ _ _ _ _ _ _ _; first | (apply SX.fl0; exact rfl) | (apply SX.fl1; exact rfl; (exact extA)) | (apply SX.br1; exact rfl; intro w' hx) | (apply SX.br; exact rfl; (intro w' hx)))
      | (show FL _ _ _ _ _ _ _ _; first | apply FL.nilX | (apply FL.loadE tOk; exact rfl; exact rfl; exact rfl; exact rfl; exact rfl; assumption))
      | (show FL _ _ _ _ _ _ _ _; (refine FL.au (k := ?_)))
      | (show Z _ _ _ _ _; (apply Z.sxE; (exact extA)))
      | (show WL _ _ _ _ _ _ _; apply WL.nil))
    all_goals
      have hS5 : Lt.Sep wc.heap.size w' [pcell g11 zC 28, prow 1 encI 3 wc.heap.size an cn (c.cons.2.2.map (litI A)), prow 1 encI 3 wc.heap.size ab cb (c.bads.2.2.map (litI A)), prow 1 encI 3 wc.heap.size ao co (c.outs.2.2.map (litI A)), prow 1 encI 3 wc.heap.size ai ci (c.ins.2.2.map (litI A)), prow 1 encI 3 wc.heap.size ad cd OL, prow 1 encI 3 wc.heap.size d dp A, pcell g2 zC 28] := by
        rw [hzC] at hS ⊢
        exact Sep.ofPerm (by first | exact .refl _ | exact List.perm_middle (l₁ := [_]) | exact List.perm_middle (l₁ := [_, _]) | exact List.perm_middle (l₁ := [_, _, _]) | exact List.perm_middle (l₁ := [_, _, _, _])) (Sep.ext hS (by (exact extA)))
      have hc5 : w'.heap[g11]? = some (.cells (Value.cells (.agg #[.int .i64 0, .slice none 0 0, .slice none 0 0, .slice none 0 0, .slice none 0 0, .slice none 0 0, .slice none 0 0, .slice none 0 0, .string ⟨#[]⟩])) 28 (0, 0)) := by have := hS5.cell (i := 0) rfl; rw [hzC] at this; exact this
      have hg11 : wc.heap.size ≤ g11 := (hS5.lt (i := 0) rfl rfl).1
      have hXw : Ext wc w' := (by (exact extA))
      obtain ⟨w8, rfl⟩ : ∃ x, x = w' := ⟨_, rfl⟩
      clear hS hb hx
      repeat' (first
        | (apply WL.storeB (w0 := wc) tOk; exact rfl; exact rfl; exact rfl; exact rfl; assumption; (exact extA); exact rfl; exact rfl; exact rfl; (exact extA); (first | assumption | omega | (focus (apply Nat.le_trans; rotate_left; assumption; exact Below.size (by (exact extA)); done))); intro w' hb hc hX' hU; have hcc := hc; obtain ⟨h1, h2, _⟩ := hc)
        | (show SX _ _ _ _ _ _ _ _ _; (apply SX.done; intro w' hx))
        | (show Z _ _ _ _ _; (apply Z.sxL; exact rfl))
        | (show WL _ _ _ _ _ _ _; apply WL.nil))
      have hS6 := hS5.updCell (i := 0) rfl hU hb (by (exact extA)) (Below.size (by (exact extA)))
      exact Z.cut (g11, ((ai, ci), (ao, co), (ab, cb), (an, cn)), _) ⟨(by (exact extA)), Sep.ext hS6 (by (exact extA))⟩ ⟨rfl, rfl, rfl, rfl, rfl, trivial⟩ rfl
  clear hS hR1 RA hX6 y0 y1 y2 y3 y4 y5 y6 y7 y8 Ri6 Ro6 Rb6 Rc6 hX6w hall hR0 RO
  rintro ⟨g11, ⟨⟨ai, ci⟩, ⟨ao, co⟩, ⟨ab, cb⟩, ⟨an, cn⟩⟩, w7⟩ ⟨hX7, hS⟩
  dsimp only at hX7 hS ⊢
  obtain ⟨RS, hRS⟩ : ∃ RS, RS = [prow 1 encI 3 wc.heap.size an cn (c.cons.2.2.map (litI A)), prow 1 encI 3 wc.heap.size ab cb (c.bads.2.2.map (litI A)), prow 1 encI 3 wc.heap.size ao co (c.outs.2.2.map (litI A)), prow 1 encI 3 wc.heap.size ai ci (c.ins.2.2.map (litI A)), prow 1 encI 3 wc.heap.size ad cd OL, prow 1 encI 3 wc.heap.size d dp A, pcell g2 zC 28] := ⟨_, rfl⟩
  have hS0 : Lt.Sep wc.heap.size w7 (prow 3 enc3 69 wc.heap.size none 0 [] :: pcell g11 (([.int .i64 ((c.ins.2.2.length : Int) + c.lat.2.2.length + (ordL c.gates.2.2).length), .slice ai (c.ins.2.2.map (litI A)).length ci, .slice none ([] : List T3).length 0, .slice ao (c.outs.2.2.map (litI A)).length co, .slice ab (c.bads.2.2.map (litI A)).length cb, .slice an (c.cons.2.2.map (litI A)).length cn, .slice none ([] : List T3).length 0, rowVal c.syms, .string c.com] : List Value)).toArray 28 :: RS) := by rw [hRS]; exact Sep.newRow hS (Ext.refl _) Own.nil (fun k hk => by cases hk) (Below.size hX7)
  clear hS
  repeat' (first
    | (show WL _ _ _ _ _ _ _; first | apply WL.nil | (refine WL.au (k := ?_)))
    | (show Z _ _ _ _ _; apply Z.then_normal)
    | (show W _ _ _ _ _ _; first | apply W.seq | apply W.region | apply W.block))
  refine W.loopW c.lat.2.2.length (fun k w' => k ≤ c.lat.2.2.length ∧ Ext wc w' ∧ ∃ al cl, Lt.Sep wc.heap.size w' (prow 3 enc3 69 wc.heap.size al cl ((c.lat.2.2.take k).map (latR A)) :: pcell g11 (([.int .i64 ((c.ins.2.2.length : Int) + c.lat.2.2.length + (ordL c.gates.2.2).length), .slice ai (c.ins.2.2.map (litI A)).length ci, .slice al ((c.lat.2.2.take k).map (latR A)).length cl, .slice ao (c.outs.2.2.map (litI A)).length co, .slice ab (c.bads.2.2.map (litI A)).length cb, .slice an (c.cons.2.2.map (litI A)).length cn, .slice none ([] : List T3).length 0, rowVal c.syms, .string c.com] : List Value)).toArray 28 :: RS)) (fun k => [(1, .pointer (some ⟨gc, 0, none⟩)), (2, .pointer (some ⟨g2, 0, none⟩)), (4, .slice d (c.max.toNat + 1) dp), (6, .slice ad OL.length cd), (11, .pointer (some ⟨g11, 0, none⟩)), (12, .int .i64 k)]) ⟨Nat.zero_le _, hX7, none, 0, hS0⟩ (fun k w' h => h.1) ⟨rfl, rfl, rfl, rfl, rfl, rfl, trivial⟩ ?_
  clear hS0 hX7
  rintro k w8 ⟨hk, hX8, al, cl, hS⟩
  obtain ⟨y0, y1, y2, y3, y4, y5, y6, _⟩ := hcells.ext hX8
  have Rl8 := Rl.ext hX8
  have RA8 : Row 1 encI w8 d A := by
    rw [hRS] at hS
    exact (hS.row (i := 7) rfl).row encI_ok
  have hof : ∀ (l : Int), LitOk A l → ∀ w9, Ext w8 w9 → Pure Try.prog 92 [.slice d (c.max.toNat + 1) dp, .int .i64 l] w9 (.int .i64 (litI A l)) := fun l ok w9 h9 => by
    have := ref16_of d dp A l w9 (RA8.ext h9) ok
    rw [hl2] at this
    exact this.mono fun v w' ⟨h1, m, h2⟩ => ⟨h1, by rw [h2]; exact (Ext.refl _).at m⟩
  have hL : ((c.lat.2.2.take k).map (latR A)).length = k := by rw [List.length_map, List.length_take]; omega
  by_cases hlt : k < c.lat.2.2.length
  · obtain ⟨x, hgx⟩ := getI c.lat.2.2 hlt
    have hxm := List.mem_of_getElem? hgx
    have ok1 : LitOk A x.1 := okw x.1 (List.mem_append_left _ (List.mem_append_right _ (List.mem_map.2 ⟨x, hxm, rfl⟩)))
    have ok2 : LitOk A x.2.1 := oku x.2.1 (used_next (c := c.t) hxm)
    have e1 : (c.lat.2.2.take (k + 1)).map (latR A) = (c.lat.2.2.take k).map (latR A) ++ [latR A x] := by rw [take_succ' hgx, List.map_append]; rfl
    repeat' (first
      | (show WL _ _ _ _ _ _ _; first | apply WL.nil | (refine WL.au (k := ?_)))
      | (show Z _ _ _ _ _; apply Z.then_normal)
      | (show W _ _ _ _ _ _; first | apply W.seq | apply W.region))
    refine W.condKT rfl (dec_true (by omega)) ?_
    repeat' (first
      | (apply WL.alloc tOk; exact rfl; exact rfl; exact rfl; intro gb w' hb hge hx; (obtain ⟨g13, rfl⟩ : ∃ x, x = gb := ⟨_, rfl⟩; obtain ⟨hge13, rfl⟩ : ∃ x, x = hge := ⟨_, rfl⟩))
      | (apply WL.storeB (w0 := w8) tOk; exact rfl; exact rfl; exact rfl; exact rfl; assumption; (exact extA); exact rfl; exact rfl; exact rfl; (exact extA); (first | assumption | omega | (focus (apply Nat.le_trans; rotate_left; assumption; exact Below.size (by (exact extA)); done))); intro w' hb hc hX' hU; have hcc := hc; obtain ⟨h1, h2, _⟩ := hc; (obtain ⟨w9, rfl⟩ : ∃ x, x = w' := ⟨_, rfl⟩; obtain ⟨hb13, rfl⟩ : ∃ x, x = hb := ⟨_, rfl⟩; obtain ⟨hX9, rfl⟩ : ∃ x, x = hX' := ⟨_, rfl⟩; have hC13 := cells_heap hb13; obtain ⟨i0, i1, i2, _⟩ := hC13))
      | (show WL _ _ _ _ _ _ _; first | apply WL.nil | (refine WL.au (k := ?_)) | (apply WL.index tOk; exact rfl; exact rfl; exact rfl; exact rfl; exact rfl; exact rfl; exact rfl; exact rfl; assumption; (exact extA); exact rfl; omega; assumption; intro b off h; have hcc := h; first | (obtain ⟨h1, h2, h3, h4, h5, h6, _⟩ := h) | (obtain ⟨h1, h2, h3, _⟩ := h) | (obtain ⟨h1, h2, _⟩ := h) | (obtain ⟨h1, _⟩ := h)))
      | (show Z _ _ _ _ _; apply Z.then_normal)
      | (show W _ _ _ _ _ _; first | apply W.seq | apply W.region | apply W.block | apply W.skip))
    have hS9 := Sep.newCell hS hX9 hb13 hge13 (Below.size hX8)
    repeat' (first
      | (show W _ _ (.region 26 _ _) _ _ _; apply W.regionGX (.fl true 0 (.fl true 1 (.fl true 4 (.fl true 5 (.fl true 8 (.fl false 2 (.fl false 6 (.fl false 9 (.fl false 3 (.fl false 7 (.fl true 10 (.br 11 (.br 12 .done .stop) .stop)))))))))))) [3, 6, 7, 9, 10, 11] tMix; kernel_rfl)
      | (apply SX.flP; exact rfl; (exact extA); exact rfl; exact rfl; exact rfl; exact rfl; (focus (intro w9 hw9; exact hof x.1 ok1 _ (Ext.trans (by (exact extA)) hw9))))
      | (apply SX.flP; exact rfl; (exact extA); exact rfl; exact rfl; exact rfl; exact rfl; (focus (intro w9 hw9; exact hof x.2.1 ok2 _ (Ext.trans (by (exact extA)) hw9))))
      | ((show FL _ _ _ _ (⟨_, .build 69 _, _, _, _, _⟩ :: _) _ _ _; apply FL.build (cs := [.int .i64 (litI A x.1), .int .i64 (litI A x.2.1), .int .i64 x.2.2]) tOk; exact rfl; exact rfl; exact rfl; exact rfl; exact rfl; exact rfl; (first | kernel_rfl | exact rfl); kernel_rfl))
      | (apply WL.alloc tOk; exact rfl; exact rfl; exact rfl; intro gb w' hb hge hx; (obtain ⟨g14, rfl⟩ : ∃ x, x = gb := ⟨_, rfl⟩; obtain ⟨hge14, rfl⟩ : ∃ x, x = hge := ⟨_, rfl⟩))
      | (apply WL.storeB (w0 := w9) tOk; exact rfl; exact rfl; exact rfl; exact rfl; assumption; (exact extA); exact rfl; exact rfl; exact rfl; (exact extA); (first | assumption | omega | (focus (apply Nat.le_trans; rotate_left; assumption; exact Below.size (by (exact extA)); done))); intro w' hb hc hX' hU; have hcc := hc; obtain ⟨h1, h2, _⟩ := hc; (obtain ⟨w10, rfl⟩ : ∃ x, x = w' := ⟨_, rfl⟩; obtain ⟨hb14, rfl⟩ : ∃ x, x = hb := ⟨_, rfl⟩; obtain ⟨hX10, rfl⟩ : ∃ x, x = hX' := ⟨_, rfl⟩))
      | (show SX _ _ _ _ _ _ _ _ _; first | (apply SX.done; intro w' hx) | (apply SX.fl0; exact rfl) | (apply SX.fl1; exact rfl; (exact extA)) | (apply SX.br1; exact rfl; intro w' hx))
      | (show FL _ _ _ _ _ _ _ _; first | apply FL.nilX | (apply FL.loadE tOk; exact rfl; exact rfl; exact rfl; exact rfl; exact rfl; assumption))
      | (show FL _ _ _ _ _ _ _ _; (refine FL.au (k := ?_)))
      | (show Z _ _ _ _ _; first | (apply Z.sxL; exact rfl) | (apply Z.sxE; (exact extA)))
      | (show WL _ _ _ _ _ _ _; first | apply WL.nil | (refine WL.au (k := ?_)))
      | (show Z _ _ _ _ _; apply Z.then_normal)
      | (show W _ _ _ _ _ _; first | apply W.seq | apply W.region))
    have hS10 := Sep.newCell hS9 hX10 hb14 (Nat.le_trans (Below.size (show Ext w9 _ from (by (exact extA)))) hge14) (Below.size (hX8.trans hX9))
    have hXc : Ext wc w10 := hX8.trans (hX9.trans hX10)
    clear hS hS9 hU hcc h1 h2
    have hS := hS10
    clear hS10
    obtain ⟨m0, m1, m2, _⟩ := cells_heap (hS.cell (i := 0) rfl)
    obtain ⟨i0, i1, i2, _⟩ := cells_heap (hS.cell (i := 1) rfl)
    have hRl := hS.row (i := 2) rfl
    obtain ⟨n0, n1, n2, _⟩ := cells_heap (hS.cell (i := 3) rfl)
    by_cases hres : 1 < x.2.2
    · have e2 := latR_yes (A := A) hres
      skip
      refine W.condKT rfl (dec_true hres) ?_
      repeat' (first
        | (apply WL.storeF (w0 := wc) tOk; exact rfl; exact rfl; exact rfl; exact rfl; assumption; (exact extA); exact rfl; exact rfl; exact rfl; exact rfl; (exact extA); (first | assumption | omega | (focus (apply Nat.le_trans; rotate_left; assumption; exact Below.size (by (exact extA))))); intro w' hb hX' hU; replace hS := Sep.updCell (i := 0) rfl hU hb hS (by (exact extA)) (by (first | exact Nat.le_refl _ | exact Below.size (by (exact extA)))); (try simp only [List.set_cons_zero, List.set_cons_succ] at hS); (try have hR0 := hS.row (i := 0) rfl); (try have hR1 := hS.row (i := 1) rfl); (try have hR2 := hS.row (i := 2) rfl); (try have hR3 := hS.row (i := 3) rfl); (try have hR4 := hS.row (i := 4) rfl); (try have hC0 := hS.cell (i := 0) rfl); (try have hD0 := (cells_heap hC0).1); (try have hE0 := (cells_heap hC0).2.1); (try have hF0 := (cells_heap hC0).2.2.1); (try have hG0 := (cells_heap hC0).2.2.2.1); (try have hC1 := hS.cell (i := 1) rfl); (try have hD1 := (cells_heap hC1).1); (try have hE1 := (cells_heap hC1).2.1); (try have hF1 := (cells_heap hC1).2.2.1); (try have hG1 := (cells_heap hC1).2.2.2.1); (try have hC2 := hS.cell (i := 2) rfl); (try have hD2 := (cells_heap hC2).1); (try have hE2 := (cells_heap hC2).2.1); (try have hF2 := (cells_heap hC2).2.2.1); (try have hG2 := (cells_heap hC2).2.2.2.1); (try have hC3 := hS.cell (i := 3) rfl); (try have hD3 := (cells_heap hC3).1); (try have hE3 := (cells_heap hC3).2.1); (try have hF3 := (cells_heap hC3).2.2.1); (try have hG3 := (cells_heap hC3).2.2.2.1); (try have hC4 := hS.cell (i := 4) rfl); (try have hD4 := (cells_heap hC4).1); (try have hE4 := (cells_heap hC4).2.1); (try have hF4 := (cells_heap hC4).2.2.1); (try have hG4 := (cells_heap hC4).2.2.2.1); (try have hM0 := hS.map (i := 0) rfl); (try have hM1 := hS.map (i := 1) rfl); (try have hM2 := hS.map (i := 2) rfl); (try have hM3 := hS.map (i := 3) rfl); (try have hM4 := hS.map (i := 4) rfl))
        | (show WL _ _ _ _ _ _ _; first | apply WL.nil | (refine WL.au (k := ?_)))
        | (show Z _ _ _ _ _; apply Z.then_normal)
        | (show W _ _ _ _ _ _; apply W.region))
      obtain ⟨n0, n1, n2, _⟩ := cells_heap (hS.cell (i := 3) rfl)
      have hc14 : Cells w' g14 0 (enc3 (latR A x)) := by rw [e2]; exact cells_heap (hS.cell (i := 0) rfl)
      have hRl := hS.row (i := 2) rfl
      have hg11 : wc.heap.size ≤ g11 := (hS.lt (i := 3) rfl rfl).1
      obtain ⟨zz, hzz⟩ : ∃ zz, zz = latR A x := ⟨_, rfl⟩
      rw [← hzz] at hc14 e1
      clear e2 hzz
      repeat' (first
        | (apply WL.lit tOk; exact rfl; exact rfl; exact rfl; exact rfl; exact rfl; exact rfl; (first | exact rfl | kernel_rfl | (simp [Instr.fill, catCells]; done)); exact rfl; intro gb w' hb hge hc hx)
        | (apply WL.append1 (z := (zz)) tOk enc3_ok; exact rfl; exact rfl; exact rfl; exact rfl; exact rfl; exact rfl; exact rfl; exact rfl; exact rfl; exact rfl; assumption; (exact extA); (first | exact rfl | (focus (simp only [List.length_set]; done)) | (focus (simp; done)) | (focus (simp [*]; done)) | omega | (focus (simp only [List.length_set]; omega))); (first | assumption | (refine Cells.ext ?_ (by assumption); exact extA)); exact rfl; exact rfl; (exact extA); (first | omega | (simp; omega) | (simp at *; omega)); intro a' cap' w' hO hX' hU hF; (first | replace hS := Sep.updRow (i := 0) rfl hU hO hF hS (by (exact extA)) (by (first | exact Nat.le_refl _ | exact Below.size (by (exact extA)))) | replace hS := Sep.updRow (i := 1) rfl hU hO hF hS (by (exact extA)) (by (first | exact Nat.le_refl _ | exact Below.size (by (exact extA)))) | replace hS := Sep.updRow (i := 2) rfl hU hO hF hS (by (exact extA)) (by (first | exact Nat.le_refl _ | exact Below.size (by (exact extA)))) | replace hS := Sep.updRow (i := 3) rfl hU hO hF hS (by (exact extA)) (by (first | exact Nat.le_refl _ | exact Below.size (by (exact extA)))) | replace hS := Sep.updRow (i := 4) rfl hU hO hF hS (by (exact extA)) (by (first | exact Nat.le_refl _ | exact Below.size (by (exact extA)))) | replace hS := Sep.updRow (i := 5) rfl hU hO hF hS (by (exact extA)) (by (first | exact Nat.le_refl _ | exact Below.size (by (exact extA))))); (try simp only [List.set_cons_zero, List.set_cons_succ] at hS); (try have hR0 := hS.row (i := 0) rfl); (try have hR1 := hS.row (i := 1) rfl); (try have hR2 := hS.row (i := 2) rfl); (try have hR3 := hS.row (i := 3) rfl); (try have hR4 := hS.row (i := 4) rfl); (try have hC0 := hS.cell (i := 0) rfl); (try have hD0 := (cells_heap hC0).1); (try have hE0 := (cells_heap hC0).2.1); (try have hF0 := (cells_heap hC0).2.2.1); (try have hG0 := (cells_heap hC0).2.2.2.1); (try have hC1 := hS.cell (i := 1) rfl); (try have hD1 := (cells_heap hC1).1); (try have hE1 := (cells_heap hC1).2.1); (try have hF1 := (cells_heap hC1).2.2.1); (try have hG1 := (cells_heap hC1).2.2.2.1); (try have hC2 := hS.cell (i := 2) rfl); (try have hD2 := (cells_heap hC2).1); (try have hE2 := (cells_heap hC2).2.1); (try have hF2 := (cells_heap hC2).2.2.1); (try have hG2 := (cells_heap hC2).2.2.2.1); (try have hC3 := hS.cell (i := 3) rfl); (try have hD3 := (cells_heap hC3).1); (try have hE3 := (cells_heap hC3).2.1); (try have hF3 := (cells_heap hC3).2.2.1); (try have hG3 := (cells_heap hC3).2.2.2.1); (try have hC4 := hS.cell (i := 4) rfl); (try have hD4 := (cells_heap hC4).1); (try have hE4 := (cells_heap hC4).2.1); (try have hF4 := (cells_heap hC4).2.2.1); (try have hG4 := (cells_heap hC4).2.2.2.1); (try have hM0 := hS.map (i := 0) rfl); (try have hM1 := hS.map (i := 1) rfl); (try have hM2 := hS.map (i := 2) rfl); (try have hM3 := hS.map (i := 3) rfl); (try have hM4 := hS.map (i := 4) rfl))
        | (apply WL.storeF (w0 := wc) tOk; exact rfl; exact rfl; exact rfl; exact rfl; assumption; (exact extA); exact rfl; exact rfl; exact rfl; exact rfl; (exact extA); (first | assumption | omega | (focus (apply Nat.le_trans; rotate_left; assumption; exact Below.size (by (exact extA))))); intro w' hb hX' hU; replace hS := Sep.updCell (i := 3) rfl hU hb hS (by (exact extA)) (by (first | exact Nat.le_refl _ | exact Below.size (by (exact extA)))); (try simp only [List.set_cons_zero, List.set_cons_succ] at hS); (try have hR0 := hS.row (i := 0) rfl); (try have hR1 := hS.row (i := 1) rfl); (try have hR2 := hS.row (i := 2) rfl); (try have hR3 := hS.row (i := 3) rfl); (try have hR4 := hS.row (i := 4) rfl); (try have hC0 := hS.cell (i := 0) rfl); (try have hD0 := (cells_heap hC0).1); (try have hE0 := (cells_heap hC0).2.1); (try have hF0 := (cells_heap hC0).2.2.1); (try have hG0 := (cells_heap hC0).2.2.2.1); (try have hC1 := hS.cell (i := 1) rfl); (try have hD1 := (cells_heap hC1).1); (try have hE1 := (cells_heap hC1).2.1); (try have hF1 := (cells_heap hC1).2.2.1); (try have hG1 := (cells_heap hC1).2.2.2.1); (try have hC2 := hS.cell (i := 2) rfl); (try have hD2 := (cells_heap hC2).1); (try have hE2 := (cells_heap hC2).2.1); (try have hF2 := (cells_heap hC2).2.2.1); (try have hG2 := (cells_heap hC2).2.2.2.1); (try have hC3 := hS.cell (i := 3) rfl); (try have hD3 := (cells_heap hC3).1); (try have hE3 := (cells_heap hC3).2.1); (try have hF3 := (cells_heap hC3).2.2.1); (try have hG3 := (cells_heap hC3).2.2.2.1); (try have hC4 := hS.cell (i := 4) rfl); (try have hD4 := (cells_heap hC4).1); (try have hE4 := (cells_heap hC4).2.1); (try have hF4 := (cells_heap hC4).2.2.1); (try have hG4 := (cells_heap hC4).2.2.2.1); (try have hM0 := hS.map (i := 0) rfl); (try have hM1 := hS.map (i := 1) rfl); (try have hM2 := hS.map (i := 2) rfl); (try have hM3 := hS.map (i := 3) rfl); (try have hM4 := hS.map (i := 4) rfl))
        | (show WL _ _ _ _ _ _ _; first | apply WL.nil | (refine WL.au (k := ?_)))
        | (show Z _ _ _ _ _; first | apply Z.then_normal | apply Z.block_normal)
        | (show W _ _ _ _ _ _; apply W.region))
      exact Z.againW ⟨by omega, (by (exact extA)), a', cap', by rw [e1]; exact hS.drop 2⟩ ⟨rfl, rfl, rfl, rfl, rfl, rfl, trivial⟩
    · have e2 := latR_no (A := A) hres
      skip
      refine W.condKF rfl (dec_false hres) ?_
      have hc14 : Cells w10 g14 0 (enc3 (latR A x)) := by rw [e2]; exact cells_heap (hS.cell (i := 0) rfl)
      have hRl := hS.row (i := 2) rfl
      have hg11 : wc.heap.size ≤ g11 := (hS.lt (i := 3) rfl rfl).1
      obtain ⟨zz, hzz⟩ : ∃ zz, zz = latR A x := ⟨_, rfl⟩
      rw [← hzz] at hc14 e1
      clear e2 hzz
      repeat' (first
        | (apply WL.lit tOk; exact rfl; exact rfl; exact rfl; exact rfl; exact rfl; exact rfl; (first | exact rfl | kernel_rfl | (simp [Instr.fill, catCells]; done)); exact rfl; intro gb w' hb hge hc hx)
        | (apply WL.append1 (z := (zz)) tOk enc3_ok; exact rfl; exact rfl; exact rfl; exact rfl; exact rfl; exact rfl; exact rfl; exact rfl; exact rfl; exact rfl; assumption; (exact extA); (first | exact rfl | (focus (simp only [List.length_set]; done)) | (focus (simp; done)) | (focus (simp [*]; done)) | omega | (focus (simp only [List.length_set]; omega))); (first | assumption | (refine Cells.ext ?_ (by assumption); exact extA)); exact rfl; exact rfl; (exact extA); (first | omega | (simp; omega) | (simp at *; omega)); intro a' cap' w' hO hX' hU hF; (first | replace hS := Sep.updRow (i := 0) rfl hU hO hF hS (by (exact extA)) (by (first | exact Nat.le_refl _ | exact Below.size (by (exact extA)))) | replace hS := Sep.updRow (i := 1) rfl hU hO hF hS (by (exact extA)) (by (first | exact Nat.le_refl _ | exact Below.size (by (exact extA)))) | replace hS := Sep.updRow (i := 2) rfl hU hO hF hS (by (exact extA)) (by (first | exact Nat.le_refl _ | exact Below.size (by (exact extA)))) | replace hS := Sep.updRow (i := 3) rfl hU hO hF hS (by (exact extA)) (by (first | exact Nat.le_refl _ | exact Below.size (by (exact extA)))) | replace hS := Sep.updRow (i := 4) rfl hU hO hF hS (by (exact extA)) (by (first | exact Nat.le_refl _ | exact Below.size (by (exact extA)))) | replace hS := Sep.updRow (i := 5) rfl hU hO hF hS (by (exact extA)) (by (first | exact Nat.le_refl _ | exact Below.size (by (exact extA))))); (try simp only [List.set_cons_zero, List.set_cons_succ] at hS); (try have hR0 := hS.row (i := 0) rfl); (try have hR1 := hS.row (i := 1) rfl); (try have hR2 := hS.row (i := 2) rfl); (try have hR3 := hS.row (i := 3) rfl); (try have hR4 := hS.row (i := 4) rfl); (try have hC0 := hS.cell (i := 0) rfl); (try have hD0 := (cells_heap hC0).1); (try have hE0 := (cells_heap hC0).2.1); (try have hF0 := (cells_heap hC0).2.2.1); (try have hG0 := (cells_heap hC0).2.2.2.1); (try have hC1 := hS.cell (i := 1) rfl); (try have hD1 := (cells_heap hC1).1); (try have hE1 := (cells_heap hC1).2.1); (try have hF1 := (cells_heap hC1).2.2.1); (try have hG1 := (cells_heap hC1).2.2.2.1); (try have hC2 := hS.cell (i := 2) rfl); (try have hD2 := (cells_heap hC2).1); (try have hE2 := (cells_heap hC2).2.1); (try have hF2 := (cells_heap hC2).2.2.1); (try have hG2 := (cells_heap hC2).2.2.2.1); (try have hC3 := hS.cell (i := 3) rfl); (try have hD3 := (cells_heap hC3).1); (try have hE3 := (cells_heap hC3).2.1); (try have hF3 := (cells_heap hC3).2.2.1); (try have hG3 := (cells_heap hC3).2.2.2.1); (try have hC4 := hS.cell (i := 4) rfl); (try have hD4 := (cells_heap hC4).1); (try have hE4 := (cells_heap hC4).2.1); (try have hF4 := (cells_heap hC4).2.2.1); (try have hG4 := (cells_heap hC4).2.2.2.1); (try have hM0 := hS.map (i := 0) rfl); (try have hM1 := hS.map (i := 1) rfl); (try have hM2 := hS.map (i := 2) rfl); (try have hM3 := hS.map (i := 3) rfl); (try have hM4 := hS.map (i := 4) rfl))
        | (apply WL.storeF (w0 := wc) tOk; exact rfl; exact rfl; exact rfl; exact rfl; assumption; (exact extA); exact rfl; exact rfl; exact rfl; exact rfl; (exact extA); (first | assumption | omega | (focus (apply Nat.le_trans; rotate_left; assumption; exact Below.size (by (exact extA))))); intro w' hb hX' hU; replace hS := Sep.updCell (i := 3) rfl hU hb hS (by (exact extA)) (by (first | exact Nat.le_refl _ | exact Below.size (by (exact extA)))); (try simp only [List.set_cons_zero, List.set_cons_succ] at hS); (try have hR0 := hS.row (i := 0) rfl); (try have hR1 := hS.row (i := 1) rfl); (try have hR2 := hS.row (i := 2) rfl); (try have hR3 := hS.row (i := 3) rfl); (try have hR4 := hS.row (i := 4) rfl); (try have hC0 := hS.cell (i := 0) rfl); (try have hD0 := (cells_heap hC0).1); (try have hE0 := (cells_heap hC0).2.1); (try have hF0 := (cells_heap hC0).2.2.1); (try have hG0 := (cells_heap hC0).2.2.2.1); (try have hC1 := hS.cell (i := 1) rfl); (try have hD1 := (cells_heap hC1).1); (try have hE1 := (cells_heap hC1).2.1); (try have hF1 := (cells_heap hC1).2.2.1); (try have hG1 := (cells_heap hC1).2.2.2.1); (try have hC2 := hS.cell (i := 2) rfl); (try have hD2 := (cells_heap hC2).1); (try have hE2 := (cells_heap hC2).2.1); (try have hF2 := (cells_heap hC2).2.2.1); (try have hG2 := (cells_heap hC2).2.2.2.1); (try have hC3 := hS.cell (i := 3) rfl); (try have hD3 := (cells_heap hC3).1); (try have hE3 := (cells_heap hC3).2.1); (try have hF3 := (cells_heap hC3).2.2.1); (try have hG3 := (cells_heap hC3).2.2.2.1); (try have hC4 := hS.cell (i := 4) rfl); (try have hD4 := (cells_heap hC4).1); (try have hE4 := (cells_heap hC4).2.1); (try have hF4 := (cells_heap hC4).2.2.1); (try have hG4 := (cells_heap hC4).2.2.2.1); (try have hM0 := hS.map (i := 0) rfl); (try have hM1 := hS.map (i := 1) rfl); (try have hM2 := hS.map (i := 2) rfl); (try have hM3 := hS.map (i := 3) rfl); (try have hM4 := hS.map (i := 4) rfl))
        | (show WL _ _ _ _ _ _ _; first | apply WL.nil | (refine WL.au (k := ?_)))
        | (show Z _ _ _ _ _; first | apply Z.then_normal | apply Z.block_normal)
        | (show W _ _ _ _ _ _; first | apply W.region | apply W.skip))
      exact Z.againW ⟨by omega, (by (exact extA)), a', cap', by rw [e1]; exact hS.drop 2⟩ ⟨rfl, rfl, rfl, rfl, rfl, rfl, trivial⟩
  obtain rfl : k = c.lat.2.2.length := by omega
  rw [List.take_length] at hS hL
  repeat' (first
    | (show WL _ _ _ _ _ _ _; first | apply WL.nil | (refine WL.au (k := ?_)))
    | (show Z _ _ _ _ _; apply Z.then_normal)
    | (show W _ _ _ _ _ _; first | apply W.seq | apply W.region))
  refine W.condKF rfl (dec_false (by omega)) ?_
  repeat' (first
    | (show WL _ _ _ _ _ _ _; first | apply WL.nil | (refine WL.au (k := ?_)))
    | (show Z _ _ _ _ _; first | apply Z.then_normal | apply Z.then_exit | apply Z.block_exit)
    | (show W _ _ _ _ _ _; first | apply W.seq | apply W.region | apply W.block | apply W.exit))
  have hS0 : Lt.Sep wc.heap.size w8 (prow 3 enc3 106 wc.heap.size none 0 [] :: prow 3 enc3 69 wc.heap.size al cl (c.lat.2.2.map (latR A)) :: pcell g11 (([.int .i64 ((c.ins.2.2.length : Int) + c.lat.2.2.length + (ordL c.gates.2.2).length), .slice ai (c.ins.2.2.map (litI A)).length ci, .slice al (c.lat.2.2.map (latR A)).length cl, .slice ao (c.outs.2.2.map (litI A)).length co, .slice ab (c.bads.2.2.map (litI A)).length cb, .slice an (c.cons.2.2.map (litI A)).length cn, .slice none ([] : List T3).length 0, rowVal c.syms, .string c.com] : List Value)).toArray 28 :: RS) := Sep.newRow hS (Ext.refl _) Own.nil (fun k hk => by cases hk) (Below.size hX8)
  have hg0 : gatesR c.t 0 = [] := rfl
  refine W.loopW (ordL c.gates.2.2).length (fun k w' => k ≤ (ordL c.gates.2.2).length ∧ Ext wc w' ∧ ∃ ag cg, Lt.Sep wc.heap.size w' (prow 3 enc3 106 wc.heap.size ag cg (gatesR c.t k) :: prow 3 enc3 69 wc.heap.size al cl (c.lat.2.2.map (latR A)) :: pcell g11 (([.int .i64 ((c.ins.2.2.length : Int) + c.lat.2.2.length + (ordL c.gates.2.2).length), .slice ai (c.ins.2.2.map (litI A)).length ci, .slice al (c.lat.2.2.map (latR A)).length cl, .slice ao (c.outs.2.2.map (litI A)).length co, .slice ab (c.bads.2.2.map (litI A)).length cb, .slice an (c.cons.2.2.map (litI A)).length cn, .slice ag (gatesR c.t k).length cg, rowVal c.syms, .string c.com] : List Value)).toArray 28 :: RS)) (fun k => [(1, .pointer (some ⟨gc, 0, none⟩)), (2, .pointer (some ⟨g2, 0, none⟩)), (4, .slice d (c.max.toNat + 1) dp), (6, .slice ad OL.length cd), (11, .pointer (some ⟨g11, 0, none⟩)), (15, .int .i64 k)]) ⟨Nat.zero_le _, hX8, none, 0, hS0⟩ (fun k w' h => h.1) ⟨rfl, rfl, rfl, rfl, rfl, rfl, trivial⟩ ?_
  clear hS0 hX8 hS RA8 hof y0 y1 y2 y3 y4 y5 y6
  rintro k w8 ⟨hk, hX8, ag, cg, hS⟩
  obtain ⟨y0, y1, y2, y3, y4, y5, y6, _⟩ := hcells.ext hX8
  have Rg8 := Rg.ext hX8
  have hSr := hS
  rw [hRS] at hSr
  have RA8 : Row 1 encI w8 d A := (hSr.row (i := 8) rfl).row encI_ok
  have RO8 : Row 1 encI w8 ad OL := (hSr.row (i := 7) rfl).row encI_ok
  have hof : ∀ (l : Int), LitOk A l → ∀ w9, Ext w8 w9 → Pure Try.prog 92 [.slice d (c.max.toNat + 1) dp, .int .i64 l] w9 (.int .i64 (litI A l)) := fun l ok w9 h9 => by
    have := ref16_of d dp A l w9 (RA8.ext h9) ok
    rw [hl2] at this
    exact this.mono fun v w' ⟨h1, m, h2⟩ => ⟨h1, by rw [h2]; exact (Ext.refl _).at m⟩
  have hL2 : (gatesR c.t k).length = k := gatesR_len (c := c.t) hk
  by_cases hlt : k < (ordL c.gates.2.2).length
  · obtain ⟨i, hi⟩ := getI (ordL c.gates.2.2) hlt
    obtain ⟨x, hgg⟩ := getI c.gates.2.2 ((ordL_is c.gates.2.2).1.lt i (List.mem_of_getElem? hi))
    have hxm := List.mem_of_getElem? hgg
    obtain ⟨r1, r2, r3⟩ := hgm x hxm
    have ok1 := okw x.1 r1
    have ok2 := oku x.2.1 r2
    have ok3 := oku x.2.2 r3
    have hni : OL[((k : Nat) : Int).toNat]? = some (i : Int) := by rw [Int.toNat_natCast, hOL, natI, List.getElem?_map, hi]; rfl
    have hgi : c.gates.2.2[((i : Nat) : Int).toNat]? = some x := by rw [Int.toNat_natCast]; exact hgg
    have e1 : gatesR c.t (k + 1) = gatesR c.t k ++ [gateR A x] := by rw [hA]; exact gatesR_s (c := c.t) hi hgg
    repeat' (first
      | (show WL _ _ _ _ _ _ _; first | apply WL.nil | (refine WL.au (k := ?_)))
      | (show Z _ _ _ _ _; apply Z.then_normal)
      | (show W _ _ _ _ _ _; first | apply W.seq | apply W.region))
    refine W.condKT rfl (dec_true (by omega)) ?_
    repeat' (first
      | (show W _ _ (.region 33 _ _) _ _ _; apply W.regionGX (.fl true 0 (.fl true 2 (.fl true 3 (.fl true 4 (.fl false 1 (.fl false 5 (.fl true 6 (.fl false 7 (.br 8 (.br 9 .done .stop) .stop))))))))) [5, 7, 8] tMix; kernel_rfl)
      | (apply WL.alloc tOk; exact rfl; exact rfl; exact rfl; intro gb w' hb hge hx; (obtain ⟨g16, rfl⟩ : ∃ x, x = gb := ⟨_, rfl⟩; obtain ⟨hge16, rfl⟩ : ∃ x, x = hge := ⟨_, rfl⟩))
      | (apply WL.storeB (w0 := w8) tOk; exact rfl; exact rfl; exact rfl; exact rfl; assumption; (exact extA); exact rfl; exact rfl; exact rfl; (exact extA); (first | assumption | omega | (focus (apply Nat.le_trans; rotate_left; assumption; exact Below.size (by (exact extA)); done))); intro w' hb hc hX' hU; have hcc := hc; obtain ⟨h1, h2, _⟩ := hc; (obtain ⟨w9, rfl⟩ : ∃ x, x = w' := ⟨_, rfl⟩; obtain ⟨hb16, rfl⟩ : ∃ x, x = hb := ⟨_, rfl⟩; obtain ⟨hX9, rfl⟩ : ∃ x, x = hX' := ⟨_, rfl⟩; have hC16 := cells_heap hb16; obtain ⟨i0, i1, i2, _⟩ := hC16))
      | (show SX _ _ _ _ _ _ _ _ _; first | (apply SX.done; intro w' hx) | (apply SX.fl0; exact rfl) | (apply SX.fl1; exact rfl; (exact extA)) | (apply SX.br1; exact rfl; intro w' hx))
      | (show FL _ _ _ _ _ _ _ _; first | apply FL.nilX | (apply FL.loadE tOk; exact rfl; exact rfl; exact rfl; exact rfl; exact rfl; assumption) | (apply FL.loadAE tOk; exact rfl; exact rfl; exact rfl; exact rfl; exact rfl; assumption; exact rfl) | (apply FL.indexE tOk; exact rfl; exact rfl; exact rfl; exact rfl; exact rfl; exact rfl; exact rfl; exact rfl; assumption; exact rfl; omega; assumption; intro b off h; have hcc := h; first | (obtain ⟨h1, h2, h3, h4, h5, h6, _⟩ := h) | (obtain ⟨h1, h2, h3, _⟩ := h) | (obtain ⟨h1, h2, _⟩ := h) | (obtain ⟨h1, _⟩ := h)))
      | (show FL _ _ _ _ _ _ _ _; (refine FL.au (k := ?_)))
      | (show Z _ _ _ _ _; first | (apply Z.sxL; exact rfl) | (apply Z.sxE; (exact extA)))
      | (show WL _ _ _ _ _ _ _; apply WL.nil)
      | (show Z _ _ _ _ _; apply Z.then_normal)
      | (show W _ _ _ _ _ _; first | apply W.seq | apply W.block | apply W.skip))
    have hS9 := Sep.newCell hS hX9 hb16 (Nat.le_trans (Below.size (show Ext w8 _ from (by (exact extA)))) hge16) (Below.size hX8)
    have hXc : Ext wc w9 := hX8.trans hX9
    clear hS hU hcc h1 h2
    have hS : Lt.Sep wc.heap.size w' (prow 3 enc3 106 wc.heap.size ag cg (gatesR c.t k) :: prow 3 enc3 69 wc.heap.size al cl (c.lat.2.2.map (latR A)) :: pcell g11 (([.int .i64 ((c.ins.2.2.length : Int) + c.lat.2.2.length + (ordL c.gates.2.2).length), .slice ai (c.ins.2.2.map (litI A)).length ci, .slice al (c.lat.2.2.map (latR A)).length cl, .slice ao (c.outs.2.2.map (litI A)).length co, .slice ab (c.bads.2.2.map (litI A)).length cb, .slice an (c.cons.2.2.map (litI A)).length cn, .slice ag (gatesR c.t k).length cg, rowVal c.syms, .string c.com] : List Value)).toArray 28 :: RS) := Sep.ext (hS9.drop 1) (show Ext w9 w' from (by (exact extA)))
    have hX10 : Ext w9 w' := (by (exact extA))
    clear i0 i1 i2
    have hC16 := cells_heap (hb16.trans rfl)
    obtain ⟨i0, i1, i2, _⟩ := Cells.ext hX10 hC16
    have hRg := hS.row (i := 0) rfl
    have hg11 : wc.heap.size ≤ g11 := (hS.lt (i := 2) rfl rfl).1
    have hc11 := hS.cell (i := 2) rfl
    obtain ⟨n0, n1, n2, n3, n4, n5, n6, _⟩ := cells_heap (hS.cell (i := 2) rfl)
    obtain ⟨w10, rfl⟩ : ∃ x, x = w' := ⟨_, rfl⟩
    have hof9 := fun (l : Int) (ok : LitOk A l) (w0 : World) (h0 : Ext w9 w0) => hof l ok w0 (hX9.trans h0)
    have hA4 : True := trivial
    repeat' (first
      | (show W _ _ (.region 34 _ _) _ _ _; apply W.regionGX (.fl true 0 (.fl true 1 (.fl true 4 (.fl true 5 (.fl false 2 (.fl false 6 (.fl false 3 (.fl false 7 (.fl true 8 (.fl true 9 .done)))))))))) [3, 6, 7, 8] tMix; kernel_rfl)
      | (apply SX.flP; exact rfl; (exact extA); exact rfl; exact rfl; exact rfl; exact rfl; (focus (intro w9 hw9; exact hof x.2.1 ok2 _ (Ext.trans (by (exact extA)) hw9))))
      | (apply SX.flP; exact rfl; (exact extA); exact rfl; exact rfl; exact rfl; exact rfl; (focus (intro w9 hw9; exact hof x.2.2 ok3 _ (Ext.trans (by (exact extA)) hw9))))
      | (show SX _ _ _ _ _ _ _ _ _; first | (apply SX.done; intro w' hx) | (apply SX.fl0; exact rfl) | (apply SX.fl1; exact rfl; (exact extA)))
      | (show FL _ _ _ _ _ _ _ _; first | apply FL.nilX | (apply FL.loadE tOk; exact rfl; exact rfl; exact rfl; exact rfl; exact rfl; assumption))
      | (show FL _ _ _ _ _ _ _ _; (refine FL.au (k := ?_)))
      | (show WL _ _ _ _ _ _ _; first | apply WL.nil | (refine WL.au (k := ?_)))
      | (show Z _ _ _ _ _; apply Z.then_normal)
      | (show W _ _ _ _ _ _; first | apply W.seq | apply W.region))
    have hX11 : Ext w10 w' := (by (exact extA))
    obtain ⟨w11, rfl⟩ : ∃ x, x = w' := ⟨_, rfl⟩
    replace i0 := hX11.cell i0
    replace i1 := hX11.cell i1
    replace i2 := hX11.cell i2
    replace n0 := hX11.cell n0
    replace n1 := hX11.cell n1
    replace n2 := hX11.cell n2
    replace n3 := hX11.cell n3
    replace n4 := hX11.cell n4
    replace n5 := hX11.cell n5
    replace n6 := hX11.cell n6
    by_cases hab : litI A x.2.1 < litI A x.2.2
    · skip
      have e2 : gateR A x = (litI A x.1, litI A x.2.2, litI A x.2.1) := by unfold gateR; rw [show max (litI A x.2.1) (litI A x.2.2) = litI A x.2.2 by omega, show min (litI A x.2.1) (litI A x.2.2) = litI A x.2.1 by omega]
      rw [e2] at e1
      skip
      refine W.condKT rfl (dec_true hab) ?_
      repeat' (first
        | (show W _ _ (.region 37 _ _) _ _ _; apply W.regionGX (.fl true 0 (.fl true 2 (.fl true 3 (.fl true 6 (.fl true 7 (.fl false 1 (.br 4 (.fl false 5 (.fl true 8 (.br 9 (.br 10 (.fl true 11 (.br 12 .done .stop)) .stop) .stop))) .stop))))))) [4, 5, 8, 9] tMix; kernel_rfl)
        | (apply SX.flP; exact rfl; (exact extA); exact rfl; exact rfl; exact rfl; exact rfl; (focus (intro w9 hw9; exact hof x.1 ok1 _ (Ext.trans (by (exact extA)) hw9))))
        | ((show FL _ _ _ _ (⟨_, .build 106 _, _, _, _, _⟩ :: _) _ _ _; apply FL.build (cs := [.int .i64 (litI A x.1), .int .i64 (litI A x.2.2), .int .i64 (litI A x.2.1)]) tOk; exact rfl; exact rfl; exact rfl; exact rfl; exact rfl; exact rfl; (first | kernel_rfl | exact rfl); kernel_rfl))
        | (apply WL.lit tOk; exact rfl; exact rfl; exact rfl; exact rfl; exact rfl; exact rfl; (first | exact rfl | kernel_rfl | (simp [Instr.fill, catCells]; done)); exact rfl; intro gb w' hb hge hc hx)
        | (apply WL.append1 (z := (((litI A x.1, litI A x.2.2, litI A x.2.1) : T3))) tOk enc3_ok; exact rfl; exact rfl; exact rfl; exact rfl; exact rfl; exact rfl; exact rfl; exact rfl; exact rfl; exact rfl; assumption; (exact extA); (first | exact rfl | (focus (simp only [List.length_set]; done)) | (focus (simp; done)) | (focus (simp [*]; done)) | omega | (focus (simp only [List.length_set]; omega))); (first | assumption | (refine Cells.ext ?_ (by assumption); exact extA)); exact rfl; exact rfl; (exact extA); (first | omega | (simp; omega) | (simp at *; omega)); intro a' cap' w' hO hX' hU hF; (first | replace hS := Sep.updRow (i := 0) rfl hU hO hF hS (by (exact extA)) (by (first | exact Nat.le_refl _ | exact Below.size (by (exact extA)))) | replace hS := Sep.updRow (i := 1) rfl hU hO hF hS (by (exact extA)) (by (first | exact Nat.le_refl _ | exact Below.size (by (exact extA)))) | replace hS := Sep.updRow (i := 2) rfl hU hO hF hS (by (exact extA)) (by (first | exact Nat.le_refl _ | exact Below.size (by (exact extA)))) | replace hS := Sep.updRow (i := 3) rfl hU hO hF hS (by (exact extA)) (by (first | exact Nat.le_refl _ | exact Below.size (by (exact extA)))) | replace hS := Sep.updRow (i := 4) rfl hU hO hF hS (by (exact extA)) (by (first | exact Nat.le_refl _ | exact Below.size (by (exact extA)))) | replace hS := Sep.updRow (i := 5) rfl hU hO hF hS (by (exact extA)) (by (first | exact Nat.le_refl _ | exact Below.size (by (exact extA))))); (try simp only [List.set_cons_zero, List.set_cons_succ] at hS); (try have hR0 := hS.row (i := 0) rfl); (try have hR1 := hS.row (i := 1) rfl); (try have hR2 := hS.row (i := 2) rfl); (try have hR3 := hS.row (i := 3) rfl); (try have hR4 := hS.row (i := 4) rfl); (try have hC0 := hS.cell (i := 0) rfl); (try have hD0 := (cells_heap hC0).1); (try have hE0 := (cells_heap hC0).2.1); (try have hF0 := (cells_heap hC0).2.2.1); (try have hG0 := (cells_heap hC0).2.2.2.1); (try have hC1 := hS.cell (i := 1) rfl); (try have hD1 := (cells_heap hC1).1); (try have hE1 := (cells_heap hC1).2.1); (try have hF1 := (cells_heap hC1).2.2.1); (try have hG1 := (cells_heap hC1).2.2.2.1); (try have hC2 := hS.cell (i := 2) rfl); (try have hD2 := (cells_heap hC2).1); (try have hE2 := (cells_heap hC2).2.1); (try have hF2 := (cells_heap hC2).2.2.1); (try have hG2 := (cells_heap hC2).2.2.2.1); (try have hC3 := hS.cell (i := 3) rfl); (try have hD3 := (cells_heap hC3).1); (try have hE3 := (cells_heap hC3).2.1); (try have hF3 := (cells_heap hC3).2.2.1); (try have hG3 := (cells_heap hC3).2.2.2.1); (try have hC4 := hS.cell (i := 4) rfl); (try have hD4 := (cells_heap hC4).1); (try have hE4 := (cells_heap hC4).2.1); (try have hF4 := (cells_heap hC4).2.2.1); (try have hG4 := (cells_heap hC4).2.2.2.1); (try have hM0 := hS.map (i := 0) rfl); (try have hM1 := hS.map (i := 1) rfl); (try have hM2 := hS.map (i := 2) rfl); (try have hM3 := hS.map (i := 3) rfl); (try have hM4 := hS.map (i := 4) rfl))
        | (apply WL.storeF (w0 := wc) tOk; exact rfl; exact rfl; exact rfl; exact rfl; assumption; (exact extA); exact rfl; exact rfl; exact rfl; exact rfl; (exact extA); (first | assumption | omega | (focus (apply Nat.le_trans; rotate_left; assumption; exact Below.size (by (exact extA))))); intro w' hb hX' hU; replace hS := Sep.updCell (i := 2) rfl hU hb hS (by (exact extA)) (by (first | exact Nat.le_refl _ | exact Below.size (by (exact extA)))); (try simp only [List.set_cons_zero, List.set_cons_succ] at hS); (try have hR0 := hS.row (i := 0) rfl); (try have hR1 := hS.row (i := 1) rfl); (try have hR2 := hS.row (i := 2) rfl); (try have hR3 := hS.row (i := 3) rfl); (try have hR4 := hS.row (i := 4) rfl); (try have hC0 := hS.cell (i := 0) rfl); (try have hD0 := (cells_heap hC0).1); (try have hE0 := (cells_heap hC0).2.1); (try have hF0 := (cells_heap hC0).2.2.1); (try have hG0 := (cells_heap hC0).2.2.2.1); (try have hC1 := hS.cell (i := 1) rfl); (try have hD1 := (cells_heap hC1).1); (try have hE1 := (cells_heap hC1).2.1); (try have hF1 := (cells_heap hC1).2.2.1); (try have hG1 := (cells_heap hC1).2.2.2.1); (try have hC2 := hS.cell (i := 2) rfl); (try have hD2 := (cells_heap hC2).1); (try have hE2 := (cells_heap hC2).2.1); (try have hF2 := (cells_heap hC2).2.2.1); (try have hG2 := (cells_heap hC2).2.2.2.1); (try have hC3 := hS.cell (i := 3) rfl); (try have hD3 := (cells_heap hC3).1); (try have hE3 := (cells_heap hC3).2.1); (try have hF3 := (cells_heap hC3).2.2.1); (try have hG3 := (cells_heap hC3).2.2.2.1); (try have hC4 := hS.cell (i := 4) rfl); (try have hD4 := (cells_heap hC4).1); (try have hE4 := (cells_heap hC4).2.1); (try have hF4 := (cells_heap hC4).2.2.1); (try have hG4 := (cells_heap hC4).2.2.2.1); (try have hM0 := hS.map (i := 0) rfl); (try have hM1 := hS.map (i := 1) rfl); (try have hM2 := hS.map (i := 2) rfl); (try have hM3 := hS.map (i := 3) rfl); (try have hM4 := hS.map (i := 4) rfl))
        | (show SX _ _ _ _ _ _ _ _ _; first | (apply SX.done; intro w' hx) | (apply SX.fl0; exact rfl) | (apply SX.fl1; exact rfl; (exact extA)) | (apply SX.br1; exact rfl; intro w' hx))
        | (show FL _ _ _ _ _ _ _ _; first | apply FL.nilX | (apply FL.loadE tOk; exact rfl; exact rfl; exact rfl; exact rfl; exact rfl; assumption))
        | (show FL _ _ _ _ _ _ _ _; (refine FL.au (k := ?_)))
        | (show Z _ _ _ _ _; first | (apply Z.sxL; exact rfl) | (apply Z.sxE; (exact extA)))
        | (show WL _ _ _ _ _ _ _; first | apply WL.nil | (refine WL.au (k := ?_)))
        | (show Z _ _ _ _ _; first | apply Z.then_normal | apply Z.block_normal)
        | (show W _ _ _ _ _ _; apply W.region))
      exact Z.againW ⟨by omega, (by (exact extA)), a', cap', by rw [e1]; exact Sep.ext hS (by (exact extA))⟩ ⟨rfl, rfl, rfl, rfl, rfl, rfl, trivial⟩
    · skip
      have e2 : gateR A x = (litI A x.1, litI A x.2.1, litI A x.2.2) := by unfold gateR; rw [show max (litI A x.2.1) (litI A x.2.2) = litI A x.2.1 by omega, show min (litI A x.2.1) (litI A x.2.2) = litI A x.2.2 by omega]
      rw [e2] at e1
      skip
      refine W.condKF rfl (dec_false hab) ?_
      repeat' (first
        | (show W _ _ (.region 37 _ _) _ _ _; apply W.regionGX (.fl true 0 (.fl true 2 (.fl true 3 (.fl true 6 (.fl true 7 (.fl false 1 (.br 4 (.fl false 5 (.fl true 8 (.br 9 (.br 10 (.fl true 11 (.br 12 .done .stop)) .stop) .stop))) .stop))))))) [4, 5, 8, 9] tMix; kernel_rfl)
        | (apply SX.flP; exact rfl; (exact extA); exact rfl; exact rfl; exact rfl; exact rfl; (focus (intro w9 hw9; exact hof x.1 ok1 _ (Ext.trans (by (exact extA)) hw9))))
        | ((show FL _ _ _ _ (⟨_, .build 106 _, _, _, _, _⟩ :: _) _ _ _; apply FL.build (cs := [.int .i64 (litI A x.1), .int .i64 (litI A x.2.1), .int .i64 (litI A x.2.2)]) tOk; exact rfl; exact rfl; exact rfl; exact rfl; exact rfl; exact rfl; (first | kernel_rfl | exact rfl); kernel_rfl))
        | (apply WL.lit tOk; exact rfl; exact rfl; exact rfl; exact rfl; exact rfl; exact rfl; (first | exact rfl | kernel_rfl | (simp [Instr.fill, catCells]; done)); exact rfl; intro gb w' hb hge hc hx)
        | (apply WL.append1 (z := (((litI A x.1, litI A x.2.1, litI A x.2.2) : T3))) tOk enc3_ok; exact rfl; exact rfl; exact rfl; exact rfl; exact rfl; exact rfl; exact rfl; exact rfl; exact rfl; exact rfl; assumption; (exact extA); (first | exact rfl | (focus (simp only [List.length_set]; done)) | (focus (simp; done)) | (focus (simp [*]; done)) | omega | (focus (simp only [List.length_set]; omega))); (first | assumption | (refine Cells.ext ?_ (by assumption); exact extA)); exact rfl; exact rfl; (exact extA); (first | omega | (simp; omega) | (simp at *; omega)); intro a' cap' w' hO hX' hU hF; (first | replace hS := Sep.updRow (i := 0) rfl hU hO hF hS (by (exact extA)) (by (first | exact Nat.le_refl _ | exact Below.size (by (exact extA)))) | replace hS := Sep.updRow (i := 1) rfl hU hO hF hS (by (exact extA)) (by (first | exact Nat.le_refl _ | exact Below.size (by (exact extA)))) | replace hS := Sep.updRow (i := 2) rfl hU hO hF hS (by (exact extA)) (by (first | exact Nat.le_refl _ | exact Below.size (by (exact extA)))) | replace hS := Sep.updRow (i := 3) rfl hU hO hF hS (by (exact extA)) (by (first | exact Nat.le_refl _ | exact Below.size (by (exact extA)))) | replace hS := Sep.updRow (i := 4) rfl hU hO hF hS (by (exact extA)) (by (first | exact Nat.le_refl _ | exact Below.size (by (exact extA)))) | replace hS := Sep.updRow (i := 5) rfl hU hO hF hS (by (exact extA)) (by (first | exact Nat.le_refl _ | exact Below.size (by (exact extA))))); (try simp only [List.set_cons_zero, List.set_cons_succ] at hS); (try have hR0 := hS.row (i := 0) rfl); (try have hR1 := hS.row (i := 1) rfl); (try have hR2 := hS.row (i := 2) rfl); (try have hR3 := hS.row (i := 3) rfl); (try have hR4 := hS.row (i := 4) rfl); (try have hC0 := hS.cell (i := 0) rfl); (try have hD0 := (cells_heap hC0).1); (try have hE0 := (cells_heap hC0).2.1); (try have hF0 := (cells_heap hC0).2.2.1); (try have hG0 := (cells_heap hC0).2.2.2.1); (try have hC1 := hS.cell (i := 1) rfl); (try have hD1 := (cells_heap hC1).1); (try have hE1 := (cells_heap hC1).2.1); (try have hF1 := (cells_heap hC1).2.2.1); (try have hG1 := (cells_heap hC1).2.2.2.1); (try have hC2 := hS.cell (i := 2) rfl); (try have hD2 := (cells_heap hC2).1); (try have hE2 := (cells_heap hC2).2.1); (try have hF2 := (cells_heap hC2).2.2.1); (try have hG2 := (cells_heap hC2).2.2.2.1); (try have hC3 := hS.cell (i := 3) rfl); (try have hD3 := (cells_heap hC3).1); (try have hE3 := (cells_heap hC3).2.1); (try have hF3 := (cells_heap hC3).2.2.1); (try have hG3 := (cells_heap hC3).2.2.2.1); (try have hC4 := hS.cell (i := 4) rfl); (try have hD4 := (cells_heap hC4).1); (try have hE4 := (cells_heap hC4).2.1); (try have hF4 := (cells_heap hC4).2.2.1); (try have hG4 := (cells_heap hC4).2.2.2.1); (try have hM0 := hS.map (i := 0) rfl); (try have hM1 := hS.map (i := 1) rfl); (try have hM2 := hS.map (i := 2) rfl); (try have hM3 := hS.map (i := 3) rfl); (try have hM4 := hS.map (i := 4) rfl))
        | (apply WL.storeF (w0 := wc) tOk; exact rfl; exact rfl; exact rfl; exact rfl; assumption; (exact extA); exact rfl; exact rfl; exact rfl; exact rfl; (exact extA); (first | assumption | omega | (focus (apply Nat.le_trans; rotate_left; assumption; exact Below.size (by (exact extA))))); intro w' hb hX' hU; replace hS := Sep.updCell (i := 2) rfl hU hb hS (by (exact extA)) (by (first | exact Nat.le_refl _ | exact Below.size (by (exact extA)))); (try simp only [List.set_cons_zero, List.set_cons_succ] at hS); (try have hR0 := hS.row (i := 0) rfl); (try have hR1 := hS.row (i := 1) rfl); (try have hR2 := hS.row (i := 2) rfl); (try have hR3 := hS.row (i := 3) rfl); (try have hR4 := hS.row (i := 4) rfl); (try have hC0 := hS.cell (i := 0) rfl); (try have hD0 := (cells_heap hC0).1); (try have hE0 := (cells_heap hC0).2.1); (try have hF0 := (cells_heap hC0).2.2.1); (try have hG0 := (cells_heap hC0).2.2.2.1); (try have hC1 := hS.cell (i := 1) rfl); (try have hD1 := (cells_heap hC1).1); (try have hE1 := (cells_heap hC1).2.1); (try have hF1 := (cells_heap hC1).2.2.1); (try have hG1 := (cells_heap hC1).2.2.2.1); (try have hC2 := hS.cell (i := 2) rfl); (try have hD2 := (cells_heap hC2).1); (try have hE2 := (cells_heap hC2).2.1); (try have hF2 := (cells_heap hC2).2.2.1); (try have hG2 := (cells_heap hC2).2.2.2.1); (try have hC3 := hS.cell (i := 3) rfl); (try have hD3 := (cells_heap hC3).1); (try have hE3 := (cells_heap hC3).2.1); (try have hF3 := (cells_heap hC3).2.2.1); (try have hG3 := (cells_heap hC3).2.2.2.1); (try have hC4 := hS.cell (i := 4) rfl); (try have hD4 := (cells_heap hC4).1); (try have hE4 := (cells_heap hC4).2.1); (try have hF4 := (cells_heap hC4).2.2.1); (try have hG4 := (cells_heap hC4).2.2.2.1); (try have hM0 := hS.map (i := 0) rfl); (try have hM1 := hS.map (i := 1) rfl); (try have hM2 := hS.map (i := 2) rfl); (try have hM3 := hS.map (i := 3) rfl); (try have hM4 := hS.map (i := 4) rfl))
        | (show SX _ _ _ _ _ _ _ _ _; first | (apply SX.done; intro w' hx) | (apply SX.fl0; exact rfl) | (apply SX.fl1; exact rfl; (exact extA)) | (apply SX.br1; exact rfl; intro w' hx))
        | (show FL _ _ _ _ _ _ _ _; first | apply FL.nilX | (apply FL.loadE tOk; exact rfl; exact rfl; exact rfl; exact rfl; exact rfl; assumption))
        | (show FL _ _ _ _ _ _ _ _; (refine FL.au (k := ?_)))
        | (show Z _ _ _ _ _; first | (apply Z.sxL; exact rfl) | (apply Z.sxE; (exact extA)))
        | (show WL _ _ _ _ _ _ _; first | apply WL.nil | (refine WL.au (k := ?_)))
        | (show Z _ _ _ _ _; first | apply Z.then_normal | apply Z.block_normal)
        | (show W _ _ _ _ _ _; first | apply W.region | apply W.skip))
      exact Z.againW ⟨by omega, (by (exact extA)), a', cap', by rw [e1]; exact Sep.ext hS (by (exact extA))⟩ ⟨rfl, rfl, rfl, rfl, rfl, rfl, trivial⟩
  obtain rfl : k = (ordL c.gates.2.2).length := by omega
  rw [gatesR_all hg] at hS hL2
  have hlA : c.lat.2.2.map (latR A) = (numC c.t).lat := by rw [hA]; exact latR_all (c := c.t) hg
  rw [hlA] at hS
  have hlen : (cNet c.t).1.length = c.ins.2.2.length + c.lat.2.2.length + (ordL c.gates.2.2).length := hl1.1
  have hcell11 := hS.cell (i := 2) rfl
  rw [hRS] at hS
  have hg2 : wc.heap.size ≤ g2 := (hS.lt (i := 9) rfl rfl).1
  have hcell2 : w8.heap[g2]? = some (.cells (Value.cells (.agg #[.int .i64 0, .slice none 0 0, .slice none 0 0, .slice none 0 0, .slice none 0 0, .slice none 0 0, .slice none 0 0, .slice none 0 0, .string ⟨#[]⟩])) 28 (0, 0)) := by have := hS.cell (i := 9) rfl; rw [hzC] at this; exact this
  have hX8w : Ext w w8 := hxc.trans hX8
  obtain ⟨dd, hdd⟩ : ∃ dd : Circ, dd = ⟨((cNet c.t).1.length : Nat), (ai, ci, c.ins.2.2.map (litI A)), (al, cl, (numC c.t).lat), (ao, co, c.outs.2.2.map (litI A)), (ab, cb, c.bads.2.2.map (litI A)), (an, cn, c.cons.2.2.map (litI A)), (ag, cg, (numC c.t).gates), c.syms, c.com⟩ := ⟨_, rfl⟩
  have hcd : Cells w8 g11 0 dd.vals := by
    rw [hdd]
    have := cells_heap hcell11
    show Cells w8 g11 0 [.int .i64 ((cNet c.t).1.length : Nat), _, _, _, _, _, _, _, _]
    rw [hlen]
    exact this
  have hddt : dd.t = numC c.t := by
    rw [hdd]
    show (⟨((cNet c.t).1.length : Nat), c.ins.2.2.map (litI A), (numC c.t).lat, c.outs.2.2.map (litI A), c.bads.2.2.map (litI A), c.cons.2.2.map (litI A), (numC c.t).gates, c.syms.2.2, c.com⟩ : CirT) = _
    rw [hA, num_ins (c := c.t) hg]; rfl
  have hg2w : w.heap.size ≤ g2 := Nat.le_trans (Below.size hxc) hg2
  clear hcells y0 y1 y2 y3 y4 y5 y6
  repeat' (first
    | (show WL _ _ _ _ _ _ _; first | apply WL.nil | (refine WL.au (k := ?_)))
    | (show Z _ _ _ _ _; apply Z.then_normal)
    | (show W _ _ _ _ _ _; first | apply W.seq | apply W.region))
  refine W.condKF rfl (dec_false (by omega)) ?_
  repeat' (first
    | (apply WL.storeB (w0 := w) tOk; exact rfl; exact rfl; exact rfl; exact rfl; assumption; (exact extA); exact rfl; exact rfl; exact rfl; (exact extA); (first | assumption | omega | (focus (apply Nat.le_trans; rotate_left; assumption; exact Below.size (by (exact extA)); done))); intro w' hb hc hX' hU; have hcc := hc; obtain ⟨h1, h2, _⟩ := hc; (obtain ⟨w9, rfl⟩ : ∃ x, x = w' := ⟨_, rfl⟩; obtain ⟨hb9, rfl⟩ : ∃ x, x = hb := ⟨_, rfl⟩; obtain ⟨hX9, rfl⟩ : ∃ x, x = hX' := ⟨_, rfl⟩))
    | (show WL _ _ _ _ _ _ _; first | apply WL.nil | (refine WL.au (k := ?_)))
    | (show Z _ _ _ _ _; first | apply Z.then_normal | apply Z.then_exit | apply Z.block_exit)
    | (show W _ _ _ _ _ _; first | apply W.seq | apply W.region | apply W.ret | apply W.exit))
  have hS9 := hS.updCell (i := 9) rfl hU hb9 (Ext.refl _) (Below.size hX8)
  have hX9w : Ext wc w9 := hU.ext hX8 hg2
  have o0 := hS9.row (i := 0) rfl
  have o1 := hS9.row (i := 1) rfl
  have o3 := hS9.row (i := 3) rfl
  have o4 := hS9.row (i := 4) rfl
  have o5 := hS9.row (i := 5) rfl
  have o6 := hS9.row (i := 6) rfl
  have o8 := hS9.row (i := 8) rfl
  have hCd : CAt w9 dd := by
    rw [hdd]
    exact ⟨⟨o6.row encI_ok, o6.capLe, o6.noneCap⟩, ⟨o1.row enc3_ok, o1.capLe, o1.noneCap⟩, ⟨o5.row encI_ok, o5.capLe, o5.noneCap⟩, ⟨o4.row encI_ok, o4.capLe, o4.noneCap⟩, ⟨o3.row encI_ok, o3.capLe, o3.noneCap⟩, ⟨o0.row enc3_ok, o0.capLe, o0.noneCap⟩, hC.syms.ext (hxc.trans hX9w)⟩
  have hc2 : Cells w9 g2 0 dd.vals := cells_heap hb9
  refine Z.bodyCT tOk Try.results31 rfl rfl rfl rfl rfl hc2 fun m => ⟨(hxc.trans hX9w).at m, dd, d, dp, ?_, hddt, hCd.ext ((Ext.refl _).at m), (o8.row encI_ok).ext ((Ext.refl _).at m)⟩
  rw [hl2]
end Go.Proofs.Ythpnahapiodflaa
namespace Go.Proofs.Ythpnahapiodflaa
open Go Go.Lt Go.RowKit
set_option linter.unusedVariables false
set_option linter.unusedSimpArgs false
set_option maxRecDepth 20000

theorem num_sz {c : CirT} (h : GoodC' c) (hz : SzC c 100000) : SzC (numC c) 100000 := by
  obtain ⟨z1, z2, z3, z4, z5, z6⟩ := hz
  refine ⟨by rw [num_inslen]; exact z1, by rw [num_latlen]; exact z2, ?_, ?_, ?_, ?_⟩
  · show (c.outs.map _).length ≤ _; rw [List.length_map]; exact z3
  · show (c.bads.map _).length ≤ _; rw [List.length_map]; exact z4
  · show (c.cons.map _).length ≤ _; rw [List.length_map]; exact z5
  · rw [← gatesR_all h, gatesR_len (Nat.le_refl _)]
    exact Nat.le_trans (ordL_is c.gates).1.le z6
set_option maxHeartbeats 16000000 in
theorem law_StepMeans (c : Circ) (r : RunV) (p : Int) (w : World) (hC : CAt w c) (hR : RAt w r) : Pure Try.prog 15 [c.val, r.val, .int .i64 p] w (.bool true) := by
  by_cases hf : FewC c.t 30 ∧ c.max ≤ 300 ∧ GoodC' c.t
  rotate_left
  · refine Spec.of _ Try.func15 rfl Try.ntmps15 (by kernel_rfl) rfl ?_
    repeat' (first
      | (apply WL.box; exact rfl; exact rfl; exact rfl; intro gb w' hb hge hc hx; have hcc := hc; (first | (obtain ⟨h1, h2, h3, _⟩ := hc) | (obtain ⟨h1, h2, _⟩ := hc)))
      | (apply WL.gT; exact rfl; exact rfl; (focus (first | (rw [dec_false hf]; rfl); done)))
      | ((show WL _ _ _ (⟨_, .call ⟨.value (.func 27), _, _⟩, _, _, _, _⟩ :: _) _ _ _); apply WL.callP; exact rfl; exact rfl; exact rfl; exact rfl; exact law11_Small c 30 _ (hC.ext (by (exact extA))) (by decide); intro w' hx)
      | ((show WL _ _ _ (⟨_, .call ⟨.value (.func 59), _, _⟩, _, _, _, _⟩ :: _) _ _ _); apply WL.callP; exact rfl; exact rfl; exact rfl; exact rfl; exact law17_lives _; intro w' hx)
      | (show WL _ _ _ _ _ _ _; first | apply WL.nil | (refine WL.au (k := ?_)) | (apply WL.guardF; exact rfl; exact rfl))
      | (show Z _ _ _ _ _; first | apply Z.then_normal | apply Z.then_ret)
      | (show W _ _ _ _ _ _; first | apply W.seq | apply W.region | apply W.ret | (apply W.condT; exact rfl)))
    exact Z.body1 Try.results15 rfl fun m => ⟨rfl, Ext.at (by (exact extA)) m⟩
  by_cases hs : ShortP r 20
  rotate_left
  · refine Spec.of _ Try.func15 rfl Try.ntmps15 (by kernel_rfl) rfl ?_
    repeat' (first
      | (apply WL.box; exact rfl; exact rfl; exact rfl; intro gb w' hb hge hc hx; have hcc := hc; (first | (obtain ⟨h1, h2, h3, _⟩ := hc) | (obtain ⟨h1, h2, _⟩ := hc)))
      | (apply WL.gF; exact rfl; exact rfl; (focus (first | (rw [dec_true hf]; rfl) | (rw [dec_false hs]; rfl); done)))
      | (apply W.condKT; exact rfl; (focus (first | (rw [dec_true hf]; rfl) | (rw [dec_false hs]; rfl); done)))
      | ((show WL _ _ _ (⟨_, .call ⟨.value (.func 27), _, _⟩, _, _, _, _⟩ :: _) _ _ _); apply WL.callP; exact rfl; exact rfl; exact rfl; exact rfl; exact law11_Small c 30 _ (hC.ext (by (exact extA))) (by decide); intro w' hx)
      | ((show WL _ _ _ (⟨_, .call ⟨.value (.func 73), _, _⟩, _, _, _, _⟩ :: _) _ _ _); apply WL.callP; exact rfl; exact rfl; exact rfl; exact rfl; exact law17_Short r 20 _ (hR.ext (by (exact extA))); intro w' hx)
      | ((show WL _ _ _ (⟨_, .call ⟨.value (.func 59), _, _⟩, _, _, _, _⟩ :: _) _ _ _); apply WL.callP; exact rfl; exact rfl; exact rfl; exact rfl; exact law17_lives _; intro w' hx)
      | (show WL _ _ _ _ _ _ _; first | apply WL.nil | (refine WL.au (k := ?_)))
      | (show Z _ _ _ _ _; first | apply Z.then_normal | apply Z.then_ret)
      | (show W _ _ _ _ _ _; first | apply W.seq | apply W.region | apply W.ret))
    exact Z.body1 Try.results15 rfl fun m => ⟨rfl, Ext.at (by (exact extA)) m⟩
  have hf' := hf
  obtain ⟨hfew, hmx, hg⟩ := hf'
  obtain ⟨hz, hz7⟩ := few_sz2 hfew (by decide)
  have hn : r.ins.2.2.length ≤ 1048576 := by have := hs.2.1; omega
  have hck : chkC c.t = 0 := chkC_good.2 hg
  have hgn := num_good hg hz
  have hzn := num_sz hg hz
  have hz7n : (numC c.t).syms.length ≤ 100000 := hz7
  have hckn : chkC (numC c.t) = 0 := chkC_good.2 hgn
  have hkf : (!dec (FewC c.t 30 ∧ c.max ≤ 300 ∧ GoodC' c.t)) = false := by rw [dec_true hf]; rfl
  have hks : (!dec (ShortP r 20)) = false := by rw [dec_true hs]; rfl
  refine Spec.of _ Try.func15 rfl Try.ntmps15 (by kernel_rfl) rfl ?_
  repeat' (first
    | (apply WL.box; exact rfl; exact rfl; exact rfl; intro gb w' hb hge hc hx; have hcc := hc; (first | (obtain ⟨h1, h2, h3, _⟩ := hc) | (obtain ⟨h1, h2, _⟩ := hc)); (first | (have h_0 := g3; clear h_0; obtain ⟨g4, rfl⟩ : ∃ x, x = gb := ⟨_, rfl⟩; obtain ⟨wr, rfl⟩ : ∃ x, x = w' := ⟨_, rfl⟩; obtain ⟨hxr, rfl⟩ : ∃ x, x = hx := ⟨_, rfl⟩; have hcr : Cells wr g4 0 [rowVal r.st, rowVal r.ins] := hcc) | (obtain ⟨g3, rfl⟩ : ∃ x, x = gb := ⟨_, rfl⟩; obtain ⟨wc, rfl⟩ : ∃ x, x = w' := ⟨_, rfl⟩; obtain ⟨hxc, rfl⟩ : ∃ x, x = hx := ⟨_, rfl⟩; have hcells : Cells wc g3 0 c.vals := hcc)))
    | (apply WL.gF; exact rfl; exact rfl; (focus (first | with_reducible exact hkf | with_reducible exact hks; done)))
    | (apply W.condKF; exact rfl; (focus (first | with_reducible exact hkf | with_reducible exact hks; done)))
    | ((show WL _ _ _ (⟨_, .call ⟨.value (.func 27), _, _⟩, _, _, _, _⟩ :: _) _ _ _); apply WL.callP; exact rfl; exact rfl; exact rfl; exact rfl; exact law11_Small c 30 _ (hC.ext (by (exact extA))) (by decide); intro w' hx)
    | ((show WL _ _ _ (⟨_, .call ⟨.value (.func 73), _, _⟩, _, _, _, _⟩ :: _) _ _ _); apply WL.callP; exact rfl; exact rfl; exact rfl; exact rfl; exact law17_Short r 20 _ (hR.ext (by (exact extA))); intro w' hx)
    | (((show WL _ _ _ (⟨_, .call ⟨.value (.func 31), _, _⟩, _, _, _, _⟩ :: _) _ _ _); apply WL.call; exact rfl; exact rfl; exact rfl; exact rfl; exact ref16_Number c _ (hC.ext (by (exact extA))) hg hz; rintro v' w4 ⟨hx4, dn, aa, ca, rfl, hnt, hCn, _⟩))
    | (apply WL.alloc tOk; exact rfl; exact rfl; exact rfl; intro gb w' hb hge hx)
    | (apply WL.storeB (w0 := w4) tOk; exact rfl; exact rfl; exact rfl; exact rfl; assumption; (exact extA); exact rfl; exact rfl; exact rfl; (exact extA); (first | assumption | omega | (focus (apply Nat.le_trans; rotate_left; assumption; exact Below.size (by (exact extA)); done))); intro w' hb hc hX' hU; have hcc := hc; obtain ⟨h1, h2, _⟩ := hc; (obtain ⟨w5, rfl⟩ : ∃ x, x = w' := ⟨_, rfl⟩; obtain ⟨hb5, rfl⟩ : ∃ x, x = hb := ⟨_, rfl⟩; obtain ⟨hX5, rfl⟩ : ∃ x, x = hX' := ⟨_, rfl⟩; obtain ⟨g7, rfl⟩ : ∃ x, x = gb := ⟨_, rfl⟩; have hcn := cells_heap hb5))
    | (((show WL _ _ _ (⟨_, .call ⟨.value (.func 29), _, _⟩, _, _, _, _⟩ :: _) _ _ _); apply WL.call; exact rfl; exact rfl; exact rfl; exact rfl; exact law11_Own c _ (hC.ext (by (exact extA))) hz hz7; rintro v' w6 ⟨hx6, d, rfl, hdt, hOd⟩; have hCd := hOd.at))
    | (((show WL _ _ _ (⟨_, .call ⟨.value (.func 60), _, _⟩, _, _, _, _⟩ :: _) _ _ _); apply WL.call; exact rfl; exact rfl; exact rfl; exact rfl; exact step_NewG d _ (hCd.ext (by (exact extA))) (by rw [hdt]; exact hz) (by rw [hdt]; exact hz7) (by rw [hdt]; exact hck); rintro v' w7 ⟨hx7, gm, e, rn, ra, rfl, hM, het⟩))
    | (((show WL _ _ _ (⟨_, .call ⟨.value (.func 60), _, _⟩, _, _, _, _⟩ :: _) _ _ _); apply WL.call; exact rfl; exact rfl; exact rfl; exact rfl; exact step_NewG dn _ (hCn.ext (by (exact extA))) (by rw [hnt]; exact hzn) (by rw [hnt]; exact hz7n) (by rw [hnt]; exact hckn); rintro v' w8 ⟨hx8, gq, e2, rn2, ra2, rfl, hM2, het2⟩))
    | (show WL _ _ _ _ _ _ _; first | apply WL.nil | (refine WL.au (k := ?_)))
    | (show Z _ _ _ _ _; apply Z.then_normal)
    | (show W _ _ _ _ _ _; first | apply W.seq | apply W.region | apply W.skip))
  have hec : e.t = c.t := het.trans hdt
  have hen : e2.t = numC c.t := het2.trans hnt
  have hX8 : Ext wr w8 := (by (exact extA))
  have hR8 : RAt w8 r := hR.ext (hxc.trans (hxr.trans hX8))
  have hM8 := hM.ext hx8
  obtain ⟨u1, u2, _⟩ := id (hcr.ext hX8)
  have hcr8 : Cells w8 g4 0 [rowVal r.st, rowVal r.ins] := hcr.ext hX8
  have hb1 := fun (w0 : World) (h0 : Ext w8 w0) => step_Breaks gm e rn ra r p w0 (hM8.ext h0) (hR8.ext h0) hn
  have hb2 := fun (w0 : World) (h0 : Ext w8 w0) => step_Breaks gq e2 rn2 ra2 r p w0 (hM2.ext h0) (hR8.ext h0) hn
  rw [hec] at hb1
  rw [hen, dec_congr (num_breaks hg hz r.s r.i p)] at hb2
  obtain ⟨bb, hbb⟩ : ∃ bb, bb = dec (BreaksP c.t r.s r.i p) := ⟨_, rfl⟩
  rw [← hbb] at hb1 hb2
  clear hbb
  have k0 : dec ((0 : Int) = 0) = true := dec_true rfl
  have kb : dec (bb = bb) = true := dec_true rfl
  have hX0 : Ext w w8 := hxc.trans (hxr.trans hX8)
  repeat' (first
    | (show W _ _ (.region 6 _ _) _ _ _; apply W.regionGX (.fl true 0 (.fl true 1 (.fl true 2 (.fl true 3 (.fl true 4 (.fl true 5 (.fl true 6 (.fl true 7 (.fl true 9 (.fl true 11 (.fl true 13 (.fl false 8 (.fl false 12 (.br 10 (.br 14 (.fl true 15 (.fl true 16 (.fl true 17 (.br 18 (.fl true 19 (.fl true 20 .done)) .stop)))) .stop) .stop)))))))))))))) [10, 12, 14, 15, 16, 17, 18, 19] tMix; kernel_rfl)
    | (apply WL.gT; exact rfl; exact rfl; (focus (first | with_reducible exact k0 | with_reducible exact kb; done)))
    | (apply FL.gT; exact rfl; exact rfl; (focus (first | with_reducible exact k0 | with_reducible exact kb; done)))
    | (((show WL _ _ _ (⟨_, .call ⟨.value (.func 76), _, _⟩, _, _, _, _⟩ :: _) _ _ _); apply WL.callP; exact rfl; exact rfl; exact rfl; exact rfl; exact hb1 _ (by (exact extA)); intro w10 hx10))
    | (((show WL _ _ _ (⟨_, .call ⟨.value (.func 76), _, _⟩, _, _, _, _⟩ :: _) _ _ _); apply WL.callP; exact rfl; exact rfl; exact rfl; exact rfl; exact hb2 _ (by (exact extA)); intro w11 hx11))
    | ((show WL _ _ _ (⟨_, .call ⟨.value (.func 59), _, _⟩, _, _, _, _⟩ :: _) _ _ _); apply WL.callP; exact rfl; exact rfl; exact rfl; exact rfl; exact law17_lives _; intro w' hx)
    | (show SX _ _ _ _ _ _ _ _ _; first | (apply SX.done; intro w' hx) | (apply SX.fl0; exact rfl) | (apply SX.fl1; exact rfl; (exact extA)) | (apply SX.br1; exact rfl; intro w' hx))
    | (show FL _ _ _ _ _ _ _ _; first | apply FL.nilX | (apply FL.loadAE tOk; exact rfl; exact rfl; exact rfl; exact rfl; exact rfl; assumption; exact rfl))
    | (show FL _ _ _ _ _ _ _ _; (refine FL.au (k := ?_)))
    | (show Z _ _ _ _ _; (apply Z.sxE; (exact extA)))
    | (show WL _ _ _ _ _ _ _; apply WL.nil)
    | (show Z _ _ _ _ _; apply Z.then_normal)
    | (show W _ _ _ _ _ _; apply W.ret))
  all_goals exact Z.body1 Try.results15 rfl fun m => ⟨rfl, Ext.at (by (exact extA)) m⟩
end Go.Proofs.Ythpnahapiodflaa
namespace Go.Proofs.Ythpnahapiodflaa
open Go Go.Lt Go.RowKit Go.ChangeShapes Go.WideShapes Go.ChangeAt Go.Deep
set_option linter.unusedVariables false
set_option linter.unusedSimpArgs false
set_option maxRecDepth 20000

set_option maxRecDepth 20000 in
theorem circ_of {H : Type} {en : TypeId × Value → H} {w : World} {base : Nat} {spare : Nat → Bool} {held : Bool} {r : Reach} {b0 : Nat} {v : Value} {d : DataW H} {ps : List MemPlace} (hval : Value.okWide Try.prog w r b0 28 v) (hd : DataW.Trod en Try.prog w base spare held 28 v d ps) : ∃ c : Circ, v = c.val ∧ CAt w c := by
  obtain ⟨⟨m, ins, lat, outs, bads, cons, gates, syms, com, _⟩, hv, _, ki, kl, ko, kb, kc, kg, ks, _⟩ := struct_of (reads_struct Try.underlying28 (by kernel_rfl) (by kernel_rfl) (readsF_cons (reads_int Try.underlying3) (readsF_cons (reads_row (s := 1) (reads_int Try.underlying3) (by kernel_rfl) Try.underlying23 (fun _ => rfl) (by decide)) (readsF_cons (reads_row (s := 3) (reads_triple' (s0 := 1) (s1 := 1) (s2 := 1) Try.underlying69 (reads_int Try.underlying3) (reads_int Try.underlying3) (reads_int Try.underlying3) (by kernel_rfl) rfl rfl rfl (by kernel_rfl) (by kernel_rfl) (by kernel_rfl)) (by kernel_rfl) Try.underlying24 (fun _ => rfl) (by decide)) (readsF_cons (reads_row (s := 1) (reads_int Try.underlying3) (by kernel_rfl) Try.underlying23 (fun _ => rfl) (by decide)) (readsF_cons (reads_row (s := 1) (reads_int Try.underlying3) (by kernel_rfl) Try.underlying23 (fun _ => rfl) (by decide)) (readsF_cons (reads_row (s := 1) (reads_int Try.underlying3) (by kernel_rfl) Try.underlying23 (fun _ => rfl) (by decide)) (readsF_cons (reads_row (s := 3) (reads_triple' (s0 := 1) (s1 := 1) (s2 := 1) Try.underlying106 (reads_int Try.underlying3) (reads_int Try.underlying3) (reads_int Try.underlying3) (by kernel_rfl) rfl rfl rfl (by kernel_rfl) (by kernel_rfl) (by kernel_rfl)) (by kernel_rfl) Try.underlying25 (fun _ => rfl) (by decide)) (readsF_cons (reads_row (s := 3) (reads_triple' (s0 := 1) (s1 := 1) (s2 := 1) Try.underlying110 (reads_int Try.underlying5) (reads_int Try.underlying3) (reads_string Try.underlying9) (by kernel_rfl) rfl rfl rfl (by kernel_rfl) (by kernel_rfl) (by kernel_rfl)) (by kernel_rfl) Try.underlying26 (fun _ => rfl) (by decide)) (readsF_cons (reads_string Try.underlying9) (readsF_nil _))))))))))) Try.underlying28 hval hd
  exact ⟨⟨m, ins, lat, outs, bads, cons, gates, syms, com⟩, hv, ⟨ki.1, ki.2.1, ki.2.2.2.1⟩, ⟨kl.1, kl.2.1, kl.2.2.2.1⟩, ⟨ko.1, ko.2.1, ko.2.2.2.1⟩, ⟨kb.1, kb.2.1, kb.2.2.2.1⟩, ⟨kc.1, kc.2.1, kc.2.2.2.1⟩, ⟨kg.1, kg.2.1, kg.2.2.2.1⟩, ⟨ks.1, ks.2.1, ks.2.2.2.1⟩⟩
end Go.Proofs.Ythpnahapiodflaa
namespace Go.Proofs.Ythpnahapiodflaa
open Go Go.Lt Go.RowKit Go.ChangeShapes Go.WideShapes Go.ChangeAt Go.Deep
set_option linter.unusedVariables false
set_option linter.unusedSimpArgs false
set_option maxRecDepth 20000

set_option maxRecDepth 20000 in
theorem run_of {H : Type} {en : TypeId × Value → H} {w : World} {base : Nat} {spare : Nat → Bool} {held : Bool} {r : Reach} {b0 : Nat} {v : Value} {d : DataW H} {ps : List MemPlace} (hval : Value.okWide Try.prog w r b0 82 v) (hd : DataW.Trod en Try.prog w base spare held 82 v d ps) : ∃ r : RunV, v = r.val ∧ RAt w r := by
  obtain ⟨⟨st, ins, _⟩, hv, ks, ki, _⟩ := struct_of (reads_struct Try.underlying82 (by kernel_rfl) (by kernel_rfl) (readsF_cons (reads_row (s := 1) (reads_bool Try.underlying4) (by kernel_rfl) Try.underlying22 (fun _ => rfl) (by decide)) (readsF_cons (reads_row (s := 1) (reads_row (s := 1) (reads_bool Try.underlying4) (by kernel_rfl) Try.underlying22 (fun _ => rfl) (by decide)) (by kernel_rfl) Try.underlying80 (fun _ => rfl) (by decide)) (readsF_nil _)))) Try.underlying82 hval hd
  exact ⟨⟨st, ins⟩, hv, ⟨ks.1, ki.1, fun x hx => (ki.2.2.2.2 x hx).1⟩⟩
end Go.Proofs.Ythpnahapiodflaa
namespace Go.Proofs.Ythpnahapiodflaa
open Go Go.Lt Go.ChangeShapes Go.WideShapes Go.ChangeAt Go.RowKit
set_option linter.unusedVariables false
set_option linter.unusedSimpArgs false
set_option maxRecDepth 20000
open Go.ChangeMaps (open_string shut_string)
namespace stepMeans
theorem own : ownKnob Try.prog.godebug = none := by kernel_rfl
theorem laidOut : laidOutB Try.prog = true := factLaid
set_option maxRecDepth 100000 in
theorem lifted (os : Os) (started : os.Started) (H : Type) (enc : TypeId × Value → H) :
    ReturnsInHanded {} Try.checked os 15 .any (Rows.stepMeansSpec.pre6 enc Try.prog Try.f15 Rows.stepMeansRow.domain false) (Rows.stepMeansSpec.post enc Try.prog Try.f15 false true false false) := by
  refine returnsInHanded_of_change (C := Try.checked) own started (by kernel_rfl) Try.func15
    (ChangeSpec.witness6 (enc := enc) (C := Try.checked) false ⟨#[], #[.agg #[.int .i64 0, .slice none 0 0, .slice none 0 0, .slice none 0 0, .slice none 0 0, .slice none 0 0, .slice none 0 0, .slice none 0 0, .string ⟨#[]⟩], .agg #[.slice none 0 0, .slice none 0 0], .int .i64 0], []⟩ 8 (by kernel_rfl) (by kernel_rfl) (by kernel_rfl) (by kernel_rfl)) ?_
  intro W base args ds gs before hval0 hW hcnd _
  have hval : ∀ (j : Nat) t v, Try.f15.params[j]? = some t → args[j]? = some v → Value.okWide Try.prog W .any base t v := hval0
  have hW' := hW
  obtain ⟨p, q, hA0, hV, rfl, hfz, hnd⟩ := hW
  have hA : DataW.TrodAll enc Try.prog W 0 (fun _ => true) true Try.f15.params.toList args.toList ds p := hA0
  rw [Try.params15] at hA hval
  obtain ⟨v0, vs0, d0, ds0, p0, q0, hargs, rfl, rfl, h0, r0⟩ := trodAll_cons hA
  obtain ⟨v1, vs1, d1, ds1, p1, q1, rfl, rfl, rfl, h1, r1⟩ := trodAll_cons r0
  obtain ⟨v2, vs2, d2, ds2, p2, q2, rfl, rfl, rfl, h2, r2⟩ := trodAll_cons r1
  obtain ⟨rfl, rfl, rfl⟩ := trodAll_nil r2
  obtain rfl : args = #[v0, v1, v2] := by cases args; simp_all
  obtain ⟨rfl, rfl⟩ := trodVars_none hV
  have k0 := h0
  have lt0 : ∀ x ∈ p0, x.block < W.heap.size := by obtain ⟨m, hm⟩ := k0; exact DataW.trod_lt m _ _ _ hm
  have k1 := h1
  have lt1 : ∀ x ∈ p1, x.block < W.heap.size := by obtain ⟨m, hm⟩ := k1; exact DataW.trod_lt m _ _ _ hm
  have k2 := h2
  have lt2 : ∀ x ∈ p2, x.block < W.heap.size := by obtain ⟨m, hm⟩ := k2; exact DataW.trod_lt m _ _ _ hm
  obtain ⟨c0, rfl, hC0⟩ := circ_of (hval 0 28 v0 rfl rfl) h0
  obtain ⟨r1v, rfl, hR1⟩ := run_of (hval 1 82 v1 rfl rfl) h1
  obtain ⟨n2, rfl, rfl, rfl, w2⟩ := open_int Try.underlying3 (hval 2 3 v2 rfl rfl) h2
  clear hA0 hval0
  refine (Spec.law (law_StepMeans c0 r1v n2 W hC0 hR1)).mono fun e W' ⟨he, bel⟩ => ?_
  subst he
  exact ⟨_, rfl, _, _, _, [], _, [], hW', trodAll_mk1 (shut_bool Try.underlying4 _), (trodAll_cons_mk (Below.trod laidOut (by kernel_rfl) (of_decide_eq_true (by kernel_rfl)) k0 bel lt0) (trodAll_cons_mk (Below.trod laidOut (by kernel_rfl) (of_decide_eq_true (by kernel_rfl)) k1 bel lt1) (trodAll_cons_mk (Below.trod laidOut (by kernel_rfl) (of_decide_eq_true (by kernel_rfl)) k2 bel lt2) trodAll_mk0))), rfl, bel.frame _, fun h => by cases h⟩
theorem j0 : (Rows.stepMeansRow.wf (OpenSpec.ofChange Rows.stepMeansSpec)) = true := by kernel_rfl
theorem j3 : (Try.f15.params.all (Try.prog.readableRec ·)) = true := by kernel_rfl
theorem j4 : (namedTie Try.prog Rows.stepMeansRow.named Rows.stepMeansSpec.vars) = true := by kernel_rfl
theorem j5 : ((Rows.stepMeansRow.stops == [])) = true := by kernel_rfl
theorem j7 : ((Rows.stepMeansRow.knobs == [])) = true := by kernel_rfl
theorem j9 : ((Rows.stepMeansRow.inPlace == Try.prog.inPlace 15)) = true := by kernel_rfl
theorem j10 : ((Rows.stepMeansRow.unfollowed == Try.prog.unfollowed 15)) = true := by kernel_rfl
theorem j11 : ((Rows.stepMeansRow.recurses == Try.prog.recurses 15)) = true := by kernel_rfl
theorem j12 : ((Rows.stepMeansRow.named == Try.prog.varsNamed 15)) = true := by kernel_rfl
theorem j13 : ((Rows.stepMeansRow.maps == (Try.f15.params.toList ++ Rows.stepMeansSpec.plain.varTypes Try.prog).any (Try.prog.mapsRec ·))) = true := by kernel_rfl
theorem j14 : ((Rows.stepMeansRow.ifaces == (Try.f15.params.toList ++ Rows.stepMeansSpec.plain.varTypes Try.prog).any (Try.prog.ifacesRec ·))) = true := by kernel_rfl
theorem j15 : ((Rows.stepMeansRow.mapsOut == Try.prog.mapsAmong Try.f15.resultTypes.toList)) = true := by kernel_rfl
theorem j16 : ((Rows.stepMeansRow.loops == (Try.f15.params.toList ++ Rows.stepMeansSpec.plain.varTypes Try.prog).any (Try.prog.loopsFrom ·))) = true := by kernel_rfl
theorem j17 : ((Rows.stepMeansRow.wideKeys == (Try.f15.params.toList ++ Rows.stepMeansSpec.plain.varTypes Try.prog ++ Try.f15.resultTypes.toList).any (Try.prog.wideKeysFrom ·))) = true := by kernel_rfl
theorem j18 : (Rows.stepMeansSpec.vars.all (Try.prog.varReadable ·)) = true := by kernel_rfl
theorem j19 : (Try.f15.resultTypes.all (fun t => Try.prog.readableRec t && decide (t < Try.prog.types.size))) = true := by kernel_rfl
theorem j20 : ((Rows.stepMeansRow.ifacesOut == Try.f15.resultTypes.toList.any (Try.prog.ifacesRec ·))) = true := by kernel_rfl
theorem j21 : ((Rows.stepMeansRow.loopsOut == Try.f15.resultTypes.toList.any (Try.prog.loopsFrom ·))) = true := by kernel_rfl
theorem j22 : ((Rows.stepMeansRow.plainKeys == Try.prog.plainKeys)) = true := by rw [show Rows.stepMeansRow.plainKeys = Rows.genCountsRow.plainKeys by kernel_rfl]; exact factKeys
theorem j23 : (Rows.stepMeansRow.shortTexts.isNone) = true := by kernel_rfl
theorem j26 : ((Rows.stepMeansRow.lifted == Try.prog.liftsFinal)) = true := by rw [show Rows.stepMeansRow.lifted = Rows.genCountsRow.lifted by kernel_rfl]; exact factLifts
theorem j27 : ((Try.prog.make == some Rows.stepMeansRow.make)) = true := by rw [show Rows.stepMeansRow.make = Rows.genCountsRow.make by kernel_rfl]; exact factMake
theorem j28 : ((Rows.stepMeansRow.kinds == (if Rows.stepMeansRow.domain.isEmpty then [] else Try.f15.params.toList.map fun t => match Try.prog.underlying t with | some (.int k) => some k | _ => none))) = true := by kernel_rfl
theorem j29 : ((Rows.stepMeansRow.pinned == Rows.stepMeansRow.pinnedBy)) = true := by kernel_rfl
theorem j30 : ((Rows.stepMeansRow.veiled == (Try.f15.params.toList ++ Rows.stepMeansSpec.plain.varTypes Try.prog ++ Try.f15.resultTypes.toList).any (Try.prog.veiledRec ·))) = true := by kernel_rfl
theorem j31 : (Rows.stepMeansRow.veiledFits Try.prog Try.f15.params.toList (Try.f15.params.toList ++ Rows.stepMeansSpec.plain.varTypes Try.prog ++ Try.f15.resultTypes.toList)) = true := by kernel_rfl
set_option maxRecDepth 100000 in
theorem closed : joinedFacts Try.checked.prog 15 Try.f15 Rows.stepMeansSpec Rows.stepMeansRow = true := by unfold joinedFacts; exact (band (band (band (band (band (band (band (band (band (band (band (band (band (band (band (band (band (band (band (band (band (band (band (band (band (band (band (band (band (band (band j0 factLaid) factMaps) j3) j4) j5) factStops) j7) factKnobs) j9) j10) j11) j12) j13) j14) j15) j16) j17) j18) j19) j20) j21) j22) j23) factHeard) factEnter) j26) j27) j28) j29) j30) j31)
theorem named : Try.checked.prog.funcNamed Rows.stepMeansRow.func = some 15 := by kernel_rfl
theorem over : Rows.stepMeansRow.holds Try.pinned (OpenSpec.ofChange Rows.stepMeansSpec) :=
  OpenClaim.holds_of_wide 15 Try.f15 rfl rfl rfl rfl rfl rfl rfl ⟨rfl, rfl, rfl, rfl, rfl⟩ rfl rfl rfl rfl rfl named Try.func15 closed
    (of_decide_eq_true (by kernel_rfl)) (by unfold Func.isWrapper; first | (rw [if_pos (by decide +kernel)]; kernel_rfl) | (rw [if_neg (by decide +kernel)]; exact ⟨rfl, rfl⟩))
    (fun os started H enc _ => lifted os started H enc)
/-- The statement. -/
theorem proved : Rows.StepMeansSaid := over
end stepMeans
end Go.Proofs.Ythpnahapiodflaa
