/- CircNets: the order of a good circuit's gates, and its net. -/
import Derived.Test.YtmaekaflpbenmaaRows
import Derived.Lib.SmallJoins
import Derived.KernelRfl
import Derived.WalkKit
import Derived.ProofKit
import Derived.Deep.Quiet
import Derived.Deep.LoopGhost
import Derived.StillTail
import Derived.Test.YtmaekaflpbenmaaProg
import Derived.OpenShut
import Derived.ShutString
import Derived.ChangeOld
import Derived.Deep.Slices
import Derived.SizedLaws
import Derived.Laws.StructEq
import Derived.Test.YtmaekaflpbenmaaCircNetsP5
namespace Go.Proofs.Ytmaekaflpbenmaa
open Go Go.Lt Go.RowKit
set_option linter.unusedVariables false
set_option linter.unusedSimpArgs false
set_option maxRecDepth 20000

set_option maxHeartbeats 32000000 in
theorem ref11_Same (a b : Circ) (w : World) (hCa : CAt w a) (hCb : CAt w b) : Pure Try.prog 37 [a.val, b.val] w (.bool (dec (a.t = b.t))) := by
  by_cases e0 : a.max = b.max
  rotate_left
  · skip
    refine Spec.of _ Try.func37 rfl Try.ntmps37 (by kernel_rfl) rfl ?_
    repeat' (first
      | (apply WL.box; exact rfl; exact rfl; exact rfl; intro gb w' hb hge hc hx; have hcc := hc; (first | (obtain ⟨h1, h2, h3, _⟩ := hc) | (obtain ⟨h1, h2, _⟩ := hc)); (first | (have h_0 := xA0; clear h_0; have hB := hcc; obtain ⟨xB0, xB1, xB2, xB3, xB4, xB5, xB6, xB7, xB8, _⟩ := hcc; (obtain ⟨gB, rfl⟩ : ∃ x, x = gb := ⟨_, rfl⟩; obtain ⟨wB, rfl⟩ : ∃ x, x = w' := ⟨_, rfl⟩; obtain ⟨hxB, rfl⟩ : ∃ x, x = hx := ⟨_, rfl⟩)) | (have hA := hcc; obtain ⟨xA0, xA1, xA2, xA3, xA4, xA5, xA6, xA7, xA8, _⟩ := hcc; (obtain ⟨gA, rfl⟩ : ∃ x, x = gb := ⟨_, rfl⟩; obtain ⟨wA, rfl⟩ : ∃ x, x = w' := ⟨_, rfl⟩; obtain ⟨hxA, rfl⟩ : ∃ x, x = hx := ⟨_, rfl⟩))))
      | (apply WL.eqStr tOk; exact rfl; exact rfl; exact rfl; exact rfl; exact rfl; exact rfl)
      | (apply WL.neStr tOk; exact rfl; exact rfl; exact rfl; exact rfl; exact rfl; exact rfl)
      | (apply WL.gT; exact rfl; exact rfl; (focus (first | exact dec_true e0; done)))
      | (apply WL.gF; exact rfl; exact rfl; (focus (first | exact dec_true e0; done)))
      | (apply W.condKT; exact rfl; (focus (first | exact dec_true e0; done)))
      | (apply W.condKF; exact rfl; (focus (first | exact dec_true e0; done)))
      | ((show WL _ _ _ (⟨_, .call ⟨.value (.func 22), _, _⟩, _, _, _, _⟩ :: _) _ _ _); apply WL.callS; exact rfl; exact rfl; exact rfl; exact rfl; exact ref_Ints _ _ _ _ _ _ _ (hCa.ins.row.ext (by (exact extA))) (hCb.ins.row.ext (by (exact extA))))
      | ((show WL _ _ _ (⟨_, .call ⟨.value (.func 22), _, _⟩, _, _, _, _⟩ :: _) _ _ _); apply WL.callS; exact rfl; exact rfl; exact rfl; exact rfl; exact ref_Ints _ _ _ _ _ _ _ (hCa.outs.row.ext (by (exact extA))) (hCb.outs.row.ext (by (exact extA))))
      | ((show WL _ _ _ (⟨_, .call ⟨.value (.func 22), _, _⟩, _, _, _, _⟩ :: _) _ _ _); apply WL.callS; exact rfl; exact rfl; exact rfl; exact rfl; exact ref_Ints _ _ _ _ _ _ _ (hCa.bads.row.ext (by (exact extA))) (hCb.bads.row.ext (by (exact extA))))
      | ((show WL _ _ _ (⟨_, .call ⟨.value (.func 22), _, _⟩, _, _, _, _⟩ :: _) _ _ _); apply WL.callS; exact rfl; exact rfl; exact rfl; exact rfl; exact ref_Ints _ _ _ _ _ _ _ (hCa.cons.row.ext (by (exact extA))) (hCb.cons.row.ext (by (exact extA))))
      | (show WL _ _ _ _ _ _ _; first | apply WL.nil | (refine WL.au (k := ?_)) | (apply WL.index tOk; exact rfl; exact rfl; exact rfl; exact rfl; exact rfl; exact rfl; exact rfl; exact rfl; assumption; (exact extA); exact rfl; omega; assumption; intro b off h; have hcc := h; first | (obtain ⟨h1, h2, h3, h4, h5, h6, _⟩ := h) | (obtain ⟨h1, h2, h3, _⟩ := h) | (obtain ⟨h1, h2, _⟩ := h) | (obtain ⟨h1, _⟩ := h)) | (apply WL.guardF; exact rfl; exact rfl) | (apply WL.gD; exact rfl; exact rfl; all_goals intro _) | (apply WL.gN; exact rfl; exact rfl; all_goals intro _) | (apply WL.gB; exact rfl; exact rfl; all_goals intro _))
      | (show Z _ _ _ _ _; first | apply Z.tail | apply Z.then_normal | apply Z.block_normal | apply Z.then_exit | apply Z.block_exit | apply Z.then_ret | apply Z.block_ret | (apply Z.block_other; exact rfl))
      | (show W _ _ _ _ _ _; first | apply W.seq | apply W.region | apply W.block | apply W.skip | apply W.ret | apply W.exit | (apply W.condT; exact rfl) | (apply W.condF; exact rfl) | (apply W.condD; exact rfl; all_goals intro _) | (apply W.condN; exact rfl; all_goals intro _) | (apply W.condB; exact rfl; all_goals intro _)))
    exact Z.body1 Try.results37 rfl fun m => ⟨congrArg Value.bool (dec_false (show ¬ a.t = b.t from fun h => e0 (congrArg CirT.max h))).symm, Ext.at (by (exact extA)) m⟩
  by_cases e1 : a.com = b.com
  rotate_left
  · skip
    refine Spec.of _ Try.func37 rfl Try.ntmps37 (by kernel_rfl) rfl ?_
    repeat' (first
      | (apply WL.box; exact rfl; exact rfl; exact rfl; intro gb w' hb hge hc hx; have hcc := hc; (first | (obtain ⟨h1, h2, h3, _⟩ := hc) | (obtain ⟨h1, h2, _⟩ := hc)); (first | (have h_0 := xA0; clear h_0; have hB := hcc; obtain ⟨xB0, xB1, xB2, xB3, xB4, xB5, xB6, xB7, xB8, _⟩ := hcc; (obtain ⟨gB, rfl⟩ : ∃ x, x = gb := ⟨_, rfl⟩; obtain ⟨wB, rfl⟩ : ∃ x, x = w' := ⟨_, rfl⟩; obtain ⟨hxB, rfl⟩ : ∃ x, x = hx := ⟨_, rfl⟩)) | (have hA := hcc; obtain ⟨xA0, xA1, xA2, xA3, xA4, xA5, xA6, xA7, xA8, _⟩ := hcc; (obtain ⟨gA, rfl⟩ : ∃ x, x = gb := ⟨_, rfl⟩; obtain ⟨wA, rfl⟩ : ∃ x, x = w' := ⟨_, rfl⟩; obtain ⟨hxA, rfl⟩ : ∃ x, x = hx := ⟨_, rfl⟩))))
      | (apply WL.eqStr tOk; exact rfl; exact rfl; exact rfl; exact rfl; exact rfl; exact rfl)
      | (apply WL.neStr tOk; exact rfl; exact rfl; exact rfl; exact rfl; exact rfl; exact rfl)
      | (apply WL.gT; exact rfl; exact rfl; (focus (first | exact dec_false (fun h => h e0) | exact dec_true e1; done)))
      | (apply WL.gF; exact rfl; exact rfl; (focus (first | exact dec_false (fun h => h e0) | exact dec_true e1; done)))
      | (apply W.condKT; exact rfl; (focus (first | exact dec_false (fun h => h e0) | exact dec_true e1; done)))
      | (apply W.condKF; exact rfl; (focus (first | exact dec_false (fun h => h e0) | exact dec_true e1; done)))
      | ((show WL _ _ _ (⟨_, .call ⟨.value (.func 22), _, _⟩, _, _, _, _⟩ :: _) _ _ _); apply WL.callS; exact rfl; exact rfl; exact rfl; exact rfl; exact ref_Ints _ _ _ _ _ _ _ (hCa.ins.row.ext (by (exact extA))) (hCb.ins.row.ext (by (exact extA))))
      | ((show WL _ _ _ (⟨_, .call ⟨.value (.func 22), _, _⟩, _, _, _, _⟩ :: _) _ _ _); apply WL.callS; exact rfl; exact rfl; exact rfl; exact rfl; exact ref_Ints _ _ _ _ _ _ _ (hCa.outs.row.ext (by (exact extA))) (hCb.outs.row.ext (by (exact extA))))
      | ((show WL _ _ _ (⟨_, .call ⟨.value (.func 22), _, _⟩, _, _, _, _⟩ :: _) _ _ _); apply WL.callS; exact rfl; exact rfl; exact rfl; exact rfl; exact ref_Ints _ _ _ _ _ _ _ (hCa.bads.row.ext (by (exact extA))) (hCb.bads.row.ext (by (exact extA))))
      | ((show WL _ _ _ (⟨_, .call ⟨.value (.func 22), _, _⟩, _, _, _, _⟩ :: _) _ _ _); apply WL.callS; exact rfl; exact rfl; exact rfl; exact rfl; exact ref_Ints _ _ _ _ _ _ _ (hCa.cons.row.ext (by (exact extA))) (hCb.cons.row.ext (by (exact extA))))
      | (show WL _ _ _ _ _ _ _; first | apply WL.nil | (refine WL.au (k := ?_)) | (apply WL.index tOk; exact rfl; exact rfl; exact rfl; exact rfl; exact rfl; exact rfl; exact rfl; exact rfl; assumption; (exact extA); exact rfl; omega; assumption; intro b off h; have hcc := h; first | (obtain ⟨h1, h2, h3, h4, h5, h6, _⟩ := h) | (obtain ⟨h1, h2, h3, _⟩ := h) | (obtain ⟨h1, h2, _⟩ := h) | (obtain ⟨h1, _⟩ := h)) | (apply WL.guardF; exact rfl; exact rfl) | (apply WL.gD; exact rfl; exact rfl; all_goals intro _) | (apply WL.gN; exact rfl; exact rfl; all_goals intro _) | (apply WL.gB; exact rfl; exact rfl; all_goals intro _))
      | (show Z _ _ _ _ _; first | apply Z.tail | apply Z.then_normal | apply Z.block_normal | apply Z.then_exit | apply Z.block_exit | apply Z.then_ret | apply Z.block_ret | (apply Z.block_other; exact rfl))
      | (show W _ _ _ _ _ _; first | apply W.seq | apply W.region | apply W.block | apply W.skip | apply W.ret | apply W.exit | (apply W.condT; exact rfl) | (apply W.condF; exact rfl) | (apply W.condD; exact rfl; all_goals intro _) | (apply W.condN; exact rfl; all_goals intro _) | (apply W.condB; exact rfl; all_goals intro _)))
    exact Z.body1 Try.results37 rfl fun m => ⟨congrArg Value.bool (dec_false (show ¬ a.t = b.t from fun h => e1 (congrArg CirT.com h))).symm, Ext.at (by (exact extA)) m⟩
  by_cases e2 : a.ins.2.2 = b.ins.2.2
  rotate_left
  · skip
    refine Spec.of _ Try.func37 rfl Try.ntmps37 (by kernel_rfl) rfl ?_
    repeat' (first
      | (apply WL.box; exact rfl; exact rfl; exact rfl; intro gb w' hb hge hc hx; have hcc := hc; (first | (obtain ⟨h1, h2, h3, _⟩ := hc) | (obtain ⟨h1, h2, _⟩ := hc)); (first | (have h_0 := xA0; clear h_0; have hB := hcc; obtain ⟨xB0, xB1, xB2, xB3, xB4, xB5, xB6, xB7, xB8, _⟩ := hcc; (obtain ⟨gB, rfl⟩ : ∃ x, x = gb := ⟨_, rfl⟩; obtain ⟨wB, rfl⟩ : ∃ x, x = w' := ⟨_, rfl⟩; obtain ⟨hxB, rfl⟩ : ∃ x, x = hx := ⟨_, rfl⟩)) | (have hA := hcc; obtain ⟨xA0, xA1, xA2, xA3, xA4, xA5, xA6, xA7, xA8, _⟩ := hcc; (obtain ⟨gA, rfl⟩ : ∃ x, x = gb := ⟨_, rfl⟩; obtain ⟨wA, rfl⟩ : ∃ x, x = w' := ⟨_, rfl⟩; obtain ⟨hxA, rfl⟩ : ∃ x, x = hx := ⟨_, rfl⟩))))
      | (apply WL.eqStr tOk; exact rfl; exact rfl; exact rfl; exact rfl; exact rfl; exact rfl)
      | (apply WL.neStr tOk; exact rfl; exact rfl; exact rfl; exact rfl; exact rfl; exact rfl)
      | (apply WL.gT; exact rfl; exact rfl; (focus (first | exact dec_false (fun h => h e0) | exact dec_false (fun h => h e1) | (rw [dec_false e2]; rfl); done)))
      | (apply WL.gF; exact rfl; exact rfl; (focus (first | exact dec_false (fun h => h e0) | exact dec_false (fun h => h e1) | (rw [dec_false e2]; rfl); done)))
      | (apply W.condKT; exact rfl; (focus (first | exact dec_false (fun h => h e0) | exact dec_false (fun h => h e1) | (rw [dec_false e2]; rfl); done)))
      | (apply W.condKF; exact rfl; (focus (first | exact dec_false (fun h => h e0) | exact dec_false (fun h => h e1) | (rw [dec_false e2]; rfl); done)))
      | ((show WL _ _ _ (⟨_, .call ⟨.value (.func 22), _, _⟩, _, _, _, _⟩ :: _) _ _ _); apply WL.callS; exact rfl; exact rfl; exact rfl; exact rfl; exact ref_Ints _ _ _ _ _ _ _ (hCa.ins.row.ext (by (exact extA))) (hCb.ins.row.ext (by (exact extA))))
      | ((show WL _ _ _ (⟨_, .call ⟨.value (.func 22), _, _⟩, _, _, _, _⟩ :: _) _ _ _); apply WL.callS; exact rfl; exact rfl; exact rfl; exact rfl; exact ref_Ints _ _ _ _ _ _ _ (hCa.outs.row.ext (by (exact extA))) (hCb.outs.row.ext (by (exact extA))))
      | ((show WL _ _ _ (⟨_, .call ⟨.value (.func 22), _, _⟩, _, _, _, _⟩ :: _) _ _ _); apply WL.callS; exact rfl; exact rfl; exact rfl; exact rfl; exact ref_Ints _ _ _ _ _ _ _ (hCa.bads.row.ext (by (exact extA))) (hCb.bads.row.ext (by (exact extA))))
      | ((show WL _ _ _ (⟨_, .call ⟨.value (.func 22), _, _⟩, _, _, _, _⟩ :: _) _ _ _); apply WL.callS; exact rfl; exact rfl; exact rfl; exact rfl; exact ref_Ints _ _ _ _ _ _ _ (hCa.cons.row.ext (by (exact extA))) (hCb.cons.row.ext (by (exact extA))))
      | (show WL _ _ _ _ _ _ _; first | apply WL.nil | (refine WL.au (k := ?_)) | (apply WL.index tOk; exact rfl; exact rfl; exact rfl; exact rfl; exact rfl; exact rfl; exact rfl; exact rfl; assumption; (exact extA); exact rfl; omega; assumption; intro b off h; have hcc := h; first | (obtain ⟨h1, h2, h3, h4, h5, h6, _⟩ := h) | (obtain ⟨h1, h2, h3, _⟩ := h) | (obtain ⟨h1, h2, _⟩ := h) | (obtain ⟨h1, _⟩ := h)) | (apply WL.guardF; exact rfl; exact rfl) | (apply WL.gD; exact rfl; exact rfl; all_goals intro _) | (apply WL.gN; exact rfl; exact rfl; all_goals intro _) | (apply WL.gB; exact rfl; exact rfl; all_goals intro _))
      | (show Z _ _ _ _ _; first | apply Z.tail | apply Z.then_normal | apply Z.block_normal | apply Z.then_exit | apply Z.block_exit | apply Z.then_ret | apply Z.block_ret | (apply Z.block_other; exact rfl))
      | (show W _ _ _ _ _ _; first | apply W.seq | apply W.region | apply W.block | apply W.skip | apply W.ret | apply W.exit | (apply W.condT; exact rfl) | (apply W.condF; exact rfl) | (apply W.condD; exact rfl; all_goals intro _) | (apply W.condN; exact rfl; all_goals intro _) | (apply W.condB; exact rfl; all_goals intro _)))
    exact Z.body1 Try.results37 rfl fun m => ⟨congrArg Value.bool (dec_false (show ¬ a.t = b.t from fun h => e2 (congrArg CirT.ins h))).symm, Ext.at (by (exact extA)) m⟩
  by_cases e3 : a.outs.2.2 = b.outs.2.2
  rotate_left
  · skip
    refine Spec.of _ Try.func37 rfl Try.ntmps37 (by kernel_rfl) rfl ?_
    repeat' (first
      | (apply WL.box; exact rfl; exact rfl; exact rfl; intro gb w' hb hge hc hx; have hcc := hc; (first | (obtain ⟨h1, h2, h3, _⟩ := hc) | (obtain ⟨h1, h2, _⟩ := hc)); (first | (have h_0 := xA0; clear h_0; have hB := hcc; obtain ⟨xB0, xB1, xB2, xB3, xB4, xB5, xB6, xB7, xB8, _⟩ := hcc; (obtain ⟨gB, rfl⟩ : ∃ x, x = gb := ⟨_, rfl⟩; obtain ⟨wB, rfl⟩ : ∃ x, x = w' := ⟨_, rfl⟩; obtain ⟨hxB, rfl⟩ : ∃ x, x = hx := ⟨_, rfl⟩)) | (have hA := hcc; obtain ⟨xA0, xA1, xA2, xA3, xA4, xA5, xA6, xA7, xA8, _⟩ := hcc; (obtain ⟨gA, rfl⟩ : ∃ x, x = gb := ⟨_, rfl⟩; obtain ⟨wA, rfl⟩ : ∃ x, x = w' := ⟨_, rfl⟩; obtain ⟨hxA, rfl⟩ : ∃ x, x = hx := ⟨_, rfl⟩))))
      | (apply WL.eqStr tOk; exact rfl; exact rfl; exact rfl; exact rfl; exact rfl; exact rfl)
      | (apply WL.neStr tOk; exact rfl; exact rfl; exact rfl; exact rfl; exact rfl; exact rfl)
      | (apply WL.gT; exact rfl; exact rfl; (focus (first | exact dec_false (fun h => h e0) | exact dec_false (fun h => h e1) | (rw [dec_true e2]; rfl) | (rw [dec_false e3]; rfl); done)))
      | (apply WL.gF; exact rfl; exact rfl; (focus (first | exact dec_false (fun h => h e0) | exact dec_false (fun h => h e1) | (rw [dec_true e2]; rfl) | (rw [dec_false e3]; rfl); done)))
      | (apply W.condKT; exact rfl; (focus (first | exact dec_false (fun h => h e0) | exact dec_false (fun h => h e1) | (rw [dec_true e2]; rfl) | (rw [dec_false e3]; rfl); done)))
      | (apply W.condKF; exact rfl; (focus (first | exact dec_false (fun h => h e0) | exact dec_false (fun h => h e1) | (rw [dec_true e2]; rfl) | (rw [dec_false e3]; rfl); done)))
      | ((show WL _ _ _ (⟨_, .call ⟨.value (.func 22), _, _⟩, _, _, _, _⟩ :: _) _ _ _); apply WL.callS; exact rfl; exact rfl; exact rfl; exact rfl; exact ref_Ints _ _ _ _ _ _ _ (hCa.ins.row.ext (by (exact extA))) (hCb.ins.row.ext (by (exact extA))))
      | ((show WL _ _ _ (⟨_, .call ⟨.value (.func 22), _, _⟩, _, _, _, _⟩ :: _) _ _ _); apply WL.callS; exact rfl; exact rfl; exact rfl; exact rfl; exact ref_Ints _ _ _ _ _ _ _ (hCa.outs.row.ext (by (exact extA))) (hCb.outs.row.ext (by (exact extA))))
      | ((show WL _ _ _ (⟨_, .call ⟨.value (.func 22), _, _⟩, _, _, _, _⟩ :: _) _ _ _); apply WL.callS; exact rfl; exact rfl; exact rfl; exact rfl; exact ref_Ints _ _ _ _ _ _ _ (hCa.bads.row.ext (by (exact extA))) (hCb.bads.row.ext (by (exact extA))))
      | ((show WL _ _ _ (⟨_, .call ⟨.value (.func 22), _, _⟩, _, _, _, _⟩ :: _) _ _ _); apply WL.callS; exact rfl; exact rfl; exact rfl; exact rfl; exact ref_Ints _ _ _ _ _ _ _ (hCa.cons.row.ext (by (exact extA))) (hCb.cons.row.ext (by (exact extA))))
      | (show WL _ _ _ _ _ _ _; first | apply WL.nil | (refine WL.au (k := ?_)) | (apply WL.index tOk; exact rfl; exact rfl; exact rfl; exact rfl; exact rfl; exact rfl; exact rfl; exact rfl; assumption; (exact extA); exact rfl; omega; assumption; intro b off h; have hcc := h; first | (obtain ⟨h1, h2, h3, h4, h5, h6, _⟩ := h) | (obtain ⟨h1, h2, h3, _⟩ := h) | (obtain ⟨h1, h2, _⟩ := h) | (obtain ⟨h1, _⟩ := h)) | (apply WL.guardF; exact rfl; exact rfl) | (apply WL.gD; exact rfl; exact rfl; all_goals intro _) | (apply WL.gN; exact rfl; exact rfl; all_goals intro _) | (apply WL.gB; exact rfl; exact rfl; all_goals intro _))
      | (show Z _ _ _ _ _; first | apply Z.tail | apply Z.then_normal | apply Z.block_normal | apply Z.then_exit | apply Z.block_exit | apply Z.then_ret | apply Z.block_ret | (apply Z.block_other; exact rfl))
      | (show W _ _ _ _ _ _; first | apply W.seq | apply W.region | apply W.block | apply W.skip | apply W.ret | apply W.exit | (apply W.condT; exact rfl) | (apply W.condF; exact rfl) | (apply W.condD; exact rfl; all_goals intro _) | (apply W.condN; exact rfl; all_goals intro _) | (apply W.condB; exact rfl; all_goals intro _)))
    exact Z.body1 Try.results37 rfl fun m => ⟨congrArg Value.bool (dec_false (show ¬ a.t = b.t from fun h => e3 (congrArg CirT.outs h))).symm, Ext.at (by (exact extA)) m⟩
  by_cases e4 : a.bads.2.2 = b.bads.2.2
  rotate_left
  · skip
    refine Spec.of _ Try.func37 rfl Try.ntmps37 (by kernel_rfl) rfl ?_
    repeat' (first
      | (apply WL.box; exact rfl; exact rfl; exact rfl; intro gb w' hb hge hc hx; have hcc := hc; (first | (obtain ⟨h1, h2, h3, _⟩ := hc) | (obtain ⟨h1, h2, _⟩ := hc)); (first | (have h_0 := xA0; clear h_0; have hB := hcc; obtain ⟨xB0, xB1, xB2, xB3, xB4, xB5, xB6, xB7, xB8, _⟩ := hcc; (obtain ⟨gB, rfl⟩ : ∃ x, x = gb := ⟨_, rfl⟩; obtain ⟨wB, rfl⟩ : ∃ x, x = w' := ⟨_, rfl⟩; obtain ⟨hxB, rfl⟩ : ∃ x, x = hx := ⟨_, rfl⟩)) | (have hA := hcc; obtain ⟨xA0, xA1, xA2, xA3, xA4, xA5, xA6, xA7, xA8, _⟩ := hcc; (obtain ⟨gA, rfl⟩ : ∃ x, x = gb := ⟨_, rfl⟩; obtain ⟨wA, rfl⟩ : ∃ x, x = w' := ⟨_, rfl⟩; obtain ⟨hxA, rfl⟩ : ∃ x, x = hx := ⟨_, rfl⟩))))
      | (apply WL.eqStr tOk; exact rfl; exact rfl; exact rfl; exact rfl; exact rfl; exact rfl)
      | (apply WL.neStr tOk; exact rfl; exact rfl; exact rfl; exact rfl; exact rfl; exact rfl)
      | (apply WL.gT; exact rfl; exact rfl; (focus (first | exact dec_false (fun h => h e0) | exact dec_false (fun h => h e1) | (rw [dec_true e2]; rfl) | (rw [dec_true e3]; rfl) | (rw [dec_false e4]; rfl); done)))
      | (apply WL.gF; exact rfl; exact rfl; (focus (first | exact dec_false (fun h => h e0) | exact dec_false (fun h => h e1) | (rw [dec_true e2]; rfl) | (rw [dec_true e3]; rfl) | (rw [dec_false e4]; rfl); done)))
      | (apply W.condKT; exact rfl; (focus (first | exact dec_false (fun h => h e0) | exact dec_false (fun h => h e1) | (rw [dec_true e2]; rfl) | (rw [dec_true e3]; rfl) | (rw [dec_false e4]; rfl); done)))
      | (apply W.condKF; exact rfl; (focus (first | exact dec_false (fun h => h e0) | exact dec_false (fun h => h e1) | (rw [dec_true e2]; rfl) | (rw [dec_true e3]; rfl) | (rw [dec_false e4]; rfl); done)))
      | ((show WL _ _ _ (⟨_, .call ⟨.value (.func 22), _, _⟩, _, _, _, _⟩ :: _) _ _ _); apply WL.callS; exact rfl; exact rfl; exact rfl; exact rfl; exact ref_Ints _ _ _ _ _ _ _ (hCa.ins.row.ext (by (exact extA))) (hCb.ins.row.ext (by (exact extA))))
      | ((show WL _ _ _ (⟨_, .call ⟨.value (.func 22), _, _⟩, _, _, _, _⟩ :: _) _ _ _); apply WL.callS; exact rfl; exact rfl; exact rfl; exact rfl; exact ref_Ints _ _ _ _ _ _ _ (hCa.outs.row.ext (by (exact extA))) (hCb.outs.row.ext (by (exact extA))))
      | ((show WL _ _ _ (⟨_, .call ⟨.value (.func 22), _, _⟩, _, _, _, _⟩ :: _) _ _ _); apply WL.callS; exact rfl; exact rfl; exact rfl; exact rfl; exact ref_Ints _ _ _ _ _ _ _ (hCa.bads.row.ext (by (exact extA))) (hCb.bads.row.ext (by (exact extA))))
      | ((show WL _ _ _ (⟨_, .call ⟨.value (.func 22), _, _⟩, _, _, _, _⟩ :: _) _ _ _); apply WL.callS; exact rfl; exact rfl; exact rfl; exact rfl; exact ref_Ints _ _ _ _ _ _ _ (hCa.cons.row.ext (by (exact extA))) (hCb.cons.row.ext (by (exact extA))))
      | (show WL _ _ _ _ _ _ _; first | apply WL.nil | (refine WL.au (k := ?_)) | (apply WL.index tOk; exact rfl; exact rfl; exact rfl; exact rfl; exact rfl; exact rfl; exact rfl; exact rfl; assumption; (exact extA); exact rfl; omega; assumption; intro b off h; have hcc := h; first | (obtain ⟨h1, h2, h3, h4, h5, h6, _⟩ := h) | (obtain ⟨h1, h2, h3, _⟩ := h) | (obtain ⟨h1, h2, _⟩ := h) | (obtain ⟨h1, _⟩ := h)) | (apply WL.guardF; exact rfl; exact rfl) | (apply WL.gD; exact rfl; exact rfl; all_goals intro _) | (apply WL.gN; exact rfl; exact rfl; all_goals intro _) | (apply WL.gB; exact rfl; exact rfl; all_goals intro _))
      | (show Z _ _ _ _ _; first | apply Z.tail | apply Z.then_normal | apply Z.block_normal | apply Z.then_exit | apply Z.block_exit | apply Z.then_ret | apply Z.block_ret | (apply Z.block_other; exact rfl))
      | (show W _ _ _ _ _ _; first | apply W.seq | apply W.region | apply W.block | apply W.skip | apply W.ret | apply W.exit | (apply W.condT; exact rfl) | (apply W.condF; exact rfl) | (apply W.condD; exact rfl; all_goals intro _) | (apply W.condN; exact rfl; all_goals intro _) | (apply W.condB; exact rfl; all_goals intro _)))
    exact Z.body1 Try.results37 rfl fun m => ⟨congrArg Value.bool (dec_false (show ¬ a.t = b.t from fun h => e4 (congrArg CirT.bads h))).symm, Ext.at (by (exact extA)) m⟩
  by_cases e5 : a.cons.2.2 = b.cons.2.2
  rotate_left
  · skip
    refine Spec.of _ Try.func37 rfl Try.ntmps37 (by kernel_rfl) rfl ?_
    repeat' (first
      | (apply WL.box; exact rfl; exact rfl; exact rfl; intro gb w' hb hge hc hx; have hcc := hc; (first | (obtain ⟨h1, h2, h3, _⟩ := hc) | (obtain ⟨h1, h2, _⟩ := hc)); (first | (have h_0 := xA0; clear h_0; have hB := hcc; obtain ⟨xB0, xB1, xB2, xB3, xB4, xB5, xB6, xB7, xB8, _⟩ := hcc; (obtain ⟨gB, rfl⟩ : ∃ x, x = gb := ⟨_, rfl⟩; obtain ⟨wB, rfl⟩ : ∃ x, x = w' := ⟨_, rfl⟩; obtain ⟨hxB, rfl⟩ : ∃ x, x = hx := ⟨_, rfl⟩)) | (have hA := hcc; obtain ⟨xA0, xA1, xA2, xA3, xA4, xA5, xA6, xA7, xA8, _⟩ := hcc; (obtain ⟨gA, rfl⟩ : ∃ x, x = gb := ⟨_, rfl⟩; obtain ⟨wA, rfl⟩ : ∃ x, x = w' := ⟨_, rfl⟩; obtain ⟨hxA, rfl⟩ : ∃ x, x = hx := ⟨_, rfl⟩))))
      | (apply WL.eqStr tOk; exact rfl; exact rfl; exact rfl; exact rfl; exact rfl; exact rfl)
      | (apply WL.neStr tOk; exact rfl; exact rfl; exact rfl; exact rfl; exact rfl; exact rfl)
      | (apply WL.gT; exact rfl; exact rfl; (focus (first | exact dec_false (fun h => h e0) | exact dec_false (fun h => h e1) | (rw [dec_true e2]; rfl) | (rw [dec_true e3]; rfl) | (rw [dec_true e4]; rfl) | (rw [dec_false e5]; rfl); done)))
      | (apply WL.gF; exact rfl; exact rfl; (focus (first | exact dec_false (fun h => h e0) | exact dec_false (fun h => h e1) | (rw [dec_true e2]; rfl) | (rw [dec_true e3]; rfl) | (rw [dec_true e4]; rfl) | (rw [dec_false e5]; rfl); done)))
      | (apply W.condKT; exact rfl; (focus (first | exact dec_false (fun h => h e0) | exact dec_false (fun h => h e1) | (rw [dec_true e2]; rfl) | (rw [dec_true e3]; rfl) | (rw [dec_true e4]; rfl) | (rw [dec_false e5]; rfl); done)))
      | (apply W.condKF; exact rfl; (focus (first | exact dec_false (fun h => h e0) | exact dec_false (fun h => h e1) | (rw [dec_true e2]; rfl) | (rw [dec_true e3]; rfl) | (rw [dec_true e4]; rfl) | (rw [dec_false e5]; rfl); done)))
      | ((show WL _ _ _ (⟨_, .call ⟨.value (.func 22), _, _⟩, _, _, _, _⟩ :: _) _ _ _); apply WL.callS; exact rfl; exact rfl; exact rfl; exact rfl; exact ref_Ints _ _ _ _ _ _ _ (hCa.ins.row.ext (by (exact extA))) (hCb.ins.row.ext (by (exact extA))))
      | ((show WL _ _ _ (⟨_, .call ⟨.value (.func 22), _, _⟩, _, _, _, _⟩ :: _) _ _ _); apply WL.callS; exact rfl; exact rfl; exact rfl; exact rfl; exact ref_Ints _ _ _ _ _ _ _ (hCa.outs.row.ext (by (exact extA))) (hCb.outs.row.ext (by (exact extA))))
      | ((show WL _ _ _ (⟨_, .call ⟨.value (.func 22), _, _⟩, _, _, _, _⟩ :: _) _ _ _); apply WL.callS; exact rfl; exact rfl; exact rfl; exact rfl; exact ref_Ints _ _ _ _ _ _ _ (hCa.bads.row.ext (by (exact extA))) (hCb.bads.row.ext (by (exact extA))))
      | ((show WL _ _ _ (⟨_, .call ⟨.value (.func 22), _, _⟩, _, _, _, _⟩ :: _) _ _ _); apply WL.callS; exact rfl; exact rfl; exact rfl; exact rfl; exact ref_Ints _ _ _ _ _ _ _ (hCa.cons.row.ext (by (exact extA))) (hCb.cons.row.ext (by (exact extA))))
      | (show WL _ _ _ _ _ _ _; first | apply WL.nil | (refine WL.au (k := ?_)) | (apply WL.index tOk; exact rfl; exact rfl; exact rfl; exact rfl; exact rfl; exact rfl; exact rfl; exact rfl; assumption; (exact extA); exact rfl; omega; assumption; intro b off h; have hcc := h; first | (obtain ⟨h1, h2, h3, h4, h5, h6, _⟩ := h) | (obtain ⟨h1, h2, h3, _⟩ := h) | (obtain ⟨h1, h2, _⟩ := h) | (obtain ⟨h1, _⟩ := h)) | (apply WL.guardF; exact rfl; exact rfl) | (apply WL.gD; exact rfl; exact rfl; all_goals intro _) | (apply WL.gN; exact rfl; exact rfl; all_goals intro _) | (apply WL.gB; exact rfl; exact rfl; all_goals intro _))
      | (show Z _ _ _ _ _; first | apply Z.tail | apply Z.then_normal | apply Z.block_normal | apply Z.then_exit | apply Z.block_exit | apply Z.then_ret | apply Z.block_ret | (apply Z.block_other; exact rfl))
      | (show W _ _ _ _ _ _; first | apply W.seq | apply W.region | apply W.block | apply W.skip | apply W.ret | apply W.exit | (apply W.condT; exact rfl) | (apply W.condF; exact rfl) | (apply W.condD; exact rfl; all_goals intro _) | (apply W.condN; exact rfl; all_goals intro _) | (apply W.condB; exact rfl; all_goals intro _)))
    exact Z.body1 Try.results37 rfl fun m => ⟨congrArg Value.bool (dec_false (show ¬ a.t = b.t from fun h => e5 (congrArg CirT.cons h))).symm, Ext.at (by (exact extA)) m⟩
  by_cases l0 : a.lat.2.2.length = b.lat.2.2.length
  rotate_left
  · skip
    refine Spec.of _ Try.func37 rfl Try.ntmps37 (by kernel_rfl) rfl ?_
    repeat' (first
      | (apply WL.box; exact rfl; exact rfl; exact rfl; intro gb w' hb hge hc hx; have hcc := hc; (first | (obtain ⟨h1, h2, h3, _⟩ := hc) | (obtain ⟨h1, h2, _⟩ := hc)); (first | (have h_0 := xA0; clear h_0; have hB := hcc; obtain ⟨xB0, xB1, xB2, xB3, xB4, xB5, xB6, xB7, xB8, _⟩ := hcc; (obtain ⟨gB, rfl⟩ : ∃ x, x = gb := ⟨_, rfl⟩; obtain ⟨wB, rfl⟩ : ∃ x, x = w' := ⟨_, rfl⟩; obtain ⟨hxB, rfl⟩ : ∃ x, x = hx := ⟨_, rfl⟩)) | (have hA := hcc; obtain ⟨xA0, xA1, xA2, xA3, xA4, xA5, xA6, xA7, xA8, _⟩ := hcc; (obtain ⟨gA, rfl⟩ : ∃ x, x = gb := ⟨_, rfl⟩; obtain ⟨wA, rfl⟩ : ∃ x, x = w' := ⟨_, rfl⟩; obtain ⟨hxA, rfl⟩ : ∃ x, x = hx := ⟨_, rfl⟩))))
      | (apply WL.eqStr tOk; exact rfl; exact rfl; exact rfl; exact rfl; exact rfl; exact rfl)
      | (apply WL.neStr tOk; exact rfl; exact rfl; exact rfl; exact rfl; exact rfl; exact rfl)
      | (apply WL.gT; exact rfl; exact rfl; (focus (first | exact dec_false (fun h => h e0) | exact dec_false (fun h => h e1) | (rw [dec_true e2]; rfl) | (rw [dec_true e3]; rfl) | (rw [dec_true e4]; rfl) | (rw [dec_true e5]; rfl) | exact dec_true (show ((a.lat.2.2.length : Nat) : Int) ≠ (b.lat.2.2.length : Nat) by omega); done)))
      | (apply WL.gF; exact rfl; exact rfl; (focus (first | exact dec_false (fun h => h e0) | exact dec_false (fun h => h e1) | (rw [dec_true e2]; rfl) | (rw [dec_true e3]; rfl) | (rw [dec_true e4]; rfl) | (rw [dec_true e5]; rfl) | exact dec_true (show ((a.lat.2.2.length : Nat) : Int) ≠ (b.lat.2.2.length : Nat) by omega); done)))
      | (apply W.condKT; exact rfl; (focus (first | exact dec_false (fun h => h e0) | exact dec_false (fun h => h e1) | (rw [dec_true e2]; rfl) | (rw [dec_true e3]; rfl) | (rw [dec_true e4]; rfl) | (rw [dec_true e5]; rfl) | exact dec_true (show ((a.lat.2.2.length : Nat) : Int) ≠ (b.lat.2.2.length : Nat) by omega); done)))
      | (apply W.condKF; exact rfl; (focus (first | exact dec_false (fun h => h e0) | exact dec_false (fun h => h e1) | (rw [dec_true e2]; rfl) | (rw [dec_true e3]; rfl) | (rw [dec_true e4]; rfl) | (rw [dec_true e5]; rfl) | exact dec_true (show ((a.lat.2.2.length : Nat) : Int) ≠ (b.lat.2.2.length : Nat) by omega); done)))
      | ((show WL _ _ _ (⟨_, .call ⟨.value (.func 22), _, _⟩, _, _, _, _⟩ :: _) _ _ _); apply WL.callS; exact rfl; exact rfl; exact rfl; exact rfl; exact ref_Ints _ _ _ _ _ _ _ (hCa.ins.row.ext (by (exact extA))) (hCb.ins.row.ext (by (exact extA))))
      | ((show WL _ _ _ (⟨_, .call ⟨.value (.func 22), _, _⟩, _, _, _, _⟩ :: _) _ _ _); apply WL.callS; exact rfl; exact rfl; exact rfl; exact rfl; exact ref_Ints _ _ _ _ _ _ _ (hCa.outs.row.ext (by (exact extA))) (hCb.outs.row.ext (by (exact extA))))
      | ((show WL _ _ _ (⟨_, .call ⟨.value (.func 22), _, _⟩, _, _, _, _⟩ :: _) _ _ _); apply WL.callS; exact rfl; exact rfl; exact rfl; exact rfl; exact ref_Ints _ _ _ _ _ _ _ (hCa.bads.row.ext (by (exact extA))) (hCb.bads.row.ext (by (exact extA))))
      | ((show WL _ _ _ (⟨_, .call ⟨.value (.func 22), _, _⟩, _, _, _, _⟩ :: _) _ _ _); apply WL.callS; exact rfl; exact rfl; exact rfl; exact rfl; exact ref_Ints _ _ _ _ _ _ _ (hCa.cons.row.ext (by (exact extA))) (hCb.cons.row.ext (by (exact extA))))
      | (show WL _ _ _ _ _ _ _; first | apply WL.nil | (refine WL.au (k := ?_)) | (apply WL.index tOk; exact rfl; exact rfl; exact rfl; exact rfl; exact rfl; exact rfl; exact rfl; exact rfl; assumption; (exact extA); exact rfl; omega; assumption; intro b off h; have hcc := h; first | (obtain ⟨h1, h2, h3, h4, h5, h6, _⟩ := h) | (obtain ⟨h1, h2, h3, _⟩ := h) | (obtain ⟨h1, h2, _⟩ := h) | (obtain ⟨h1, _⟩ := h)) | (apply WL.guardF; exact rfl; exact rfl) | (apply WL.gD; exact rfl; exact rfl; all_goals intro _) | (apply WL.gN; exact rfl; exact rfl; all_goals intro _) | (apply WL.gB; exact rfl; exact rfl; all_goals intro _))
      | (show Z _ _ _ _ _; first | apply Z.tail | apply Z.then_normal | apply Z.block_normal | apply Z.then_exit | apply Z.block_exit | apply Z.then_ret | apply Z.block_ret | (apply Z.block_other; exact rfl))
      | (show W _ _ _ _ _ _; first | apply W.seq | apply W.region | apply W.block | apply W.skip | apply W.ret | apply W.exit | (apply W.condT; exact rfl) | (apply W.condF; exact rfl) | (apply W.condD; exact rfl; all_goals intro _) | (apply W.condN; exact rfl; all_goals intro _) | (apply W.condB; exact rfl; all_goals intro _)))
    exact Z.body1 Try.results37 rfl fun m => ⟨congrArg Value.bool (dec_false (show ¬ a.t = b.t from fun h => l0 (congrArg (fun c : CirT => c.lat.length) h))).symm, Ext.at (by (exact extA)) m⟩
  by_cases l1 : a.gates.2.2.length = b.gates.2.2.length
  rotate_left
  · skip
    refine Spec.of _ Try.func37 rfl Try.ntmps37 (by kernel_rfl) rfl ?_
    repeat' (first
      | (apply WL.box; exact rfl; exact rfl; exact rfl; intro gb w' hb hge hc hx; have hcc := hc; (first | (obtain ⟨h1, h2, h3, _⟩ := hc) | (obtain ⟨h1, h2, _⟩ := hc)); (first | (have h_0 := xA0; clear h_0; have hB := hcc; obtain ⟨xB0, xB1, xB2, xB3, xB4, xB5, xB6, xB7, xB8, _⟩ := hcc; (obtain ⟨gB, rfl⟩ : ∃ x, x = gb := ⟨_, rfl⟩; obtain ⟨wB, rfl⟩ : ∃ x, x = w' := ⟨_, rfl⟩; obtain ⟨hxB, rfl⟩ : ∃ x, x = hx := ⟨_, rfl⟩)) | (have hA := hcc; obtain ⟨xA0, xA1, xA2, xA3, xA4, xA5, xA6, xA7, xA8, _⟩ := hcc; (obtain ⟨gA, rfl⟩ : ∃ x, x = gb := ⟨_, rfl⟩; obtain ⟨wA, rfl⟩ : ∃ x, x = w' := ⟨_, rfl⟩; obtain ⟨hxA, rfl⟩ : ∃ x, x = hx := ⟨_, rfl⟩))))
      | (apply WL.eqStr tOk; exact rfl; exact rfl; exact rfl; exact rfl; exact rfl; exact rfl)
      | (apply WL.neStr tOk; exact rfl; exact rfl; exact rfl; exact rfl; exact rfl; exact rfl)
      | (apply WL.gT; exact rfl; exact rfl; (focus (first | exact dec_false (fun h => h e0) | exact dec_false (fun h => h e1) | (rw [dec_true e2]; rfl) | (rw [dec_true e3]; rfl) | (rw [dec_true e4]; rfl) | (rw [dec_true e5]; rfl) | exact dec_false (show ¬ ((a.lat.2.2.length : Nat) : Int) ≠ (b.lat.2.2.length : Nat) by omega) | exact dec_true (show ((a.gates.2.2.length : Nat) : Int) ≠ (b.gates.2.2.length : Nat) by omega); done)))
      | (apply WL.gF; exact rfl; exact rfl; (focus (first | exact dec_false (fun h => h e0) | exact dec_false (fun h => h e1) | (rw [dec_true e2]; rfl) | (rw [dec_true e3]; rfl) | (rw [dec_true e4]; rfl) | (rw [dec_true e5]; rfl) | exact dec_false (show ¬ ((a.lat.2.2.length : Nat) : Int) ≠ (b.lat.2.2.length : Nat) by omega) | exact dec_true (show ((a.gates.2.2.length : Nat) : Int) ≠ (b.gates.2.2.length : Nat) by omega); done)))
      | (apply W.condKT; exact rfl; (focus (first | exact dec_false (fun h => h e0) | exact dec_false (fun h => h e1) | (rw [dec_true e2]; rfl) | (rw [dec_true e3]; rfl) | (rw [dec_true e4]; rfl) | (rw [dec_true e5]; rfl) | exact dec_false (show ¬ ((a.lat.2.2.length : Nat) : Int) ≠ (b.lat.2.2.length : Nat) by omega) | exact dec_true (show ((a.gates.2.2.length : Nat) : Int) ≠ (b.gates.2.2.length : Nat) by omega); done)))
      | (apply W.condKF; exact rfl; (focus (first | exact dec_false (fun h => h e0) | exact dec_false (fun h => h e1) | (rw [dec_true e2]; rfl) | (rw [dec_true e3]; rfl) | (rw [dec_true e4]; rfl) | (rw [dec_true e5]; rfl) | exact dec_false (show ¬ ((a.lat.2.2.length : Nat) : Int) ≠ (b.lat.2.2.length : Nat) by omega) | exact dec_true (show ((a.gates.2.2.length : Nat) : Int) ≠ (b.gates.2.2.length : Nat) by omega); done)))
      | ((show WL _ _ _ (⟨_, .call ⟨.value (.func 22), _, _⟩, _, _, _, _⟩ :: _) _ _ _); apply WL.callS; exact rfl; exact rfl; exact rfl; exact rfl; exact ref_Ints _ _ _ _ _ _ _ (hCa.ins.row.ext (by (exact extA))) (hCb.ins.row.ext (by (exact extA))))
      | ((show WL _ _ _ (⟨_, .call ⟨.value (.func 22), _, _⟩, _, _, _, _⟩ :: _) _ _ _); apply WL.callS; exact rfl; exact rfl; exact rfl; exact rfl; exact ref_Ints _ _ _ _ _ _ _ (hCa.outs.row.ext (by (exact extA))) (hCb.outs.row.ext (by (exact extA))))
      | ((show WL _ _ _ (⟨_, .call ⟨.value (.func 22), _, _⟩, _, _, _, _⟩ :: _) _ _ _); apply WL.callS; exact rfl; exact rfl; exact rfl; exact rfl; exact ref_Ints _ _ _ _ _ _ _ (hCa.bads.row.ext (by (exact extA))) (hCb.bads.row.ext (by (exact extA))))
      | ((show WL _ _ _ (⟨_, .call ⟨.value (.func 22), _, _⟩, _, _, _, _⟩ :: _) _ _ _); apply WL.callS; exact rfl; exact rfl; exact rfl; exact rfl; exact ref_Ints _ _ _ _ _ _ _ (hCa.cons.row.ext (by (exact extA))) (hCb.cons.row.ext (by (exact extA))))
      | (show WL _ _ _ _ _ _ _; first | apply WL.nil | (refine WL.au (k := ?_)) | (apply WL.index tOk; exact rfl; exact rfl; exact rfl; exact rfl; exact rfl; exact rfl; exact rfl; exact rfl; assumption; (exact extA); exact rfl; omega; assumption; intro b off h; have hcc := h; first | (obtain ⟨h1, h2, h3, h4, h5, h6, _⟩ := h) | (obtain ⟨h1, h2, h3, _⟩ := h) | (obtain ⟨h1, h2, _⟩ := h) | (obtain ⟨h1, _⟩ := h)) | (apply WL.guardF; exact rfl; exact rfl) | (apply WL.gD; exact rfl; exact rfl; all_goals intro _) | (apply WL.gN; exact rfl; exact rfl; all_goals intro _) | (apply WL.gB; exact rfl; exact rfl; all_goals intro _))
      | (show Z _ _ _ _ _; first | apply Z.tail | apply Z.then_normal | apply Z.block_normal | apply Z.then_exit | apply Z.block_exit | apply Z.then_ret | apply Z.block_ret | (apply Z.block_other; exact rfl))
      | (show W _ _ _ _ _ _; first | apply W.seq | apply W.region | apply W.block | apply W.skip | apply W.ret | apply W.exit | (apply W.condT; exact rfl) | (apply W.condF; exact rfl) | (apply W.condD; exact rfl; all_goals intro _) | (apply W.condN; exact rfl; all_goals intro _) | (apply W.condB; exact rfl; all_goals intro _)))
    exact Z.body1 Try.results37 rfl fun m => ⟨congrArg Value.bool (dec_false (show ¬ a.t = b.t from fun h => l1 (congrArg (fun c : CirT => c.gates.length) h))).symm, Ext.at (by (exact extA)) m⟩
  by_cases l2 : a.syms.2.2.length = b.syms.2.2.length
  rotate_left
  · skip
    refine Spec.of _ Try.func37 rfl Try.ntmps37 (by kernel_rfl) rfl ?_
    repeat' (first
      | (apply WL.box; exact rfl; exact rfl; exact rfl; intro gb w' hb hge hc hx; have hcc := hc; (first | (obtain ⟨h1, h2, h3, _⟩ := hc) | (obtain ⟨h1, h2, _⟩ := hc)); (first | (have h_0 := xA0; clear h_0; have hB := hcc; obtain ⟨xB0, xB1, xB2, xB3, xB4, xB5, xB6, xB7, xB8, _⟩ := hcc; (obtain ⟨gB, rfl⟩ : ∃ x, x = gb := ⟨_, rfl⟩; obtain ⟨wB, rfl⟩ : ∃ x, x = w' := ⟨_, rfl⟩; obtain ⟨hxB, rfl⟩ : ∃ x, x = hx := ⟨_, rfl⟩)) | (have hA := hcc; obtain ⟨xA0, xA1, xA2, xA3, xA4, xA5, xA6, xA7, xA8, _⟩ := hcc; (obtain ⟨gA, rfl⟩ : ∃ x, x = gb := ⟨_, rfl⟩; obtain ⟨wA, rfl⟩ : ∃ x, x = w' := ⟨_, rfl⟩; obtain ⟨hxA, rfl⟩ : ∃ x, x = hx := ⟨_, rfl⟩))))
      | (apply WL.eqStr tOk; exact rfl; exact rfl; exact rfl; exact rfl; exact rfl; exact rfl)
      | (apply WL.neStr tOk; exact rfl; exact rfl; exact rfl; exact rfl; exact rfl; exact rfl)
      | (apply WL.gT; exact rfl; exact rfl; (focus (first | exact dec_false (fun h => h e0) | exact dec_false (fun h => h e1) | (rw [dec_true e2]; rfl) | (rw [dec_true e3]; rfl) | (rw [dec_true e4]; rfl) | (rw [dec_true e5]; rfl) | exact dec_false (show ¬ ((a.lat.2.2.length : Nat) : Int) ≠ (b.lat.2.2.length : Nat) by omega) | exact dec_false (show ¬ ((a.gates.2.2.length : Nat) : Int) ≠ (b.gates.2.2.length : Nat) by omega) | exact dec_true (show ((a.syms.2.2.length : Nat) : Int) ≠ (b.syms.2.2.length : Nat) by omega); done)))
      | (apply WL.gF; exact rfl; exact rfl; (focus (first | exact dec_false (fun h => h e0) | exact dec_false (fun h => h e1) | (rw [dec_true e2]; rfl) | (rw [dec_true e3]; rfl) | (rw [dec_true e4]; rfl) | (rw [dec_true e5]; rfl) | exact dec_false (show ¬ ((a.lat.2.2.length : Nat) : Int) ≠ (b.lat.2.2.length : Nat) by omega) | exact dec_false (show ¬ ((a.gates.2.2.length : Nat) : Int) ≠ (b.gates.2.2.length : Nat) by omega) | exact dec_true (show ((a.syms.2.2.length : Nat) : Int) ≠ (b.syms.2.2.length : Nat) by omega); done)))
      | (apply W.condKT; exact rfl; (focus (first | exact dec_false (fun h => h e0) | exact dec_false (fun h => h e1) | (rw [dec_true e2]; rfl) | (rw [dec_true e3]; rfl) | (rw [dec_true e4]; rfl) | (rw [dec_true e5]; rfl) | exact dec_false (show ¬ ((a.lat.2.2.length : Nat) : Int) ≠ (b.lat.2.2.length : Nat) by omega) | exact dec_false (show ¬ ((a.gates.2.2.length : Nat) : Int) ≠ (b.gates.2.2.length : Nat) by omega) | exact dec_true (show ((a.syms.2.2.length : Nat) : Int) ≠ (b.syms.2.2.length : Nat) by omega); done)))
      | (apply W.condKF; exact rfl; (focus (first | exact dec_false (fun h => h e0) | exact dec_false (fun h => h e1) | (rw [dec_true e2]; rfl) | (rw [dec_true e3]; rfl) | (rw [dec_true e4]; rfl) | (rw [dec_true e5]; rfl) | exact dec_false (show ¬ ((a.lat.2.2.length : Nat) : Int) ≠ (b.lat.2.2.length : Nat) by omega) | exact dec_false (show ¬ ((a.gates.2.2.length : Nat) : Int) ≠ (b.gates.2.2.length : Nat) by omega) | exact dec_true (show ((a.syms.2.2.length : Nat) : Int) ≠ (b.syms.2.2.length : Nat) by omega); done)))
      | ((show WL _ _ _ (⟨_, .call ⟨.value (.func 22), _, _⟩, _, _, _, _⟩ :: _) _ _ _); apply WL.callS; exact rfl; exact rfl; exact rfl; exact rfl; exact ref_Ints _ _ _ _ _ _ _ (hCa.ins.row.ext (by (exact extA))) (hCb.ins.row.ext (by (exact extA))))
      | ((show WL _ _ _ (⟨_, .call ⟨.value (.func 22), _, _⟩, _, _, _, _⟩ :: _) _ _ _); apply WL.callS; exact rfl; exact rfl; exact rfl; exact rfl; exact ref_Ints _ _ _ _ _ _ _ (hCa.outs.row.ext (by (exact extA))) (hCb.outs.row.ext (by (exact extA))))
      | ((show WL _ _ _ (⟨_, .call ⟨.value (.func 22), _, _⟩, _, _, _, _⟩ :: _) _ _ _); apply WL.callS; exact rfl; exact rfl; exact rfl; exact rfl; exact ref_Ints _ _ _ _ _ _ _ (hCa.bads.row.ext (by (exact extA))) (hCb.bads.row.ext (by (exact extA))))
      | ((show WL _ _ _ (⟨_, .call ⟨.value (.func 22), _, _⟩, _, _, _, _⟩ :: _) _ _ _); apply WL.callS; exact rfl; exact rfl; exact rfl; exact rfl; exact ref_Ints _ _ _ _ _ _ _ (hCa.cons.row.ext (by (exact extA))) (hCb.cons.row.ext (by (exact extA))))
      | (show WL _ _ _ _ _ _ _; first | apply WL.nil | (refine WL.au (k := ?_)) | (apply WL.index tOk; exact rfl; exact rfl; exact rfl; exact rfl; exact rfl; exact rfl; exact rfl; exact rfl; assumption; (exact extA); exact rfl; omega; assumption; intro b off h; have hcc := h; first | (obtain ⟨h1, h2, h3, h4, h5, h6, _⟩ := h) | (obtain ⟨h1, h2, h3, _⟩ := h) | (obtain ⟨h1, h2, _⟩ := h) | (obtain ⟨h1, _⟩ := h)) | (apply WL.guardF; exact rfl; exact rfl) | (apply WL.gD; exact rfl; exact rfl; all_goals intro _) | (apply WL.gN; exact rfl; exact rfl; all_goals intro _) | (apply WL.gB; exact rfl; exact rfl; all_goals intro _))
      | (show Z _ _ _ _ _; first | apply Z.tail | apply Z.then_normal | apply Z.block_normal | apply Z.then_exit | apply Z.block_exit | apply Z.then_ret | apply Z.block_ret | (apply Z.block_other; exact rfl))
      | (show W _ _ _ _ _ _; first | apply W.seq | apply W.region | apply W.block | apply W.skip | apply W.ret | apply W.exit | (apply W.condT; exact rfl) | (apply W.condF; exact rfl) | (apply W.condD; exact rfl; all_goals intro _) | (apply W.condN; exact rfl; all_goals intro _) | (apply W.condB; exact rfl; all_goals intro _)))
    exact Z.body1 Try.results37 rfl fun m => ⟨congrArg Value.bool (dec_false (show ¬ a.t = b.t from fun h => l2 (congrArg (fun c : CirT => c.syms.length) h))).symm, Ext.at (by (exact extA)) m⟩
  refine Spec.of _ Try.func37 rfl Try.ntmps37 (by kernel_rfl) rfl ?_
  repeat' (first
    | (apply WL.box; exact rfl; exact rfl; exact rfl; intro gb w' hb hge hc hx; have hcc := hc; (first | (obtain ⟨h1, h2, h3, _⟩ := hc) | (obtain ⟨h1, h2, _⟩ := hc)); (first | (have h_0 := xA0; clear h_0; have hB := hcc; obtain ⟨xB0, xB1, xB2, xB3, xB4, xB5, xB6, xB7, xB8, _⟩ := hcc; (obtain ⟨gB, rfl⟩ : ∃ x, x = gb := ⟨_, rfl⟩; obtain ⟨wB, rfl⟩ : ∃ x, x = w' := ⟨_, rfl⟩; obtain ⟨hxB, rfl⟩ : ∃ x, x = hx := ⟨_, rfl⟩)) | (have hA := hcc; obtain ⟨xA0, xA1, xA2, xA3, xA4, xA5, xA6, xA7, xA8, _⟩ := hcc; (obtain ⟨gA, rfl⟩ : ∃ x, x = gb := ⟨_, rfl⟩; obtain ⟨wA, rfl⟩ : ∃ x, x = w' := ⟨_, rfl⟩; obtain ⟨hxA, rfl⟩ : ∃ x, x = hx := ⟨_, rfl⟩))))
    | (apply WL.eqStr tOk; exact rfl; exact rfl; exact rfl; exact rfl; exact rfl; exact rfl)
    | (apply WL.neStr tOk; exact rfl; exact rfl; exact rfl; exact rfl; exact rfl; exact rfl)
    | (apply WL.gT; exact rfl; exact rfl; (focus (first | exact dec_false (fun h => h e0) | exact dec_false (fun h => h e1) | (rw [dec_true e2]; rfl) | (rw [dec_true e3]; rfl) | (rw [dec_true e4]; rfl) | (rw [dec_true e5]; rfl) | exact dec_false (show ¬ ((a.lat.2.2.length : Nat) : Int) ≠ (b.lat.2.2.length : Nat) by omega) | exact dec_false (show ¬ ((a.gates.2.2.length : Nat) : Int) ≠ (b.gates.2.2.length : Nat) by omega) | exact dec_false (show ¬ ((a.syms.2.2.length : Nat) : Int) ≠ (b.syms.2.2.length : Nat) by omega); done)))
    | (apply WL.gF; exact rfl; exact rfl; (focus (first | exact dec_false (fun h => h e0) | exact dec_false (fun h => h e1) | (rw [dec_true e2]; rfl) | (rw [dec_true e3]; rfl) | (rw [dec_true e4]; rfl) | (rw [dec_true e5]; rfl) | exact dec_false (show ¬ ((a.lat.2.2.length : Nat) : Int) ≠ (b.lat.2.2.length : Nat) by omega) | exact dec_false (show ¬ ((a.gates.2.2.length : Nat) : Int) ≠ (b.gates.2.2.length : Nat) by omega) | exact dec_false (show ¬ ((a.syms.2.2.length : Nat) : Int) ≠ (b.syms.2.2.length : Nat) by omega); done)))
    | (apply W.condKT; exact rfl; (focus (first | exact dec_false (fun h => h e0) | exact dec_false (fun h => h e1) | (rw [dec_true e2]; rfl) | (rw [dec_true e3]; rfl) | (rw [dec_true e4]; rfl) | (rw [dec_true e5]; rfl) | exact dec_false (show ¬ ((a.lat.2.2.length : Nat) : Int) ≠ (b.lat.2.2.length : Nat) by omega) | exact dec_false (show ¬ ((a.gates.2.2.length : Nat) : Int) ≠ (b.gates.2.2.length : Nat) by omega) | exact dec_false (show ¬ ((a.syms.2.2.length : Nat) : Int) ≠ (b.syms.2.2.length : Nat) by omega); done)))
    | (apply W.condKF; exact rfl; (focus (first | exact dec_false (fun h => h e0) | exact dec_false (fun h => h e1) | (rw [dec_true e2]; rfl) | (rw [dec_true e3]; rfl) | (rw [dec_true e4]; rfl) | (rw [dec_true e5]; rfl) | exact dec_false (show ¬ ((a.lat.2.2.length : Nat) : Int) ≠ (b.lat.2.2.length : Nat) by omega) | exact dec_false (show ¬ ((a.gates.2.2.length : Nat) : Int) ≠ (b.gates.2.2.length : Nat) by omega) | exact dec_false (show ¬ ((a.syms.2.2.length : Nat) : Int) ≠ (b.syms.2.2.length : Nat) by omega); done)))
    | ((show WL _ _ _ (⟨_, .call ⟨.value (.func 22), _, _⟩, _, _, _, _⟩ :: _) _ _ _); apply WL.callS; exact rfl; exact rfl; exact rfl; exact rfl; exact ref_Ints _ _ _ _ _ _ _ (hCa.ins.row.ext (by (exact extA))) (hCb.ins.row.ext (by (exact extA))))
    | ((show WL _ _ _ (⟨_, .call ⟨.value (.func 22), _, _⟩, _, _, _, _⟩ :: _) _ _ _); apply WL.callS; exact rfl; exact rfl; exact rfl; exact rfl; exact ref_Ints _ _ _ _ _ _ _ (hCa.outs.row.ext (by (exact extA))) (hCb.outs.row.ext (by (exact extA))))
    | ((show WL _ _ _ (⟨_, .call ⟨.value (.func 22), _, _⟩, _, _, _, _⟩ :: _) _ _ _); apply WL.callS; exact rfl; exact rfl; exact rfl; exact rfl; exact ref_Ints _ _ _ _ _ _ _ (hCa.bads.row.ext (by (exact extA))) (hCb.bads.row.ext (by (exact extA))))
    | ((show WL _ _ _ (⟨_, .call ⟨.value (.func 22), _, _⟩, _, _, _, _⟩ :: _) _ _ _); apply WL.callS; exact rfl; exact rfl; exact rfl; exact rfl; exact ref_Ints _ _ _ _ _ _ _ (hCa.cons.row.ext (by (exact extA))) (hCb.cons.row.ext (by (exact extA))))
    | (show WL _ _ _ _ _ _ _; first | apply WL.nil | (refine WL.au (k := ?_)) | (apply WL.index tOk; exact rfl; exact rfl; exact rfl; exact rfl; exact rfl; exact rfl; exact rfl; exact rfl; assumption; (exact extA); exact rfl; omega; assumption; intro b off h; have hcc := h; first | (obtain ⟨h1, h2, h3, h4, h5, h6, _⟩ := h) | (obtain ⟨h1, h2, h3, _⟩ := h) | (obtain ⟨h1, h2, _⟩ := h) | (obtain ⟨h1, _⟩ := h)) | (apply WL.guardF; exact rfl; exact rfl) | (apply WL.gD; exact rfl; exact rfl; all_goals intro _) | (apply WL.gN; exact rfl; exact rfl; all_goals intro _) | (apply WL.gB; exact rfl; exact rfl; all_goals intro _))
    | (show Z _ _ _ _ _; first | apply Z.tail | apply Z.then_normal | apply Z.block_normal | apply Z.then_exit | apply Z.block_exit | apply Z.then_ret | apply Z.block_ret | (apply Z.block_other; exact rfl))
    | (show W _ _ _ _ _ _; first | apply W.seq | apply W.region | apply W.block | apply W.skip | apply W.ret | apply W.exit | (apply W.condT; exact rfl) | (apply W.condF; exact rfl) | (apply W.condD; exact rfl; all_goals intro _) | (apply W.condN; exact rfl; all_goals intro _) | (apply W.condB; exact rfl; all_goals intro _)))
  have hX : Ext w wB := (by (exact extA))
  have hA' := hA.ext hxB
  have ka2 : wB.cell? ⟨gA, 0 + 1 + 1, none⟩ = some (rowVal a.lat) := hA'.2.2.1
  have ka6 : wB.cell? ⟨gA, 0 + 1 + 1 + 1 + 1 + 1 + 1, none⟩ = some (rowVal a.gates) := hA'.2.2.2.2.2.2.1
  have ka7 : wB.cell? ⟨gA, 0 + 1 + 1 + 1 + 1 + 1 + 1 + 1, none⟩ = some (rowVal a.syms) := hA'.2.2.2.2.2.2.2.1
  have Ra0 := hCa.lat.row.ext hX
  have Rb0 := hCb.lat.row.ext hX
  have hln0 := Ra0.len
  refine W.loop1 a.lat.2.2.length (fun k => k ≤ a.lat.2.2.length ∧ ∀ i, i < k → a.lat.2.2[i]? = b.lat.2.2[i]?) (fun k => [(2, .pointer (some ⟨gA, 0, none⟩)), (3, .pointer (some ⟨gB, 0, none⟩)), (5, .int .i64 k)]) ⟨by omega, fun i hi => by omega⟩ (fun k h => h.1) ⟨rfl, rfl, rfl, trivial⟩ ?_
  rintro k ⟨hk, heq⟩
  by_cases hlt : k < a.lat.2.2.length
  · obtain ⟨x, hx⟩ := getI a.lat.2.2 hlt
    obtain ⟨y, hy⟩ := getI b.lat.2.2 (show k < b.lat.2.2.length by omega)
    by_cases hxy : x = y
    · subst hxy
      repeat' (first
        | (apply WL.gT; exact rfl; exact rfl; (focus (first | exact dec_true (show ((k : Nat) : Int) < (a.lat.2.2.length : Int) by omega) | exact dec_false (fun h => h rfl); done)))
        | (apply WL.gF; exact rfl; exact rfl; (focus (first | exact dec_true (show ((k : Nat) : Int) < (a.lat.2.2.length : Int) by omega) | exact dec_false (fun h => h rfl); done)))
        | (apply QL.gT; exact rfl; exact rfl; (focus (first | exact dec_true (show ((k : Nat) : Int) < (a.lat.2.2.length : Int) by omega) | exact dec_false (fun h => h rfl); done)))
        | (apply QL.gF; exact rfl; exact rfl; (focus (first | exact dec_true (show ((k : Nat) : Int) < (a.lat.2.2.length : Int) by omega) | exact dec_false (fun h => h rfl); done)))
        | (apply W.condKT; exact rfl; (focus (first | exact dec_true (show ((k : Nat) : Int) < (a.lat.2.2.length : Int) by omega) | exact dec_false (fun h => h rfl); done)))
        | (apply W.condKF; exact rfl; (focus (first | exact dec_true (show ((k : Nat) : Int) < (a.lat.2.2.length : Int) by omega) | exact dec_false (fun h => h rfl); done)))
        | (apply WL.neqS tOk; exact rfl; exact rfl; exact rfl; exact rfl; exact rfl; exact rfl; exact rfl; exact factLt)
        | (apply QL.neqS tOk; exact rfl; exact rfl; exact rfl; exact rfl; exact rfl; exact rfl; exact rfl; exact factLt)
        | (show WL _ _ _ _ _ _ _; first | apply WL.nil | (refine WL.au (k := ?_)) | (apply WL.index tOk; exact rfl; exact rfl; exact rfl; exact rfl; exact rfl; exact rfl; exact rfl; exact rfl; assumption; (exact extA); exact rfl; omega; assumption; intro b off h; have hcc := h; first | (obtain ⟨h1, h2, h3, h4, h5, h6, _⟩ := h) | (obtain ⟨h1, h2, h3, _⟩ := h) | (obtain ⟨h1, h2, _⟩ := h) | (obtain ⟨h1, _⟩ := h)) | (apply WL.guardF; exact rfl; exact rfl) | (apply WL.gD; exact rfl; exact rfl; all_goals intro _) | (apply WL.gN; exact rfl; exact rfl; all_goals intro _) | (apply WL.gB; exact rfl; exact rfl; all_goals intro _))
        | (show QL _ _ _ _ _ _ _; first | apply QL.nil | (refine QL.au (k := ?_)) | (apply QL.index tOk; exact rfl; exact rfl; exact rfl; exact rfl; exact rfl; exact rfl; exact rfl; exact rfl; assumption; (exact extA); exact rfl; omega; assumption; intro b off h; have hcc := h; first | (obtain ⟨h1, h2, h3, h4, h5, h6, _⟩ := h) | (obtain ⟨h1, h2, h3, _⟩ := h) | (obtain ⟨h1, h2, _⟩ := h) | (obtain ⟨h1, _⟩ := h)) | (apply QL.guardF; exact rfl; exact rfl) | (apply QL.gD; exact rfl; exact rfl; all_goals intro _) | (apply QL.gN; exact rfl; exact rfl; all_goals intro _) | (apply QL.gB; exact rfl; exact rfl; all_goals intro _))
        | (show Z _ _ _ _ _; first | apply Z.tail | apply Z.then_normal | apply Z.block_normal | apply Z.then_exit | apply Z.block_exit | apply Z.then_ret | apply Z.block_ret | (apply Z.block_other; exact rfl))
        | (show W _ _ _ _ _ _; first | apply W.seq | apply W.region | apply W.block | apply W.skip | apply W.ret | apply W.exit | (apply W.condT; exact rfl) | (apply W.condF; exact rfl) | (apply W.condD; exact rfl; all_goals intro _) | (apply W.condN; exact rfl; all_goals intro _) | (apply W.condB; exact rfl; all_goals intro _) | (apply W.regionD tMix; kernel_rfl)))
      exact Z.again1 ⟨by omega, eq_snoc heq hx hy rfl⟩ ⟨rfl, rfl, rfl, trivial⟩
    · repeat' (first
        | (apply WL.gT; exact rfl; exact rfl; (focus (first | exact dec_true (show ((k : Nat) : Int) < (a.lat.2.2.length : Int) by omega) | exact dec_true (ne_iff enc3_inj hxy); done)))
        | (apply WL.gF; exact rfl; exact rfl; (focus (first | exact dec_true (show ((k : Nat) : Int) < (a.lat.2.2.length : Int) by omega) | exact dec_true (ne_iff enc3_inj hxy); done)))
        | (apply QL.gT; exact rfl; exact rfl; (focus (first | exact dec_true (show ((k : Nat) : Int) < (a.lat.2.2.length : Int) by omega) | exact dec_true (ne_iff enc3_inj hxy); done)))
        | (apply QL.gF; exact rfl; exact rfl; (focus (first | exact dec_true (show ((k : Nat) : Int) < (a.lat.2.2.length : Int) by omega) | exact dec_true (ne_iff enc3_inj hxy); done)))
        | (apply W.condKT; exact rfl; (focus (first | exact dec_true (show ((k : Nat) : Int) < (a.lat.2.2.length : Int) by omega) | exact dec_true (ne_iff enc3_inj hxy); done)))
        | (apply W.condKF; exact rfl; (focus (first | exact dec_true (show ((k : Nat) : Int) < (a.lat.2.2.length : Int) by omega) | exact dec_true (ne_iff enc3_inj hxy); done)))
        | (apply WL.neqS tOk; exact rfl; exact rfl; exact rfl; exact rfl; exact rfl; exact rfl; exact rfl; exact factLt)
        | (apply QL.neqS tOk; exact rfl; exact rfl; exact rfl; exact rfl; exact rfl; exact rfl; exact rfl; exact factLt)
        | (show WL _ _ _ _ _ _ _; first | apply WL.nil | (refine WL.au (k := ?_)) | (apply WL.index tOk; exact rfl; exact rfl; exact rfl; exact rfl; exact rfl; exact rfl; exact rfl; exact rfl; assumption; (exact extA); exact rfl; omega; assumption; intro b off h; have hcc := h; first | (obtain ⟨h1, h2, h3, h4, h5, h6, _⟩ := h) | (obtain ⟨h1, h2, h3, _⟩ := h) | (obtain ⟨h1, h2, _⟩ := h) | (obtain ⟨h1, _⟩ := h)) | (apply WL.guardF; exact rfl; exact rfl) | (apply WL.gD; exact rfl; exact rfl; all_goals intro _) | (apply WL.gN; exact rfl; exact rfl; all_goals intro _) | (apply WL.gB; exact rfl; exact rfl; all_goals intro _))
        | (show QL _ _ _ _ _ _ _; first | apply QL.nil | (refine QL.au (k := ?_)) | (apply QL.index tOk; exact rfl; exact rfl; exact rfl; exact rfl; exact rfl; exact rfl; exact rfl; exact rfl; assumption; (exact extA); exact rfl; omega; assumption; intro b off h; have hcc := h; first | (obtain ⟨h1, h2, h3, h4, h5, h6, _⟩ := h) | (obtain ⟨h1, h2, h3, _⟩ := h) | (obtain ⟨h1, h2, _⟩ := h) | (obtain ⟨h1, _⟩ := h)) | (apply QL.guardF; exact rfl; exact rfl) | (apply QL.gD; exact rfl; exact rfl; all_goals intro _) | (apply QL.gN; exact rfl; exact rfl; all_goals intro _) | (apply QL.gB; exact rfl; exact rfl; all_goals intro _))
        | (show Z _ _ _ _ _; first | apply Z.tail | apply Z.then_normal | apply Z.block_normal | apply Z.then_exit | apply Z.block_exit | apply Z.then_ret | apply Z.block_ret | (apply Z.block_other; exact rfl))
        | (show W _ _ _ _ _ _; first | apply W.seq | apply W.region | apply W.block | apply W.skip | apply W.ret | apply W.exit | (apply W.condT; exact rfl) | (apply W.condF; exact rfl) | (apply W.condD; exact rfl; all_goals intro _) | (apply W.condN; exact rfl; all_goals intro _) | (apply W.condB; exact rfl; all_goals intro _) | (apply W.regionD tMix; kernel_rfl)))
      exact Z.body1 Try.results37 rfl fun m => ⟨congrArg Value.bool (dec_false (fun h => ne_at hx hy hxy (congrArg CirT.lat h))).symm, Ext.at (by (exact extA)) m⟩
  have e6 := eq_all heq l0 (by omega)
  repeat' (first
    | (apply WL.gT; exact rfl; exact rfl; (focus (exact dec_false (show ¬ ((k : Nat) : Int) < (a.lat.2.2.length : Int) by omega); done)))
    | (apply WL.gF; exact rfl; exact rfl; (focus (exact dec_false (show ¬ ((k : Nat) : Int) < (a.lat.2.2.length : Int) by omega); done)))
    | (apply W.condKT; exact rfl; (focus (exact dec_false (show ¬ ((k : Nat) : Int) < (a.lat.2.2.length : Int) by omega); done)))
    | (apply W.condKF; exact rfl; (focus (exact dec_false (show ¬ ((k : Nat) : Int) < (a.lat.2.2.length : Int) by omega); done)))
    | (show WL _ _ _ _ _ _ _; first | apply WL.nil | (refine WL.au (k := ?_)) | (apply WL.index tOk; exact rfl; exact rfl; exact rfl; exact rfl; exact rfl; exact rfl; exact rfl; exact rfl; assumption; (exact extA); exact rfl; omega; assumption; intro b off h; have hcc := h; first | (obtain ⟨h1, h2, h3, h4, h5, h6, _⟩ := h) | (obtain ⟨h1, h2, h3, _⟩ := h) | (obtain ⟨h1, h2, _⟩ := h) | (obtain ⟨h1, _⟩ := h)) | (apply WL.guardF; exact rfl; exact rfl) | (apply WL.gD; exact rfl; exact rfl; all_goals intro _) | (apply WL.gN; exact rfl; exact rfl; all_goals intro _) | (apply WL.gB; exact rfl; exact rfl; all_goals intro _))
    | (show Z _ _ _ _ _; first | apply Z.tail | apply Z.then_normal | apply Z.block_normal | apply Z.then_exit | apply Z.block_exit | apply Z.then_ret | apply Z.block_ret | (apply Z.block_other; exact rfl))
    | (show W _ _ _ _ _ _; first | apply W.seq | apply W.region | apply W.block | apply W.skip | apply W.ret | apply W.exit | (apply W.condT; exact rfl) | (apply W.condF; exact rfl) | (apply W.condD; exact rfl; all_goals intro _) | (apply W.condN; exact rfl; all_goals intro _) | (apply W.condB; exact rfl; all_goals intro _)))
  clear heq hlt hk
  have Ra1 := hCa.gates.row.ext hX
  have Rb1 := hCb.gates.row.ext hX
  have hln1 := Ra1.len
  refine W.loop1 a.gates.2.2.length (fun k => k ≤ a.gates.2.2.length ∧ ∀ i, i < k → a.gates.2.2[i]? = b.gates.2.2[i]?) (fun k => [(2, .pointer (some ⟨gA, 0, none⟩)), (3, .pointer (some ⟨gB, 0, none⟩)), (6, .int .i64 k)]) ⟨by omega, fun i hi => by omega⟩ (fun k h => h.1) ⟨rfl, rfl, rfl, trivial⟩ ?_
  rintro k ⟨hk, heq⟩
  by_cases hlt : k < a.gates.2.2.length
  · obtain ⟨x, hx⟩ := getI a.gates.2.2 hlt
    obtain ⟨y, hy⟩ := getI b.gates.2.2 (show k < b.gates.2.2.length by omega)
    by_cases hxy : x = y
    · subst hxy
      repeat' (first
        | (apply WL.gT; exact rfl; exact rfl; (focus (first | exact dec_true (show ((k : Nat) : Int) < (a.gates.2.2.length : Int) by omega) | exact dec_false (fun h => h rfl); done)))
        | (apply WL.gF; exact rfl; exact rfl; (focus (first | exact dec_true (show ((k : Nat) : Int) < (a.gates.2.2.length : Int) by omega) | exact dec_false (fun h => h rfl); done)))
        | (apply QL.gT; exact rfl; exact rfl; (focus (first | exact dec_true (show ((k : Nat) : Int) < (a.gates.2.2.length : Int) by omega) | exact dec_false (fun h => h rfl); done)))
        | (apply QL.gF; exact rfl; exact rfl; (focus (first | exact dec_true (show ((k : Nat) : Int) < (a.gates.2.2.length : Int) by omega) | exact dec_false (fun h => h rfl); done)))
        | (apply W.condKT; exact rfl; (focus (first | exact dec_true (show ((k : Nat) : Int) < (a.gates.2.2.length : Int) by omega) | exact dec_false (fun h => h rfl); done)))
        | (apply W.condKF; exact rfl; (focus (first | exact dec_true (show ((k : Nat) : Int) < (a.gates.2.2.length : Int) by omega) | exact dec_false (fun h => h rfl); done)))
        | (apply WL.neqS tOk; exact rfl; exact rfl; exact rfl; exact rfl; exact rfl; exact rfl; exact rfl; exact factGt)
        | (apply QL.neqS tOk; exact rfl; exact rfl; exact rfl; exact rfl; exact rfl; exact rfl; exact rfl; exact factGt)
        | (show WL _ _ _ _ _ _ _; first | apply WL.nil | (refine WL.au (k := ?_)) | (apply WL.index tOk; exact rfl; exact rfl; exact rfl; exact rfl; exact rfl; exact rfl; exact rfl; exact rfl; assumption; (exact extA); exact rfl; omega; assumption; intro b off h; have hcc := h; first | (obtain ⟨h1, h2, h3, h4, h5, h6, _⟩ := h) | (obtain ⟨h1, h2, h3, _⟩ := h) | (obtain ⟨h1, h2, _⟩ := h) | (obtain ⟨h1, _⟩ := h)) | (apply WL.guardF; exact rfl; exact rfl) | (apply WL.gD; exact rfl; exact rfl; all_goals intro _) | (apply WL.gN; exact rfl; exact rfl; all_goals intro _) | (apply WL.gB; exact rfl; exact rfl; all_goals intro _))
        | (show QL _ _ _ _ _ _ _; first | apply QL.nil | (refine QL.au (k := ?_)) | (apply QL.index tOk; exact rfl; exact rfl; exact rfl; exact rfl; exact rfl; exact rfl; exact rfl; exact rfl; assumption; (exact extA); exact rfl; omega; assumption; intro b off h; have hcc := h; first | (obtain ⟨h1, h2, h3, h4, h5, h6, _⟩ := h) | (obtain ⟨h1, h2, h3, _⟩ := h) | (obtain ⟨h1, h2, _⟩ := h) | (obtain ⟨h1, _⟩ := h)) | (apply QL.guardF; exact rfl; exact rfl) | (apply QL.gD; exact rfl; exact rfl; all_goals intro _) | (apply QL.gN; exact rfl; exact rfl; all_goals intro _) | (apply QL.gB; exact rfl; exact rfl; all_goals intro _))
        | (show Z _ _ _ _ _; first | apply Z.tail | apply Z.then_normal | apply Z.block_normal | apply Z.then_exit | apply Z.block_exit | apply Z.then_ret | apply Z.block_ret | (apply Z.block_other; exact rfl))
        | (show W _ _ _ _ _ _; first | apply W.seq | apply W.region | apply W.block | apply W.skip | apply W.ret | apply W.exit | (apply W.condT; exact rfl) | (apply W.condF; exact rfl) | (apply W.condD; exact rfl; all_goals intro _) | (apply W.condN; exact rfl; all_goals intro _) | (apply W.condB; exact rfl; all_goals intro _) | (apply W.regionD tMix; kernel_rfl)))
      exact Z.again1 ⟨by omega, eq_snoc heq hx hy rfl⟩ ⟨rfl, rfl, rfl, trivial⟩
    · repeat' (first
        | (apply WL.gT; exact rfl; exact rfl; (focus (first | exact dec_true (show ((k : Nat) : Int) < (a.gates.2.2.length : Int) by omega) | exact dec_true (ne_iff enc3_inj hxy); done)))
        | (apply WL.gF; exact rfl; exact rfl; (focus (first | exact dec_true (show ((k : Nat) : Int) < (a.gates.2.2.length : Int) by omega) | exact dec_true (ne_iff enc3_inj hxy); done)))
        | (apply QL.gT; exact rfl; exact rfl; (focus (first | exact dec_true (show ((k : Nat) : Int) < (a.gates.2.2.length : Int) by omega) | exact dec_true (ne_iff enc3_inj hxy); done)))
        | (apply QL.gF; exact rfl; exact rfl; (focus (first | exact dec_true (show ((k : Nat) : Int) < (a.gates.2.2.length : Int) by omega) | exact dec_true (ne_iff enc3_inj hxy); done)))
        | (apply W.condKT; exact rfl; (focus (first | exact dec_true (show ((k : Nat) : Int) < (a.gates.2.2.length : Int) by omega) | exact dec_true (ne_iff enc3_inj hxy); done)))
        | (apply W.condKF; exact rfl; (focus (first | exact dec_true (show ((k : Nat) : Int) < (a.gates.2.2.length : Int) by omega) | exact dec_true (ne_iff enc3_inj hxy); done)))
        | (apply WL.neqS tOk; exact rfl; exact rfl; exact rfl; exact rfl; exact rfl; exact rfl; exact rfl; exact factGt)
        | (apply QL.neqS tOk; exact rfl; exact rfl; exact rfl; exact rfl; exact rfl; exact rfl; exact rfl; exact factGt)
        | (show WL _ _ _ _ _ _ _; first | apply WL.nil | (refine WL.au (k := ?_)) | (apply WL.index tOk; exact rfl; exact rfl; exact rfl; exact rfl; exact rfl; exact rfl; exact rfl; exact rfl; assumption; (exact extA); exact rfl; omega; assumption; intro b off h; have hcc := h; first | (obtain ⟨h1, h2, h3, h4, h5, h6, _⟩ := h) | (obtain ⟨h1, h2, h3, _⟩ := h) | (obtain ⟨h1, h2, _⟩ := h) | (obtain ⟨h1, _⟩ := h)) | (apply WL.guardF; exact rfl; exact rfl) | (apply WL.gD; exact rfl; exact rfl; all_goals intro _) | (apply WL.gN; exact rfl; exact rfl; all_goals intro _) | (apply WL.gB; exact rfl; exact rfl; all_goals intro _))
        | (show QL _ _ _ _ _ _ _; first | apply QL.nil | (refine QL.au (k := ?_)) | (apply QL.index tOk; exact rfl; exact rfl; exact rfl; exact rfl; exact rfl; exact rfl; exact rfl; exact rfl; assumption; (exact extA); exact rfl; omega; assumption; intro b off h; have hcc := h; first | (obtain ⟨h1, h2, h3, h4, h5, h6, _⟩ := h) | (obtain ⟨h1, h2, h3, _⟩ := h) | (obtain ⟨h1, h2, _⟩ := h) | (obtain ⟨h1, _⟩ := h)) | (apply QL.guardF; exact rfl; exact rfl) | (apply QL.gD; exact rfl; exact rfl; all_goals intro _) | (apply QL.gN; exact rfl; exact rfl; all_goals intro _) | (apply QL.gB; exact rfl; exact rfl; all_goals intro _))
        | (show Z _ _ _ _ _; first | apply Z.tail | apply Z.then_normal | apply Z.block_normal | apply Z.then_exit | apply Z.block_exit | apply Z.then_ret | apply Z.block_ret | (apply Z.block_other; exact rfl))
        | (show W _ _ _ _ _ _; first | apply W.seq | apply W.region | apply W.block | apply W.skip | apply W.ret | apply W.exit | (apply W.condT; exact rfl) | (apply W.condF; exact rfl) | (apply W.condD; exact rfl; all_goals intro _) | (apply W.condN; exact rfl; all_goals intro _) | (apply W.condB; exact rfl; all_goals intro _) | (apply W.regionD tMix; kernel_rfl)))
      exact Z.body1 Try.results37 rfl fun m => ⟨congrArg Value.bool (dec_false (fun h => ne_at hx hy hxy (congrArg CirT.gates h))).symm, Ext.at (by (exact extA)) m⟩
  have e7 := eq_all heq l1 (by omega)
  repeat' (first
    | (apply WL.gT; exact rfl; exact rfl; (focus (exact dec_false (show ¬ ((k : Nat) : Int) < (a.gates.2.2.length : Int) by omega); done)))
    | (apply WL.gF; exact rfl; exact rfl; (focus (exact dec_false (show ¬ ((k : Nat) : Int) < (a.gates.2.2.length : Int) by omega); done)))
    | (apply W.condKT; exact rfl; (focus (exact dec_false (show ¬ ((k : Nat) : Int) < (a.gates.2.2.length : Int) by omega); done)))
    | (apply W.condKF; exact rfl; (focus (exact dec_false (show ¬ ((k : Nat) : Int) < (a.gates.2.2.length : Int) by omega); done)))
    | (show WL _ _ _ _ _ _ _; first | apply WL.nil | (refine WL.au (k := ?_)) | (apply WL.index tOk; exact rfl; exact rfl; exact rfl; exact rfl; exact rfl; exact rfl; exact rfl; exact rfl; assumption; (exact extA); exact rfl; omega; assumption; intro b off h; have hcc := h; first | (obtain ⟨h1, h2, h3, h4, h5, h6, _⟩ := h) | (obtain ⟨h1, h2, h3, _⟩ := h) | (obtain ⟨h1, h2, _⟩ := h) | (obtain ⟨h1, _⟩ := h)) | (apply WL.guardF; exact rfl; exact rfl) | (apply WL.gD; exact rfl; exact rfl; all_goals intro _) | (apply WL.gN; exact rfl; exact rfl; all_goals intro _) | (apply WL.gB; exact rfl; exact rfl; all_goals intro _))
    | (show Z _ _ _ _ _; first | apply Z.tail | apply Z.then_normal | apply Z.block_normal | apply Z.then_exit | apply Z.block_exit | apply Z.then_ret | apply Z.block_ret | (apply Z.block_other; exact rfl))
    | (show W _ _ _ _ _ _; first | apply W.seq | apply W.region | apply W.block | apply W.skip | apply W.ret | apply W.exit | (apply W.condT; exact rfl) | (apply W.condF; exact rfl) | (apply W.condD; exact rfl; all_goals intro _) | (apply W.condN; exact rfl; all_goals intro _) | (apply W.condB; exact rfl; all_goals intro _)))
  clear heq hlt hk
  have Ra2 := hCa.syms.row.ext hX
  have Rb2 := hCb.syms.row.ext hX
  have hln2 := Ra2.len
  refine W.loop1 a.syms.2.2.length (fun k => k ≤ a.syms.2.2.length ∧ ∀ i, i < k → a.syms.2.2[i]? = b.syms.2.2[i]?) (fun k => [(2, .pointer (some ⟨gA, 0, none⟩)), (3, .pointer (some ⟨gB, 0, none⟩)), (7, .int .i64 k)]) ⟨by omega, fun i hi => by omega⟩ (fun k h => h.1) ⟨rfl, rfl, rfl, trivial⟩ ?_
  rintro k ⟨hk, heq⟩
  by_cases hlt : k < a.syms.2.2.length
  · obtain ⟨x, hx⟩ := getI a.syms.2.2 hlt
    obtain ⟨y, hy⟩ := getI b.syms.2.2 (show k < b.syms.2.2.length by omega)
    by_cases hxy : x = y
    · subst hxy
      repeat' (first
        | (apply WL.gT; exact rfl; exact rfl; (focus (first | exact dec_true (show ((k : Nat) : Int) < (a.syms.2.2.length : Int) by omega) | exact dec_false (fun h => h rfl); done)))
        | (apply WL.gF; exact rfl; exact rfl; (focus (first | exact dec_true (show ((k : Nat) : Int) < (a.syms.2.2.length : Int) by omega) | exact dec_false (fun h => h rfl); done)))
        | (apply QL.gT; exact rfl; exact rfl; (focus (first | exact dec_true (show ((k : Nat) : Int) < (a.syms.2.2.length : Int) by omega) | exact dec_false (fun h => h rfl); done)))
        | (apply QL.gF; exact rfl; exact rfl; (focus (first | exact dec_true (show ((k : Nat) : Int) < (a.syms.2.2.length : Int) by omega) | exact dec_false (fun h => h rfl); done)))
        | (apply W.condKT; exact rfl; (focus (first | exact dec_true (show ((k : Nat) : Int) < (a.syms.2.2.length : Int) by omega) | exact dec_false (fun h => h rfl); done)))
        | (apply W.condKF; exact rfl; (focus (first | exact dec_true (show ((k : Nat) : Int) < (a.syms.2.2.length : Int) by omega) | exact dec_false (fun h => h rfl); done)))
        | (apply WL.neqS tOk; exact rfl; exact rfl; exact rfl; exact rfl; exact rfl; exact rfl; exact rfl; exact factSy)
        | (apply QL.neqS tOk; exact rfl; exact rfl; exact rfl; exact rfl; exact rfl; exact rfl; exact rfl; exact factSy)
        | (show WL _ _ _ _ _ _ _; first | apply WL.nil | (refine WL.au (k := ?_)) | (apply WL.index tOk; exact rfl; exact rfl; exact rfl; exact rfl; exact rfl; exact rfl; exact rfl; exact rfl; assumption; (exact extA); exact rfl; omega; assumption; intro b off h; have hcc := h; first | (obtain ⟨h1, h2, h3, h4, h5, h6, _⟩ := h) | (obtain ⟨h1, h2, h3, _⟩ := h) | (obtain ⟨h1, h2, _⟩ := h) | (obtain ⟨h1, _⟩ := h)) | (apply WL.guardF; exact rfl; exact rfl) | (apply WL.gD; exact rfl; exact rfl; all_goals intro _) | (apply WL.gN; exact rfl; exact rfl; all_goals intro _) | (apply WL.gB; exact rfl; exact rfl; all_goals intro _))
        | (show QL _ _ _ _ _ _ _; first | apply QL.nil | (refine QL.au (k := ?_)) | (apply QL.index tOk; exact rfl; exact rfl; exact rfl; exact rfl; exact rfl; exact rfl; exact rfl; exact rfl; assumption; (exact extA); exact rfl; omega; assumption; intro b off h; have hcc := h; first | (obtain ⟨h1, h2, h3, h4, h5, h6, _⟩ := h) | (obtain ⟨h1, h2, h3, _⟩ := h) | (obtain ⟨h1, h2, _⟩ := h) | (obtain ⟨h1, _⟩ := h)) | (apply QL.guardF; exact rfl; exact rfl) | (apply QL.gD; exact rfl; exact rfl; all_goals intro _) | (apply QL.gN; exact rfl; exact rfl; all_goals intro _) | (apply QL.gB; exact rfl; exact rfl; all_goals intro _))
        | (show Z _ _ _ _ _; first | apply Z.tail | apply Z.then_normal | apply Z.block_normal | apply Z.then_exit | apply Z.block_exit | apply Z.then_ret | apply Z.block_ret | (apply Z.block_other; exact rfl))
        | (show W _ _ _ _ _ _; first | apply W.seq | apply W.region | apply W.block | apply W.skip | apply W.ret | apply W.exit | (apply W.condT; exact rfl) | (apply W.condF; exact rfl) | (apply W.condD; exact rfl; all_goals intro _) | (apply W.condN; exact rfl; all_goals intro _) | (apply W.condB; exact rfl; all_goals intro _) | (apply W.regionD tMix; kernel_rfl)))
      exact Z.again1 ⟨by omega, eq_snoc heq hx hy rfl⟩ ⟨rfl, rfl, rfl, trivial⟩
    · repeat' (first
        | (apply WL.gT; exact rfl; exact rfl; (focus (first | exact dec_true (show ((k : Nat) : Int) < (a.syms.2.2.length : Int) by omega) | exact dec_true (ne_iff encY_inj hxy); done)))
        | (apply WL.gF; exact rfl; exact rfl; (focus (first | exact dec_true (show ((k : Nat) : Int) < (a.syms.2.2.length : Int) by omega) | exact dec_true (ne_iff encY_inj hxy); done)))
        | (apply QL.gT; exact rfl; exact rfl; (focus (first | exact dec_true (show ((k : Nat) : Int) < (a.syms.2.2.length : Int) by omega) | exact dec_true (ne_iff encY_inj hxy); done)))
        | (apply QL.gF; exact rfl; exact rfl; (focus (first | exact dec_true (show ((k : Nat) : Int) < (a.syms.2.2.length : Int) by omega) | exact dec_true (ne_iff encY_inj hxy); done)))
        | (apply W.condKT; exact rfl; (focus (first | exact dec_true (show ((k : Nat) : Int) < (a.syms.2.2.length : Int) by omega) | exact dec_true (ne_iff encY_inj hxy); done)))
        | (apply W.condKF; exact rfl; (focus (first | exact dec_true (show ((k : Nat) : Int) < (a.syms.2.2.length : Int) by omega) | exact dec_true (ne_iff encY_inj hxy); done)))
        | (apply WL.neqS tOk; exact rfl; exact rfl; exact rfl; exact rfl; exact rfl; exact rfl; exact rfl; exact factSy)
        | (apply QL.neqS tOk; exact rfl; exact rfl; exact rfl; exact rfl; exact rfl; exact rfl; exact rfl; exact factSy)
        | (show WL _ _ _ _ _ _ _; first | apply WL.nil | (refine WL.au (k := ?_)) | (apply WL.index tOk; exact rfl; exact rfl; exact rfl; exact rfl; exact rfl; exact rfl; exact rfl; exact rfl; assumption; (exact extA); exact rfl; omega; assumption; intro b off h; have hcc := h; first | (obtain ⟨h1, h2, h3, h4, h5, h6, _⟩ := h) | (obtain ⟨h1, h2, h3, _⟩ := h) | (obtain ⟨h1, h2, _⟩ := h) | (obtain ⟨h1, _⟩ := h)) | (apply WL.guardF; exact rfl; exact rfl) | (apply WL.gD; exact rfl; exact rfl; all_goals intro _) | (apply WL.gN; exact rfl; exact rfl; all_goals intro _) | (apply WL.gB; exact rfl; exact rfl; all_goals intro _))
        | (show QL _ _ _ _ _ _ _; first | apply QL.nil | (refine QL.au (k := ?_)) | (apply QL.index tOk; exact rfl; exact rfl; exact rfl; exact rfl; exact rfl; exact rfl; exact rfl; exact rfl; assumption; (exact extA); exact rfl; omega; assumption; intro b off h; have hcc := h; first | (obtain ⟨h1, h2, h3, h4, h5, h6, _⟩ := h) | (obtain ⟨h1, h2, h3, _⟩ := h) | (obtain ⟨h1, h2, _⟩ := h) | (obtain ⟨h1, _⟩ := h)) | (apply QL.guardF; exact rfl; exact rfl) | (apply QL.gD; exact rfl; exact rfl; all_goals intro _) | (apply QL.gN; exact rfl; exact rfl; all_goals intro _) | (apply QL.gB; exact rfl; exact rfl; all_goals intro _))
        | (show Z _ _ _ _ _; first | apply Z.tail | apply Z.then_normal | apply Z.block_normal | apply Z.then_exit | apply Z.block_exit | apply Z.then_ret | apply Z.block_ret | (apply Z.block_other; exact rfl))
        | (show W _ _ _ _ _ _; first | apply W.seq | apply W.region | apply W.block | apply W.skip | apply W.ret | apply W.exit | (apply W.condT; exact rfl) | (apply W.condF; exact rfl) | (apply W.condD; exact rfl; all_goals intro _) | (apply W.condN; exact rfl; all_goals intro _) | (apply W.condB; exact rfl; all_goals intro _) | (apply W.regionD tMix; kernel_rfl)))
      exact Z.body1 Try.results37 rfl fun m => ⟨congrArg Value.bool (dec_false (fun h => ne_at hx hy hxy (congrArg CirT.syms h))).symm, Ext.at (by (exact extA)) m⟩
  have e8 := eq_all heq l2 (by omega)
  repeat' (first
    | (apply WL.gT; exact rfl; exact rfl; (focus (exact dec_false (show ¬ ((k : Nat) : Int) < (a.syms.2.2.length : Int) by omega); done)))
    | (apply WL.gF; exact rfl; exact rfl; (focus (exact dec_false (show ¬ ((k : Nat) : Int) < (a.syms.2.2.length : Int) by omega); done)))
    | (apply W.condKT; exact rfl; (focus (exact dec_false (show ¬ ((k : Nat) : Int) < (a.syms.2.2.length : Int) by omega); done)))
    | (apply W.condKF; exact rfl; (focus (exact dec_false (show ¬ ((k : Nat) : Int) < (a.syms.2.2.length : Int) by omega); done)))
    | (show WL _ _ _ _ _ _ _; first | apply WL.nil | (refine WL.au (k := ?_)) | (apply WL.index tOk; exact rfl; exact rfl; exact rfl; exact rfl; exact rfl; exact rfl; exact rfl; exact rfl; assumption; (exact extA); exact rfl; omega; assumption; intro b off h; have hcc := h; first | (obtain ⟨h1, h2, h3, h4, h5, h6, _⟩ := h) | (obtain ⟨h1, h2, h3, _⟩ := h) | (obtain ⟨h1, h2, _⟩ := h) | (obtain ⟨h1, _⟩ := h)) | (apply WL.guardF; exact rfl; exact rfl) | (apply WL.gD; exact rfl; exact rfl; all_goals intro _) | (apply WL.gN; exact rfl; exact rfl; all_goals intro _) | (apply WL.gB; exact rfl; exact rfl; all_goals intro _))
    | (show Z _ _ _ _ _; first | apply Z.tail | apply Z.then_normal | apply Z.block_normal | apply Z.then_exit | apply Z.block_exit | apply Z.then_ret | apply Z.block_ret | (apply Z.block_other; exact rfl))
    | (show W _ _ _ _ _ _; first | apply W.seq | apply W.region | apply W.block | apply W.skip | apply W.ret | apply W.exit | (apply W.condT; exact rfl) | (apply W.condF; exact rfl) | (apply W.condD; exact rfl; all_goals intro _) | (apply W.condN; exact rfl; all_goals intro _) | (apply W.condB; exact rfl; all_goals intro _)))
  clear heq hlt hk
  exact Z.body1 Try.results37 rfl fun m => ⟨congrArg Value.bool (dec_true (show a.t = b.t by unfold Circ.t; rw [e0, e1, e2, e3, e4, e5, e6, e7, e8])).symm, Ext.at (by (exact extA)) m⟩
end Go.Proofs.Ytmaekaflpbenmaa
namespace Go.Proofs.Ytmaekaflpbenmaa
open Go Go.Lt Go.RowKit
set_option linter.unusedVariables false
set_option linter.unusedSimpArgs false
set_option maxRecDepth 20000

set_option maxHeartbeats 32000000 in
theorem law_CircNets (c : Circ) (w : World) (hC : CAt w c) : Pure Try.prog 6 [c.val] w (.bool true) := by
  by_cases hf : FewC c.t 40 ∧ c.max ≤ 300 ∧ GoodC' c.t
  rotate_left
  · skip
    refine Spec.of _ Try.func6 rfl Try.ntmps6 (by kernel_rfl) rfl ?_
    repeat' (first
      | (apply WL.box; exact rfl; exact rfl; exact rfl; intro gb w' hb hge hc hx; have hcc := hc; (first | (obtain ⟨h1, h2, h3, _⟩ := hc) | (obtain ⟨h1, h2, _⟩ := hc)))
      | (apply WL.gT; exact rfl; exact rfl; (focus (first | (rw [dec_false hf]; rfl); done)))
      | (apply WL.gF; exact rfl; exact rfl; (focus (first | (rw [dec_false hf]; rfl); done)))
      | (apply W.condKT; exact rfl; (focus (first | (rw [dec_false hf]; rfl); done)))
      | (apply W.condKF; exact rfl; (focus (first | (rw [dec_false hf]; rfl); done)))
      | ((show WL _ _ _ (⟨_, .call ⟨.value (.func 32), _, _⟩, _, _, _, _⟩ :: _) _ _ _); apply WL.callP; exact rfl; exact rfl; exact rfl; exact rfl; exact law11_Small c 40 _ (hC.ext (by (exact extA))) (by decide); intro w' hx)
      | ((show WL _ _ _ (⟨_, .call ⟨.value (.func 28), _, _⟩, _, _, _, _⟩ :: _) _ _ _); apply WL.callP; exact rfl; exact rfl; exact rfl; exact rfl; exact law11_lives _; intro w' hx)
      | (show WL _ _ _ _ _ _ _; first | apply WL.nil | (refine WL.au (k := ?_)) | (apply WL.index tOk; exact rfl; exact rfl; exact rfl; exact rfl; exact rfl; exact rfl; exact rfl; exact rfl; assumption; (exact extA); exact rfl; omega; assumption; intro b off h; have hcc := h; first | (obtain ⟨h1, h2, h3, h4, h5, h6, _⟩ := h) | (obtain ⟨h1, h2, h3, _⟩ := h) | (obtain ⟨h1, h2, _⟩ := h) | (obtain ⟨h1, _⟩ := h)) | (apply WL.guardF; exact rfl; exact rfl) | (apply WL.gD; exact rfl; exact rfl; all_goals intro _) | (apply WL.gN; exact rfl; exact rfl; all_goals intro _) | (apply WL.gB; exact rfl; exact rfl; all_goals intro _))
      | (show Z _ _ _ _ _; first | apply Z.tail | apply Z.then_normal | apply Z.block_normal | apply Z.then_exit | apply Z.block_exit | apply Z.then_ret | apply Z.block_ret | (apply Z.block_other; exact rfl))
      | (show W _ _ _ _ _ _; first | apply W.seq | apply W.region | apply W.block | apply W.skip | apply W.ret | apply W.exit | (apply W.condT; exact rfl) | (apply W.condF; exact rfl) | (apply W.condD; exact rfl; all_goals intro _) | (apply W.condN; exact rfl; all_goals intro _) | (apply W.condB; exact rfl; all_goals intro _)))
    exact Z.body1 Try.results6 rfl fun m => ⟨rfl, Ext.at (by (exact extA)) m⟩
  obtain ⟨hfew, hmx, hg⟩ := hf
  obtain ⟨hz, hz7⟩ := few_sz2 hfew (by decide)
  have hm : 0 ≤ c.max ∧ c.max ≤ 16777216 := hg.max
  have hown : ∀ x ∈ c.t.own, 2 ≤ x ∧ x % 2 = 0 ∧ x ≤ 2 * c.max := hg.own
  have hused : ∀ x ∈ c.t.used, 0 ≤ x ∧ x ≤ 2 * c.max + 1 := hg.used
  have hgm : ∀ g ∈ c.gates.2.2, g.1 ∈ c.t.own ∧ g.2.1 ∈ c.t.used ∧ g.2.2 ∈ c.t.used := fun g hg =>
    ⟨List.mem_append.2 (.inr (List.mem_map.2 ⟨g, hg, rfl⟩)), List.mem_append.2 (.inr (List.mem_flatMap.2 ⟨g, hg, by simp⟩)), List.mem_append.2 (.inr (List.mem_flatMap.2 ⟨g, hg, by simp⟩))⟩
  have hok : gsOk c.gates.2.2 := fun g hg => by
    obtain ⟨r1, r2, r3⟩ := hgm g hg
    have := hown _ r1
    have := hused _ r2
    have := hused _ r3
    omega
  have h7 : ¬ Twice c.t := fun ⟨i, x, a1, a2⟩ => by
    have h3 := List.pairwise_iff_getElem.1 (List.nodup_iff_pairwise_ne.1 hg.once)
    obtain ⟨j, hj, he⟩ := List.mem_take_iff_getElem.1 a2
    obtain ⟨hi, he2⟩ := List.getElem?_eq_some_iff.1 a1
    exact h3 j i (by omega) hi (by omega) (by rw [he, he2])
  have honce : Once c.gates.2.2 := once_of (c := c.t) h7 fun x hx => (hown x hx).2.1
  have z6 : c.gates.2.2.length ≤ 100000 := hz.2.2.2.2.2
  have hnet := cNet_ok hg
  refine Spec.of _ Try.func6 rfl Try.ntmps6 (by kernel_rfl) rfl ?_
  repeat' (first
    | (apply WL.box; exact rfl; exact rfl; exact rfl; intro gb w' hb hge hc hx; have hcc := hc; (first | (obtain ⟨h1, h2, h3, _⟩ := hc) | (obtain ⟨h1, h2, _⟩ := hc)); (have hcells := hcc; obtain ⟨gc, rfl⟩ : ∃ x, x = gb := ⟨_, rfl⟩; obtain ⟨wc, rfl⟩ : ∃ x, x = w' := ⟨_, rfl⟩; obtain ⟨hxc, rfl⟩ : ∃ x, x = hx := ⟨_, rfl⟩))
    | (apply WL.gT; exact rfl; exact rfl; (focus (first | (rw [dec_true (show FewC c.t 40 ∧ c.max ≤ 300 ∧ GoodC' c.t from ⟨hfew, hmx, hg⟩)]; rfl); done)))
    | (apply WL.gF; exact rfl; exact rfl; (focus (first | (rw [dec_true (show FewC c.t 40 ∧ c.max ≤ 300 ∧ GoodC' c.t from ⟨hfew, hmx, hg⟩)]; rfl); done)))
    | (apply W.condKT; exact rfl; (focus (first | (rw [dec_true (show FewC c.t 40 ∧ c.max ≤ 300 ∧ GoodC' c.t from ⟨hfew, hmx, hg⟩)]; rfl); done)))
    | (apply W.condKF; exact rfl; (focus (first | (rw [dec_true (show FewC c.t 40 ∧ c.max ≤ 300 ∧ GoodC' c.t from ⟨hfew, hmx, hg⟩)]; rfl); done)))
    | ((show WL _ _ _ (⟨_, .call ⟨.value (.func 32), _, _⟩, _, _, _, _⟩ :: _) _ _ _); apply WL.callP; exact rfl; exact rfl; exact rfl; exact rfl; exact law11_Small c 40 _ (hC.ext (by (exact extA))) (by decide); intro w' hx; (obtain ⟨w1, rfl⟩ : ∃ x, x = w' := ⟨_, rfl⟩; obtain ⟨hx1, rfl⟩ : ∃ x, x = hx := ⟨_, rfl⟩))
    | (((show WL _ _ _ (⟨_, .call ⟨.value (.func 30), _, _⟩, _, _, _, _⟩ :: _) _ _ _); apply WL.call; exact rfl; exact rfl; exact rfl; exact rfl; exact law11_Own c _ (hC.ext (by (exact extA))) hz hz7; rintro v' w4 ⟨hx4, d, rfl, hdt, hOd⟩))
    | (apply WL.alloc tOk; exact rfl; exact rfl; exact rfl; intro gb w' hb hge hx)
    | (apply WL.storeB (w0 := w4) tOk; exact rfl; exact rfl; exact rfl; exact rfl; assumption; (exact extA); exact rfl; exact rfl; exact rfl; (exact extA); (first | assumption | omega | (focus (apply Nat.le_trans; rotate_left; assumption; exact Below.size (by (exact extA)); done))); intro w' hb hc hX' hU; have hcc := hc; obtain ⟨h1, h2, _⟩ := hc; (obtain ⟨w5, rfl⟩ : ∃ x, x = w' := ⟨_, rfl⟩; obtain ⟨hb5, rfl⟩ : ∃ x, x = hb := ⟨_, rfl⟩; obtain ⟨hX5, rfl⟩ : ∃ x, x = hX' := ⟨_, rfl⟩; have hcd := cells_heap hb5))
    | (((show WL _ _ _ (⟨_, .call ⟨.value (.func 33), _, _⟩, _, _, _, _⟩ :: _) _ _ _); apply WL.call; exact rfl; exact rfl; exact rfl; exact rfl; exact circ_Net d _ (hOd.at.ext (by (exact extA))) (by rw [hdt]; exact hg) (by rw [hdt]; exact hz); rintro v' w6 ⟨hx6, an, cn, aa, ca, rfl, hOn, hOa⟩))
    | (((show WL _ _ _ (⟨_, .call ⟨.value (.func 34), _, _⟩, _, _, _, _⟩ :: _) _ _ _); apply WL.call; exact rfl; exact rfl; exact rfl; exact rfl; exact ref11_Net c _ (hC.ext (by (exact extA))) hg hz; rintro v' w7 ⟨hx7, am, cm, ab, cb, rfl, hOm, hOb⟩))
    | (show WL _ _ _ _ _ _ _; first | apply WL.nil | (refine WL.au (k := ?_)) | (apply WL.index tOk; exact rfl; exact rfl; exact rfl; exact rfl; exact rfl; exact rfl; exact rfl; exact rfl; assumption; (exact extA); exact rfl; omega; assumption; intro b off h; have hcc := h; first | (obtain ⟨h1, h2, h3, h4, h5, h6, _⟩ := h) | (obtain ⟨h1, h2, h3, _⟩ := h) | (obtain ⟨h1, h2, _⟩ := h) | (obtain ⟨h1, _⟩ := h)) | (apply WL.guardF; exact rfl; exact rfl) | (apply WL.gD; exact rfl; exact rfl; all_goals intro _) | (apply WL.gN; exact rfl; exact rfl; all_goals intro _) | (apply WL.gB; exact rfl; exact rfl; all_goals intro _))
    | (show Z _ _ _ _ _; first | apply Z.tail | apply Z.then_normal | apply Z.block_normal | apply Z.then_exit | apply Z.block_exit | apply Z.then_ret | apply Z.block_ret | (apply Z.block_other; exact rfl))
    | (show W _ _ _ _ _ _; first | apply W.seq | apply W.region | apply W.block | apply W.skip | apply W.ret | apply W.exit | (apply W.condT; exact rfl) | (apply W.condF; exact rfl) | (apply W.condD; exact rfl; all_goals intro _) | (apply W.condN; exact rfl; all_goals intro _) | (apply W.condB; exact rfl; all_goals intro _)))
  have hnd : cNet d.t = cNet c.t := by rw [hdt]
  rw [hnd] at hOn hOa
  rw [hnd]
  have hdg : d.gates.2.2 = c.gates.2.2 := congrArg CirT.gates hdt
  have hXd : Ext w4 w7 := (by (exact extA))
  have hXw : Ext w w7 := (by (exact extA))
  have hCd : CAt w7 d := hOd.at.ext hXd
  have hC7 : CAt w7 c := hC.ext hXw
  have Rdg := hCd.gates.row
  have Rcg := hC7.gates.row
  have x0 : Cells w7 gc 0 c.vals := hcells.ext (by (exact extA))
  have x1 : Cells w7 gb 0 d.vals := hcd.ext (by (exact extA))
  have hgn : GoodNet (cNet c.t).1 := hnet.2
  have hsm : (cNet c.t).1.length ≤ 1048576 := by
    have h1 := hnet.1.len1
    rw [h1]
    have h2 := (ordL_is c.gates.2.2).1.le
    have z1 : c.ins.2.2.length ≤ 100000 := hz.1
    have z2 : c.lat.2.2.length ≤ 100000 := hz.2.1
    show (c.ins.2.2 ++ c.lat.2.2.map (·.1) ++ (ordL c.gates.2.2).map (fun i => (gAt c.gates.2.2 i).1)).length ≤ _
    simp; omega
  have hcz := (check_zero hsm).2 hgn
  have ho1 := fun (w9 : World) (h9 : Ext w7 w9) => circ_Order d w9 (Rdg.ext h9) (by rw [hdg]; exact hok) (by rw [hdg]; omega) (by rw [hdg]; exact honce)
  have ho2 := fun (w9 : World) (h9 : Ext w7 w9) => ref11_Order c w9 (Rcg.ext h9) hok (by omega)
  rw [hdg] at ho1
  clear hnet hgn
  obtain ⟨oo, hoo⟩ : ∃ oo, natI (ordL c.gates.2.2) = oo := ⟨_, rfl⟩
  obtain ⟨nn, hnn⟩ : ∃ nn, (cNet c.t).1 = nn := ⟨_, rfl⟩
  obtain ⟨aa2, haa⟩ : ∃ aa2, (cNet c.t).2 = aa2 := ⟨_, rfl⟩
  rw [hoo] at ho1 ho2
  rw [hnn] at hOn hOm hsm hcz ⊢
  rw [haa] at hOa hOb ⊢
  clear hnn haa hoo hnd
  have Rn : Row 2 encN w7 an nn := (hOn.row encN_ok).ext hx7
  have Ra : Row 1 encI w7 aa aa2 := (hOa.row encI_ok).ext hx7
  have Rm : Row 2 encN w7 am nn := hOm.row encN_ok
  have Rb : Row 1 encI w7 ab aa2 := hOb.row encI_ok
  have hct : c.t = d.t := hdt.symm
  have hi2 := fun (w9 : World) (h9 : Ext w7 w9) => ref_Ints aa ab ca cb aa2 aa2 w9 (Ra.ext h9) (Rb.ext h9)
  rw [dec_true (show aa2 = aa2 from rfl)] at hi2
  have hi3 := fun (w9 : World) (h9 : Ext w7 w9) => ref11_Same c d w9 (hC7.ext h9) (hCd.ext h9)
  rw [dec_true hct] at hi3
  repeat' (first
    | (apply WL.gT; exact rfl; exact rfl; (focus (exact dec_false (fun h => h rfl); done)))
    | (apply WL.gF; exact rfl; exact rfl; (focus (exact dec_false (fun h => h rfl); done)))
    | (apply FL.gT; exact rfl; exact rfl; (focus (exact dec_false (fun h => h rfl); done)))
    | (apply FL.gF; exact rfl; exact rfl; (focus (exact dec_false (fun h => h rfl); done)))
    | (apply W.condKT; exact rfl; (focus (exact dec_false (fun h => h rfl); done)))
    | (apply W.condKF; exact rfl; (focus (exact dec_false (fun h => h rfl); done)))
    | (show W _ _ (.region 6 _ _) _ _ _; apply W.regionGX (.fl false 0 (.fl false 2 (.br 1 (.br 3 (.br 4 (.fl true 5 (.fl true 6 (.fl true 7 (.fl true 8 (.br 9 (.fl true 10 (.fl true 11 (.fl true 12 (.fl true 13 (.fl true 14 (.fl true 15 (.fl true 16 (.fl true 17 (.fl true 18 (.fl true 19 (.fl false 20 (.fl false 21 (.br 22 (.fl true 23 (.fl true 24 .done)) .stop))))))))))))) .stop))))) .stop) .stop) .stop))) [1, 2, 3, 4, 5, 6, 7, 8, 9, 10, 11, 12, 13, 14, 15, 16, 17, 18, 19, 20, 21, 22, 23, 24] tMix; kernel_rfl)
    | (((show WL _ _ _ (⟨_, .call ⟨.value (.func 35), _, _⟩, _, _, _, _⟩ :: _) _ _ _); apply WL.call; exact rfl; exact rfl; exact rfl; exact rfl; exact ho1 _ (by (exact extA)); rintro v' wd1 ⟨hxd1, ad1, cd1, rfl, hOd1⟩))
    | (((show WL _ _ _ (⟨_, .call ⟨.value (.func 36), _, _⟩, _, _, _, _⟩ :: _) _ _ _); apply WL.call; exact rfl; exact rfl; exact rfl; exact rfl; exact ho2 _ (by (exact extA)); rintro v' wd2 ⟨hxd2, ad2, cd2, rfl, hOd2⟩; have Rd1 := (hOd1.row encI_ok).ext (show Ext wd1 wd2 from (by (exact extA))); have hi1 := fun (w9 : World) (h9 : Ext wd2 w9) => ref_Ints ad1 ad2 cd1 cd2 oo oo w9 (Rd1.ext h9) ((hOd2.row encI_ok).ext h9); rw [dec_true (show oo = oo from rfl)] at hi1))
    | (apply WL.callS; exact rfl; exact rfl; exact rfl; exact rfl; (apply hi1; (exact extA)))
    | (apply WL.callS; exact rfl; exact rfl; exact rfl; exact rfl; (apply hi2; (exact extA)))
    | (((show WL _ _ _ (⟨_, .call ⟨.value (.func 37), _, _⟩, _, _, _, _⟩ :: _) _ _ _); apply WL.callP; exact rfl; exact rfl; exact rfl; exact rfl; exact hi3 _ (by (exact extA)); intro w' hx))
    | (show SX _ _ _ _ _ _ _ _ _; first | (apply SX.done; intro w' hx) | apply SX.stop | (apply SX.fl0; exact rfl) | (apply SX.fl1; exact rfl; (exact extA)) | (apply SX.br1; exact rfl; intro w' hx) | (apply SX.br; exact rfl; (intro w' hx)))
    | (show FL _ _ _ _ _ _ _ _; first | apply FL.nilX | (apply FL.loadE tOk; exact rfl; exact rfl; exact rfl; exact rfl; exact rfl; assumption) | (apply FL.loadAE tOk; exact rfl; exact rfl; exact rfl; exact rfl; exact rfl; assumption; exact rfl) | (apply FL.indexE tOk; exact rfl; exact rfl; exact rfl; exact rfl; exact rfl; exact rfl; exact rfl; exact rfl; assumption; exact rfl; omega; assumption; intro b off h; have hcc := h; first | (obtain ⟨h1, h2, h3, h4, h5, h6, _⟩ := h) | (obtain ⟨h1, h2, h3, _⟩ := h) | (obtain ⟨h1, h2, _⟩ := h) | (obtain ⟨h1, _⟩ := h)))
    | (show FL _ _ _ _ _ _ _ _; first | apply FL.nilX | (refine FL.au (k := ?_)) | (apply FL.loadG tOk; exact rfl; exact rfl; exact rfl; exact rfl; exact rfl; (first | assumption | (focus (apply Ext.cell; rotate_left; assumption; (exact extA); done))); (first | (focus (intro h; cases h; done)) | (focus (intro h; have h9 := hBC _ h; (try simp only at h9); omega)) | assumption | (focus (intro h; simp only [blk, Option.map_some, Option.some.injEq] at h; omega)))) | (apply FL.index tOk; exact rfl; exact rfl; exact rfl; exact rfl; exact rfl; exact rfl; exact rfl; exact rfl; assumption; (exact extA); exact rfl; omega; assumption; exact List.cons_ne_nil _ _; intro b off h hbl; have hcc := h; first | (obtain ⟨h1, h2, h3, h4, h5, h6, _⟩ := h) | (obtain ⟨h1, h2, h3, _⟩ := h) | (obtain ⟨h1, h2, _⟩ := h) | (obtain ⟨h1, _⟩ := h)) | (apply FL.loadAG tOk; exact rfl; exact rfl; exact rfl; exact rfl; exact rfl; (first | assumption | (focus (apply Cells.ext; rotate_left; assumption; (exact extA); done))); exact rfl; (first | (focus (intro h; cases h; done)) | (focus (intro h; have h9 := hBC _ h; (try simp only at h9); omega)) | assumption | (focus (intro h; simp only [blk, Option.map_some, Option.some.injEq] at h; omega)))) | (apply FL.guardF; exact rfl; exact rfl) | (apply FL.gD; exact rfl; exact rfl; all_goals intro _) | (apply FL.gN; exact rfl; exact rfl; all_goals intro _) | (apply FL.gB; exact rfl; exact rfl; all_goals intro _))
    | (show Z _ _ _ _ _; first | (apply Z.sxL; exact rfl) | (apply Z.sxE; (exact extA)))
    | (show WL _ _ _ _ _ _ _; first | apply WL.nil | (refine WL.au (k := ?_)) | (apply WL.index tOk; exact rfl; exact rfl; exact rfl; exact rfl; exact rfl; exact rfl; exact rfl; exact rfl; assumption; (exact extA); exact rfl; omega; assumption; intro b off h; have hcc := h; first | (obtain ⟨h1, h2, h3, h4, h5, h6, _⟩ := h) | (obtain ⟨h1, h2, h3, _⟩ := h) | (obtain ⟨h1, h2, _⟩ := h) | (obtain ⟨h1, _⟩ := h)) | (apply WL.guardF; exact rfl; exact rfl) | (apply WL.gD; exact rfl; exact rfl; all_goals intro _) | (apply WL.gN; exact rfl; exact rfl; all_goals intro _) | (apply WL.gB; exact rfl; exact rfl; all_goals intro _))
    | (show SG _ _ _ _ _ _ _ _ _; first | apply SG.done | apply SG.stop | (apply SG.fl0; exact rfl) | (apply SG.fl1; exact rfl; (focus ((intro m; first | assumption | (apply Ext.at; (exact extA)) | apply But.of_at; first | exact But.upd (by assumption) | exact But.ext (by (exact extA)) | (refine But.trans ?_ (But.upd (by assumption)); exact But.ext (by (exact extA))) | exact But.at _ _ _); done))) | (apply SG.br1; exact rfl) | (apply SG.br; exact rfl))
    | (show FL _ _ _ _ _ _ _ _; first | apply FL.nilS | (refine FL.au (k := ?_)) | (apply FL.loadG tOk; exact rfl; exact rfl; exact rfl; exact rfl; exact rfl; (first | assumption | (focus (apply Ext.cell; rotate_left; assumption; (exact extA); done))); (first | (focus (intro h; cases h; done)) | (focus (intro h; have h9 := hBC _ h; (try simp only at h9); omega)) | assumption | (focus (intro h; simp only [blk, Option.map_some, Option.some.injEq] at h; omega)))) | (apply FL.index tOk; exact rfl; exact rfl; exact rfl; exact rfl; exact rfl; exact rfl; exact rfl; exact rfl; assumption; (exact extA); exact rfl; omega; assumption; exact List.cons_ne_nil _ _; intro b off h hbl; have hcc := h; first | (obtain ⟨h1, h2, h3, h4, h5, h6, _⟩ := h) | (obtain ⟨h1, h2, h3, _⟩ := h) | (obtain ⟨h1, h2, _⟩ := h) | (obtain ⟨h1, _⟩ := h)) | (apply FL.loadAG tOk; exact rfl; exact rfl; exact rfl; exact rfl; exact rfl; (first | assumption | (focus (apply Cells.ext; rotate_left; assumption; (exact extA); done))); exact rfl; (first | (focus (intro h; cases h; done)) | (focus (intro h; have h9 := hBC _ h; (try simp only at h9); omega)) | assumption | (focus (intro h; simp only [blk, Option.map_some, Option.some.injEq] at h; omega)))) | (apply FL.guardF; exact rfl; exact rfl) | (apply FL.gD; exact rfl; exact rfl; all_goals intro _) | (apply FL.gN; exact rfl; exact rfl; all_goals intro _) | (apply FL.gB; exact rfl; exact rfl; all_goals intro _))
    | (show Z _ _ _ _ _; first | (apply Z.sgL; exact rfl) | (apply Z.sgE; (focus ((intro m; first | assumption | (apply Ext.at; (exact extA)) | apply But.of_at; first | exact But.upd (by assumption) | exact But.ext (by (exact extA)) | (refine But.trans ?_ (But.upd (by assumption)); exact But.ext (by (exact extA))) | exact But.at _ _ _); done))))
    | (show Z _ _ _ _ _; first | apply Z.tail | apply Z.then_normal | apply Z.block_normal | apply Z.then_exit | apply Z.block_exit | apply Z.then_ret | apply Z.block_ret | (apply Z.block_other; exact rfl))
    | (show W _ _ _ _ _ _; first | apply W.seq | apply W.region | apply W.block | apply W.skip | apply W.ret | apply W.exit | (apply W.condT; exact rfl) | (apply W.condF; exact rfl) | (apply W.condD; exact rfl; all_goals intro _) | (apply W.condN; exact rfl; all_goals intro _) | (apply W.condB; exact rfl; all_goals intro _)))
  obtain ⟨w8, rfl⟩ : ∃ x, x = w' := ⟨_, rfl⟩
  have hX8 : Ext w7 w8 := (by (exact extA))
  have Rn8 := Rn.ext hX8
  have Rm8 := Rm.ext hX8
  have hnl := Rn8.len
  refine W.loop1 nn.length (fun k => k ≤ nn.length) (fun k => [(4, .slice an nn.length cn), (6, .slice am nn.length cm), (8, .int .i64 k)]) (Nat.zero_le _) (fun k h => h) ⟨rfl, rfl, rfl, trivial⟩ ?_
  rintro k hk
  by_cases hlt : k < nn.length
  · obtain ⟨z, hz⟩ := getI nn hlt
    repeat' (first
      | (apply WL.gT; exact rfl; exact rfl; (focus (first | exact dec_true (by omega) | exact dec_false (fun h => h rfl); done)))
      | (apply WL.gF; exact rfl; exact rfl; (focus (first | exact dec_true (by omega) | exact dec_false (fun h => h rfl); done)))
      | (apply QL.gT; exact rfl; exact rfl; (focus (first | exact dec_true (by omega) | exact dec_false (fun h => h rfl); done)))
      | (apply QL.gF; exact rfl; exact rfl; (focus (first | exact dec_true (by omega) | exact dec_false (fun h => h rfl); done)))
      | (apply W.condKT; exact rfl; (focus (first | exact dec_true (by omega) | exact dec_false (fun h => h rfl); done)))
      | (apply W.condKF; exact rfl; (focus (first | exact dec_true (by omega) | exact dec_false (fun h => h rfl); done)))
      | (apply WL.neqS tOk; exact rfl; exact rfl; exact rfl; exact rfl; exact rfl; exact rfl; exact rfl; exact factNN)
      | (apply QL.neqS tOk; exact rfl; exact rfl; exact rfl; exact rfl; exact rfl; exact rfl; exact rfl; exact factNN)
      | (show WL _ _ _ _ _ _ _; first | apply WL.nil | (refine WL.au (k := ?_)) | (apply WL.index tOk; exact rfl; exact rfl; exact rfl; exact rfl; exact rfl; exact rfl; exact rfl; exact rfl; assumption; (exact extA); exact rfl; omega; assumption; intro b off h; have hcc := h; first | (obtain ⟨h1, h2, h3, h4, h5, h6, _⟩ := h) | (obtain ⟨h1, h2, h3, _⟩ := h) | (obtain ⟨h1, h2, _⟩ := h) | (obtain ⟨h1, _⟩ := h)) | (apply WL.guardF; exact rfl; exact rfl) | (apply WL.gD; exact rfl; exact rfl; all_goals intro _) | (apply WL.gN; exact rfl; exact rfl; all_goals intro _) | (apply WL.gB; exact rfl; exact rfl; all_goals intro _))
      | (show QL _ _ _ _ _ _ _; first | apply QL.nil | (refine QL.au (k := ?_)) | (apply QL.index tOk; exact rfl; exact rfl; exact rfl; exact rfl; exact rfl; exact rfl; exact rfl; exact rfl; assumption; (exact extA); exact rfl; omega; assumption; intro b off h; have hcc := h; first | (obtain ⟨h1, h2, h3, h4, h5, h6, _⟩ := h) | (obtain ⟨h1, h2, h3, _⟩ := h) | (obtain ⟨h1, h2, _⟩ := h) | (obtain ⟨h1, _⟩ := h)) | (apply QL.guardF; exact rfl; exact rfl) | (apply QL.gD; exact rfl; exact rfl; all_goals intro _) | (apply QL.gN; exact rfl; exact rfl; all_goals intro _) | (apply QL.gB; exact rfl; exact rfl; all_goals intro _))
      | (show Z _ _ _ _ _; first | apply Z.tail | apply Z.then_normal | apply Z.block_normal | apply Z.then_exit | apply Z.block_exit | apply Z.then_ret | apply Z.block_ret | (apply Z.block_other; exact rfl))
      | (show W _ _ _ _ _ _; first | apply W.seq | apply W.region | apply W.block | apply W.skip | apply W.ret | apply W.exit | (apply W.condT; exact rfl) | (apply W.condF; exact rfl) | (apply W.condD; exact rfl; all_goals intro _) | (apply W.condN; exact rfl; all_goals intro _) | (apply W.condB; exact rfl; all_goals intro _) | (apply W.regionD tMix; kernel_rfl)))
    exact Z.again1 (by omega) ⟨rfl, rfl, rfl, trivial⟩
  · skip
    repeat' (first
      | (apply WL.gT; exact rfl; exact rfl; (focus (first | exact dec_false (by omega) | exact dec_true hcz; done)))
      | (apply WL.gF; exact rfl; exact rfl; (focus (first | exact dec_false (by omega) | exact dec_true hcz; done)))
      | (apply W.condKT; exact rfl; (focus (first | exact dec_false (by omega) | exact dec_true hcz; done)))
      | (apply W.condKF; exact rfl; (focus (first | exact dec_false (by omega) | exact dec_true hcz; done)))
      | ((show WL _ _ _ (⟨_, .call ⟨.value (.func 15), _, _⟩, _, _, _, _⟩ :: _) _ _ _); apply WL.callS; exact rfl; exact rfl; exact rfl; exact rfl; exact ref07_Check _ _ nn _ (Rn8.ext (by (exact extA))))
      | ((show WL _ _ _ (⟨_, .call ⟨.value (.func 28), _, _⟩, _, _, _, _⟩ :: _) _ _ _); apply WL.callP; exact rfl; exact rfl; exact rfl; exact rfl; exact law11_lives _; intro w' hx)
      | (show WL _ _ _ _ _ _ _; first | apply WL.nil | (refine WL.au (k := ?_)) | (apply WL.index tOk; exact rfl; exact rfl; exact rfl; exact rfl; exact rfl; exact rfl; exact rfl; exact rfl; assumption; (exact extA); exact rfl; omega; assumption; intro b off h; have hcc := h; first | (obtain ⟨h1, h2, h3, h4, h5, h6, _⟩ := h) | (obtain ⟨h1, h2, h3, _⟩ := h) | (obtain ⟨h1, h2, _⟩ := h) | (obtain ⟨h1, _⟩ := h)) | (apply WL.guardF; exact rfl; exact rfl) | (apply WL.gD; exact rfl; exact rfl; all_goals intro _) | (apply WL.gN; exact rfl; exact rfl; all_goals intro _) | (apply WL.gB; exact rfl; exact rfl; all_goals intro _))
      | (show Z _ _ _ _ _; first | apply Z.tail | apply Z.then_normal | apply Z.block_normal | apply Z.then_exit | apply Z.block_exit | apply Z.then_ret | apply Z.block_ret | (apply Z.block_other; exact rfl))
      | (show W _ _ _ _ _ _; first | apply W.seq | apply W.region | apply W.block | apply W.skip | apply W.ret | apply W.exit | (apply W.condT; exact rfl) | (apply W.condF; exact rfl) | (apply W.condD; exact rfl; all_goals intro _) | (apply W.condN; exact rfl; all_goals intro _) | (apply W.condB; exact rfl; all_goals intro _)))
    exact Z.body1 Try.results6 rfl fun m => ⟨rfl, Ext.at (by (exact extA)) m⟩
end Go.Proofs.Ytmaekaflpbenmaa
namespace Go.Proofs.Ytmaekaflpbenmaa
open Go Go.Lt Go.ChangeShapes Go.WideShapes Go.ChangeAt Go.RowKit
set_option linter.unusedVariables false
set_option linter.unusedSimpArgs false
set_option maxRecDepth 20000
open Go.ChangeMaps (open_string shut_string)
namespace circNets
theorem own : ownKnob Try.prog.godebug = none := by kernel_rfl
theorem laidOut : laidOutB Try.prog = true := factLaid
set_option maxRecDepth 100000 in
theorem lifted (os : Os) (started : os.Started) (H : Type) (enc : TypeId × Value → H) :
    ReturnsInHanded {} Try.checked os 6 .any (Rows.circNetsSpec.pre6 enc Try.prog Try.f6 Rows.circNetsRow.domain false) (Rows.circNetsSpec.post enc Try.prog Try.f6 false true false false) := by
  refine returnsInHanded_of_change (C := Try.checked) own started (by kernel_rfl) Try.func6
    (ChangeSpec.witness6 (enc := enc) (C := Try.checked) false ⟨#[], #[.agg #[.int .i64 0, .slice none 0 0, .slice none 0 0, .slice none 0 0, .slice none 0 0, .slice none 0 0, .slice none 0 0, .slice none 0 0, .string ⟨#[]⟩]], []⟩ 8 (by kernel_rfl) (by kernel_rfl) (by kernel_rfl) (by kernel_rfl)) ?_
  intro W base args ds gs before hval0 hW hcnd _
  have hval : ∀ (j : Nat) t v, Try.f6.params[j]? = some t → args[j]? = some v → Value.okWide Try.prog W .any base t v := hval0
  have hW' := hW
  obtain ⟨p, q, hA0, hV, rfl, hfz, hnd⟩ := hW
  have hA : DataW.TrodAll enc Try.prog W 0 (fun _ => true) true Try.f6.params.toList args.toList ds p := hA0
  rw [Try.params6] at hA hval
  obtain ⟨v0, vs0, d0, ds0, p0, q0, hargs, rfl, rfl, h0, r0⟩ := trodAll_cons hA
  obtain ⟨rfl, rfl, rfl⟩ := trodAll_nil r0
  obtain rfl : args = #[v0] := by cases args; simp_all
  obtain ⟨rfl, rfl⟩ := trodVars_none hV
  have k0 := h0
  have lt0 : ∀ x ∈ p0, x.block < W.heap.size := by obtain ⟨m, hm⟩ := k0; exact DataW.trod_lt m _ _ _ hm
  obtain ⟨c0, rfl, hC0⟩ := circ_of (hval 0 45 v0 rfl rfl) h0
  clear hA0 hval0
  refine (Spec.law (law_CircNets c0 W hC0)).mono fun e W' ⟨he, bel⟩ => ?_
  subst he
  exact ⟨_, rfl, _, _, _, [], _, [], hW', trodAll_mk1 (shut_bool Try.underlying4 _), (trodAll_cons_mk (Below.trod laidOut (by kernel_rfl) (of_decide_eq_true (by kernel_rfl)) k0 bel lt0) trodAll_mk0), rfl, bel.frame _, fun h => by cases h⟩
theorem j0 : (Rows.circNetsRow.wf (OpenSpec.ofChange Rows.circNetsSpec)) = true := by kernel_rfl
theorem j3 : (Try.f6.params.all (Try.prog.readableRec ·)) = true := by kernel_rfl
theorem j4 : (namedTie Try.prog Rows.circNetsRow.named Rows.circNetsSpec.vars) = true := by kernel_rfl
theorem j5 : ((Rows.circNetsRow.stops == [])) = true := by kernel_rfl
theorem j7 : ((Rows.circNetsRow.knobs == [])) = true := by kernel_rfl
theorem j9 : ((Rows.circNetsRow.inPlace == Try.prog.inPlace 6)) = true := by kernel_rfl
theorem j10 : ((Rows.circNetsRow.unfollowed == Try.prog.unfollowed 6)) = true := by kernel_rfl
theorem j11 : ((Rows.circNetsRow.recurses == Try.prog.recurses 6)) = true := by kernel_rfl
theorem j12 : ((Rows.circNetsRow.named == Try.prog.varsNamed 6)) = true := by kernel_rfl
theorem j13 : ((Rows.circNetsRow.maps == (Try.f6.params.toList ++ Rows.circNetsSpec.plain.varTypes Try.prog).any (Try.prog.mapsRec ·))) = true := by kernel_rfl
theorem j14 : ((Rows.circNetsRow.ifaces == (Try.f6.params.toList ++ Rows.circNetsSpec.plain.varTypes Try.prog).any (Try.prog.ifacesRec ·))) = true := by kernel_rfl
theorem j15 : ((Rows.circNetsRow.mapsOut == Try.prog.mapsAmong Try.f6.resultTypes.toList)) = true := by kernel_rfl
theorem j16 : ((Rows.circNetsRow.loops == (Try.f6.params.toList ++ Rows.circNetsSpec.plain.varTypes Try.prog).any (Try.prog.loopsFrom ·))) = true := by kernel_rfl
theorem j17 : ((Rows.circNetsRow.wideKeys == (Try.f6.params.toList ++ Rows.circNetsSpec.plain.varTypes Try.prog ++ Try.f6.resultTypes.toList).any (Try.prog.wideKeysFrom ·))) = true := by kernel_rfl
theorem j18 : (Rows.circNetsSpec.vars.all (Try.prog.varReadable ·)) = true := by kernel_rfl
theorem j19 : (Try.f6.resultTypes.all (fun t => Try.prog.readableRec t && decide (t < Try.prog.types.size))) = true := by kernel_rfl
theorem j20 : ((Rows.circNetsRow.ifacesOut == Try.f6.resultTypes.toList.any (Try.prog.ifacesRec ·))) = true := by kernel_rfl
theorem j21 : ((Rows.circNetsRow.loopsOut == Try.f6.resultTypes.toList.any (Try.prog.loopsFrom ·))) = true := by kernel_rfl
theorem j22 : ((Rows.circNetsRow.plainKeys == Try.prog.plainKeys)) = true := by rw [show Rows.circNetsRow.plainKeys = Rows.balanceMeansRow.plainKeys by kernel_rfl]; exact factKeys
theorem j23 : (Rows.circNetsRow.shortTexts.isNone) = true := by kernel_rfl
theorem j26 : ((Rows.circNetsRow.lifted == Try.prog.liftsFinal)) = true := by rw [show Rows.circNetsRow.lifted = Rows.balanceMeansRow.lifted by kernel_rfl]; exact factLifts
theorem j27 : ((Try.prog.make == some Rows.circNetsRow.make)) = true := by rw [show Rows.circNetsRow.make = Rows.balanceMeansRow.make by kernel_rfl]; exact factMake
theorem j28 : ((Rows.circNetsRow.kinds == (if Rows.circNetsRow.domain.isEmpty then [] else Try.f6.params.toList.map fun t => match Try.prog.underlying t with | some (.int k) => some k | _ => none))) = true := by kernel_rfl
theorem j29 : ((Rows.circNetsRow.pinned == Rows.circNetsRow.pinnedBy)) = true := by kernel_rfl
theorem j30 : ((Rows.circNetsRow.veiled == (Try.f6.params.toList ++ Rows.circNetsSpec.plain.varTypes Try.prog ++ Try.f6.resultTypes.toList).any (Try.prog.veiledRec ·))) = true := by kernel_rfl
theorem j31 : (Rows.circNetsRow.veiledFits Try.prog Try.f6.params.toList (Try.f6.params.toList ++ Rows.circNetsSpec.plain.varTypes Try.prog ++ Try.f6.resultTypes.toList)) = true := by kernel_rfl
set_option maxRecDepth 100000 in
theorem closed : joinedFacts Try.checked.prog 6 Try.f6 Rows.circNetsSpec Rows.circNetsRow = true := by unfold joinedFacts; exact (band (band (band (band (band (band (band (band (band (band (band (band (band (band (band (band (band (band (band (band (band (band (band (band (band (band (band (band (band (band (band j0 factLaid) factMaps) j3) j4) j5) factStops) j7) factKnobs) j9) j10) j11) j12) j13) j14) j15) j16) j17) j18) j19) j20) j21) j22) j23) factHeard) factEnter) j26) j27) j28) j29) j30) j31)
theorem named : Try.checked.prog.funcNamed Rows.circNetsRow.func = some 6 := by kernel_rfl
theorem over : Rows.circNetsRow.holds Try.pinned (OpenSpec.ofChange Rows.circNetsSpec) :=
  OpenClaim.holds_of_wide 6 Try.f6 rfl rfl rfl rfl rfl rfl rfl ⟨rfl, rfl, rfl, rfl, rfl⟩ rfl rfl rfl rfl rfl named Try.func6 closed
    (of_decide_eq_true (by kernel_rfl)) (by unfold Func.isWrapper; first | (rw [if_pos (by decide +kernel)]; kernel_rfl) | (rw [if_neg (by decide +kernel)]; exact ⟨rfl, rfl⟩))
    (fun os started H enc _ => lifted os started H enc)
/-- The statement. -/
theorem proved : Rows.CircNetsSaid := over
end circNets
end Go.Proofs.Ytmaekaflpbenmaa
