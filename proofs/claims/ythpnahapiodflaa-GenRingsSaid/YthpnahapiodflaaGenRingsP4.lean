/- Part 4 of what the claim GenRings needs: lemmas and contracts, printed from longer texts. No conditions. -/
import Derived.Test.YthpnahapiodflaaRows
import Derived.Lib.SmallJoins
import Derived.KernelRfl
import Derived.WalkKit
import Derived.ProofKit
import Derived.Deep.Quiet
import Derived.Deep.LoopGhost
import Derived.StillTail
import Derived.Test.YthpnahapiodflaaProg
import Derived.OpenShut
import Derived.ShutString
import Derived.ChangeOld
import Derived.Deep.Slices
import Derived.SizedLaws
import Derived.Laws.StructEq
import Derived.Laws.Externs
import Derived.MapKept
import Derived.Test.YthpnahapiodflaaGenRingsP3
namespace Go.Proofs.Ythpnahapiodflaa
open Go Go.Lt Go.RowKit
set_option linter.unusedVariables false
set_option linter.unusedSimpArgs false
set_option maxRecDepth 20000

set_option maxHeartbeats 32000000 in
theorem ref11_Same (a b : Circ) (w : World) (hCa : CAt w a) (hCb : CAt w b) : Pure Try.prog 32 [a.val, b.val] w (.bool (dec (a.t = b.t))) := by
  by_cases e0 : a.max = b.max
  rotate_left
  · skip
    refine Spec.of _ Try.func32 rfl Try.ntmps32 (by kernel_rfl) rfl ?_
    repeat' (first
      | (apply WL.box; exact rfl; exact rfl; exact rfl; intro gb w' hb hge hc hx; have hcc := hc; (first | (obtain ⟨h1, h2, h3, _⟩ := hc) | (obtain ⟨h1, h2, _⟩ := hc)); (first | (have h_0 := xA0; clear h_0; have hB := hcc; obtain ⟨xB0, xB1, xB2, xB3, xB4, xB5, xB6, xB7, xB8, _⟩ := hcc; (obtain ⟨gB, rfl⟩ : ∃ x, x = gb := ⟨_, rfl⟩; obtain ⟨wB, rfl⟩ : ∃ x, x = w' := ⟨_, rfl⟩; obtain ⟨hxB, rfl⟩ : ∃ x, x = hx := ⟨_, rfl⟩)) | (have hA := hcc; obtain ⟨xA0, xA1, xA2, xA3, xA4, xA5, xA6, xA7, xA8, _⟩ := hcc; (obtain ⟨gA, rfl⟩ : ∃ x, x = gb := ⟨_, rfl⟩; obtain ⟨wA, rfl⟩ : ∃ x, x = w' := ⟨_, rfl⟩; obtain ⟨hxA, rfl⟩ : ∃ x, x = hx := ⟨_, rfl⟩))))
      | (apply WL.gT; exact rfl; exact rfl; (focus (first | exact dec_true e0; done)))
      | (show WL _ _ _ _ _ _ _; first | apply WL.nil | (refine WL.au (k := ?_)) | (apply WL.guardF; exact rfl; exact rfl))
      | (show Z _ _ _ _ _; first | apply Z.then_normal | apply Z.then_ret)
      | (show W _ _ _ _ _ _; first | apply W.seq | apply W.region | apply W.ret | (apply W.condT; exact rfl)))
    exact Z.body1 Try.results32 rfl fun m => ⟨congrArg Value.bool (dec_false (show ¬ a.t = b.t from fun h => e0 (congrArg CirT.max h))).symm, Ext.at (by (exact extA)) m⟩
  by_cases e1 : a.com = b.com
  rotate_left
  · skip
    refine Spec.of _ Try.func32 rfl Try.ntmps32 (by kernel_rfl) rfl ?_
    repeat' (first
      | (apply WL.box; exact rfl; exact rfl; exact rfl; intro gb w' hb hge hc hx; have hcc := hc; (first | (obtain ⟨h1, h2, h3, _⟩ := hc) | (obtain ⟨h1, h2, _⟩ := hc)); (first | (have h_0 := xA0; clear h_0; have hB := hcc; obtain ⟨xB0, xB1, xB2, xB3, xB4, xB5, xB6, xB7, xB8, _⟩ := hcc; (obtain ⟨gB, rfl⟩ : ∃ x, x = gb := ⟨_, rfl⟩; obtain ⟨wB, rfl⟩ : ∃ x, x = w' := ⟨_, rfl⟩; obtain ⟨hxB, rfl⟩ : ∃ x, x = hx := ⟨_, rfl⟩)) | (have hA := hcc; obtain ⟨xA0, xA1, xA2, xA3, xA4, xA5, xA6, xA7, xA8, _⟩ := hcc; (obtain ⟨gA, rfl⟩ : ∃ x, x = gb := ⟨_, rfl⟩; obtain ⟨wA, rfl⟩ : ∃ x, x = w' := ⟨_, rfl⟩; obtain ⟨hxA, rfl⟩ : ∃ x, x = hx := ⟨_, rfl⟩))))
      | (apply WL.neStr tOk; exact rfl; exact rfl; exact rfl; exact rfl; exact rfl; exact rfl)
      | (apply WL.gT; exact rfl; exact rfl; (focus (first | exact dec_false (fun h => h e0) | exact dec_true e1; done)))
      | (apply WL.gF; exact rfl; exact rfl; (focus (first | exact dec_false (fun h => h e0) | exact dec_true e1; done)))
      | (show WL _ _ _ _ _ _ _; first | apply WL.nil | (refine WL.au (k := ?_)) | (apply WL.guardF; exact rfl; exact rfl))
      | (show Z _ _ _ _ _; first | apply Z.then_normal | apply Z.then_ret)
      | (show W _ _ _ _ _ _; first | apply W.seq | apply W.region | apply W.ret | (apply W.condT; exact rfl)))
    exact Z.body1 Try.results32 rfl fun m => ⟨congrArg Value.bool (dec_false (show ¬ a.t = b.t from fun h => e1 (congrArg CirT.com h))).symm, Ext.at (by (exact extA)) m⟩
  by_cases e2 : a.ins.2.2 = b.ins.2.2
  rotate_left
  · skip
    refine Spec.of _ Try.func32 rfl Try.ntmps32 (by kernel_rfl) rfl ?_
    repeat' (first
      | (apply WL.box; exact rfl; exact rfl; exact rfl; intro gb w' hb hge hc hx; have hcc := hc; (first | (obtain ⟨h1, h2, h3, _⟩ := hc) | (obtain ⟨h1, h2, _⟩ := hc)); (first | (have h_0 := xA0; clear h_0; have hB := hcc; obtain ⟨xB0, xB1, xB2, xB3, xB4, xB5, xB6, xB7, xB8, _⟩ := hcc; (obtain ⟨gB, rfl⟩ : ∃ x, x = gb := ⟨_, rfl⟩; obtain ⟨wB, rfl⟩ : ∃ x, x = w' := ⟨_, rfl⟩; obtain ⟨hxB, rfl⟩ : ∃ x, x = hx := ⟨_, rfl⟩)) | (have hA := hcc; obtain ⟨xA0, xA1, xA2, xA3, xA4, xA5, xA6, xA7, xA8, _⟩ := hcc; (obtain ⟨gA, rfl⟩ : ∃ x, x = gb := ⟨_, rfl⟩; obtain ⟨wA, rfl⟩ : ∃ x, x = w' := ⟨_, rfl⟩; obtain ⟨hxA, rfl⟩ : ∃ x, x = hx := ⟨_, rfl⟩))))
      | (apply WL.neStr tOk; exact rfl; exact rfl; exact rfl; exact rfl; exact rfl; exact rfl)
      | (apply WL.gT; exact rfl; exact rfl; (focus (first | exact dec_false (fun h => h e0) | exact dec_false (fun h => h e1) | (rw [dec_false e2]; rfl); done)))
      | (apply WL.gF; exact rfl; exact rfl; (focus (first | exact dec_false (fun h => h e0) | exact dec_false (fun h => h e1) | (rw [dec_false e2]; rfl); done)))
      | ((show WL _ _ _ (⟨_, .call ⟨.value (.func 33), _, _⟩, _, _, _, _⟩ :: _) _ _ _); apply WL.callS; exact rfl; exact rfl; exact rfl; exact rfl; exact ref_Ints _ _ _ _ _ _ _ (hCa.ins.row.ext (by (exact extA))) (hCb.ins.row.ext (by (exact extA))))
      | (show WL _ _ _ _ _ _ _; first | apply WL.nil | (refine WL.au (k := ?_)) | (apply WL.guardF; exact rfl; exact rfl))
      | (show Z _ _ _ _ _; first | apply Z.then_normal | apply Z.then_ret)
      | (show W _ _ _ _ _ _; first | apply W.seq | apply W.region | apply W.ret | (apply W.condT; exact rfl)))
    exact Z.body1 Try.results32 rfl fun m => ⟨congrArg Value.bool (dec_false (show ¬ a.t = b.t from fun h => e2 (congrArg CirT.ins h))).symm, Ext.at (by (exact extA)) m⟩
  by_cases e3 : a.outs.2.2 = b.outs.2.2
  rotate_left
  · skip
    refine Spec.of _ Try.func32 rfl Try.ntmps32 (by kernel_rfl) rfl ?_
    repeat' (first
      | (apply WL.box; exact rfl; exact rfl; exact rfl; intro gb w' hb hge hc hx; have hcc := hc; (first | (obtain ⟨h1, h2, h3, _⟩ := hc) | (obtain ⟨h1, h2, _⟩ := hc)); (first | (have h_0 := xA0; clear h_0; have hB := hcc; obtain ⟨xB0, xB1, xB2, xB3, xB4, xB5, xB6, xB7, xB8, _⟩ := hcc; (obtain ⟨gB, rfl⟩ : ∃ x, x = gb := ⟨_, rfl⟩; obtain ⟨wB, rfl⟩ : ∃ x, x = w' := ⟨_, rfl⟩; obtain ⟨hxB, rfl⟩ : ∃ x, x = hx := ⟨_, rfl⟩)) | (have hA := hcc; obtain ⟨xA0, xA1, xA2, xA3, xA4, xA5, xA6, xA7, xA8, _⟩ := hcc; (obtain ⟨gA, rfl⟩ : ∃ x, x = gb := ⟨_, rfl⟩; obtain ⟨wA, rfl⟩ : ∃ x, x = w' := ⟨_, rfl⟩; obtain ⟨hxA, rfl⟩ : ∃ x, x = hx := ⟨_, rfl⟩))))
      | (apply WL.neStr tOk; exact rfl; exact rfl; exact rfl; exact rfl; exact rfl; exact rfl)
      | (apply WL.gT; exact rfl; exact rfl; (focus (first | exact dec_false (fun h => h e0) | exact dec_false (fun h => h e1) | (rw [dec_true e2]; rfl) | (rw [dec_false e3]; rfl); done)))
      | (apply WL.gF; exact rfl; exact rfl; (focus (first | exact dec_false (fun h => h e0) | exact dec_false (fun h => h e1) | (rw [dec_true e2]; rfl) | (rw [dec_false e3]; rfl); done)))
      | ((show WL _ _ _ (⟨_, .call ⟨.value (.func 33), _, _⟩, _, _, _, _⟩ :: _) _ _ _); apply WL.callS; exact rfl; exact rfl; exact rfl; exact rfl; exact ref_Ints _ _ _ _ _ _ _ (hCa.ins.row.ext (by (exact extA))) (hCb.ins.row.ext (by (exact extA))))
      | ((show WL _ _ _ (⟨_, .call ⟨.value (.func 33), _, _⟩, _, _, _, _⟩ :: _) _ _ _); apply WL.callS; exact rfl; exact rfl; exact rfl; exact rfl; exact ref_Ints _ _ _ _ _ _ _ (hCa.outs.row.ext (by (exact extA))) (hCb.outs.row.ext (by (exact extA))))
      | (show WL _ _ _ _ _ _ _; first | apply WL.nil | (refine WL.au (k := ?_)) | (apply WL.guardF; exact rfl; exact rfl))
      | (show Z _ _ _ _ _; first | apply Z.then_normal | apply Z.then_ret)
      | (show W _ _ _ _ _ _; first | apply W.seq | apply W.region | apply W.ret | (apply W.condT; exact rfl)))
    exact Z.body1 Try.results32 rfl fun m => ⟨congrArg Value.bool (dec_false (show ¬ a.t = b.t from fun h => e3 (congrArg CirT.outs h))).symm, Ext.at (by (exact extA)) m⟩
  by_cases e4 : a.bads.2.2 = b.bads.2.2
  rotate_left
  · skip
    refine Spec.of _ Try.func32 rfl Try.ntmps32 (by kernel_rfl) rfl ?_
    repeat' (first
      | (apply WL.box; exact rfl; exact rfl; exact rfl; intro gb w' hb hge hc hx; have hcc := hc; (first | (obtain ⟨h1, h2, h3, _⟩ := hc) | (obtain ⟨h1, h2, _⟩ := hc)); (first | (have h_0 := xA0; clear h_0; have hB := hcc; obtain ⟨xB0, xB1, xB2, xB3, xB4, xB5, xB6, xB7, xB8, _⟩ := hcc; (obtain ⟨gB, rfl⟩ : ∃ x, x = gb := ⟨_, rfl⟩; obtain ⟨wB, rfl⟩ : ∃ x, x = w' := ⟨_, rfl⟩; obtain ⟨hxB, rfl⟩ : ∃ x, x = hx := ⟨_, rfl⟩)) | (have hA := hcc; obtain ⟨xA0, xA1, xA2, xA3, xA4, xA5, xA6, xA7, xA8, _⟩ := hcc; (obtain ⟨gA, rfl⟩ : ∃ x, x = gb := ⟨_, rfl⟩; obtain ⟨wA, rfl⟩ : ∃ x, x = w' := ⟨_, rfl⟩; obtain ⟨hxA, rfl⟩ : ∃ x, x = hx := ⟨_, rfl⟩))))
      | (apply WL.neStr tOk; exact rfl; exact rfl; exact rfl; exact rfl; exact rfl; exact rfl)
      | (apply WL.gT; exact rfl; exact rfl; (focus (first | exact dec_false (fun h => h e0) | exact dec_false (fun h => h e1) | (rw [dec_true e2]; rfl) | (rw [dec_true e3]; rfl) | (rw [dec_false e4]; rfl); done)))
      | (apply WL.gF; exact rfl; exact rfl; (focus (first | exact dec_false (fun h => h e0) | exact dec_false (fun h => h e1) | (rw [dec_true e2]; rfl) | (rw [dec_true e3]; rfl) | (rw [dec_false e4]; rfl); done)))
      | ((show WL _ _ _ (⟨_, .call ⟨.value (.func 33), _, _⟩, _, _, _, _⟩ :: _) _ _ _); apply WL.callS; exact rfl; exact rfl; exact rfl; exact rfl; exact ref_Ints _ _ _ _ _ _ _ (hCa.ins.row.ext (by (exact extA))) (hCb.ins.row.ext (by (exact extA))))
      | ((show WL _ _ _ (⟨_, .call ⟨.value (.func 33), _, _⟩, _, _, _, _⟩ :: _) _ _ _); apply WL.callS; exact rfl; exact rfl; exact rfl; exact rfl; exact ref_Ints _ _ _ _ _ _ _ (hCa.outs.row.ext (by (exact extA))) (hCb.outs.row.ext (by (exact extA))))
      | ((show WL _ _ _ (⟨_, .call ⟨.value (.func 33), _, _⟩, _, _, _, _⟩ :: _) _ _ _); apply WL.callS; exact rfl; exact rfl; exact rfl; exact rfl; exact ref_Ints _ _ _ _ _ _ _ (hCa.bads.row.ext (by (exact extA))) (hCb.bads.row.ext (by (exact extA))))
      | (show WL _ _ _ _ _ _ _; first | apply WL.nil | (refine WL.au (k := ?_)) | (apply WL.guardF; exact rfl; exact rfl))
      | (show Z _ _ _ _ _; first | apply Z.then_normal | apply Z.then_ret)
      | (show W _ _ _ _ _ _; first | apply W.seq | apply W.region | apply W.ret | (apply W.condT; exact rfl)))
    exact Z.body1 Try.results32 rfl fun m => ⟨congrArg Value.bool (dec_false (show ¬ a.t = b.t from fun h => e4 (congrArg CirT.bads h))).symm, Ext.at (by (exact extA)) m⟩
  by_cases e5 : a.cons.2.2 = b.cons.2.2
  rotate_left
  · skip
    refine Spec.of _ Try.func32 rfl Try.ntmps32 (by kernel_rfl) rfl ?_
    repeat' (first
      | (apply WL.box; exact rfl; exact rfl; exact rfl; intro gb w' hb hge hc hx; have hcc := hc; (first | (obtain ⟨h1, h2, h3, _⟩ := hc) | (obtain ⟨h1, h2, _⟩ := hc)); (first | (have h_0 := xA0; clear h_0; have hB := hcc; obtain ⟨xB0, xB1, xB2, xB3, xB4, xB5, xB6, xB7, xB8, _⟩ := hcc; (obtain ⟨gB, rfl⟩ : ∃ x, x = gb := ⟨_, rfl⟩; obtain ⟨wB, rfl⟩ : ∃ x, x = w' := ⟨_, rfl⟩; obtain ⟨hxB, rfl⟩ : ∃ x, x = hx := ⟨_, rfl⟩)) | (have hA := hcc; obtain ⟨xA0, xA1, xA2, xA3, xA4, xA5, xA6, xA7, xA8, _⟩ := hcc; (obtain ⟨gA, rfl⟩ : ∃ x, x = gb := ⟨_, rfl⟩; obtain ⟨wA, rfl⟩ : ∃ x, x = w' := ⟨_, rfl⟩; obtain ⟨hxA, rfl⟩ : ∃ x, x = hx := ⟨_, rfl⟩))))
      | (apply WL.neStr tOk; exact rfl; exact rfl; exact rfl; exact rfl; exact rfl; exact rfl)
      | (apply WL.gF; exact rfl; exact rfl; (focus (first | exact dec_false (fun h => h e0) | exact dec_false (fun h => h e1) | (rw [dec_true e2]; rfl) | (rw [dec_true e3]; rfl) | (rw [dec_true e4]; rfl) | (rw [dec_false e5]; rfl); done)))
      | (apply W.condKT; exact rfl; (focus (first | exact dec_false (fun h => h e0) | exact dec_false (fun h => h e1) | (rw [dec_true e2]; rfl) | (rw [dec_true e3]; rfl) | (rw [dec_true e4]; rfl) | (rw [dec_false e5]; rfl); done)))
      | ((show WL _ _ _ (⟨_, .call ⟨.value (.func 33), _, _⟩, _, _, _, _⟩ :: _) _ _ _); apply WL.callS; exact rfl; exact rfl; exact rfl; exact rfl; exact ref_Ints _ _ _ _ _ _ _ (hCa.ins.row.ext (by (exact extA))) (hCb.ins.row.ext (by (exact extA))))
      | ((show WL _ _ _ (⟨_, .call ⟨.value (.func 33), _, _⟩, _, _, _, _⟩ :: _) _ _ _); apply WL.callS; exact rfl; exact rfl; exact rfl; exact rfl; exact ref_Ints _ _ _ _ _ _ _ (hCa.outs.row.ext (by (exact extA))) (hCb.outs.row.ext (by (exact extA))))
      | ((show WL _ _ _ (⟨_, .call ⟨.value (.func 33), _, _⟩, _, _, _, _⟩ :: _) _ _ _); apply WL.callS; exact rfl; exact rfl; exact rfl; exact rfl; exact ref_Ints _ _ _ _ _ _ _ (hCa.bads.row.ext (by (exact extA))) (hCb.bads.row.ext (by (exact extA))))
      | ((show WL _ _ _ (⟨_, .call ⟨.value (.func 33), _, _⟩, _, _, _, _⟩ :: _) _ _ _); apply WL.callS; exact rfl; exact rfl; exact rfl; exact rfl; exact ref_Ints _ _ _ _ _ _ _ (hCa.cons.row.ext (by (exact extA))) (hCb.cons.row.ext (by (exact extA))))
      | (show WL _ _ _ _ _ _ _; first | apply WL.nil | (refine WL.au (k := ?_)))
      | (show Z _ _ _ _ _; first | apply Z.then_normal | apply Z.then_ret)
      | (show W _ _ _ _ _ _; first | apply W.seq | apply W.region | apply W.ret))
    exact Z.body1 Try.results32 rfl fun m => ⟨congrArg Value.bool (dec_false (show ¬ a.t = b.t from fun h => e5 (congrArg CirT.cons h))).symm, Ext.at (by (exact extA)) m⟩
  by_cases l0 : a.lat.2.2.length = b.lat.2.2.length
  rotate_left
  · skip
    refine Spec.of _ Try.func32 rfl Try.ntmps32 (by kernel_rfl) rfl ?_
    repeat' (first
      | (apply WL.box; exact rfl; exact rfl; exact rfl; intro gb w' hb hge hc hx; have hcc := hc; (first | (obtain ⟨h1, h2, h3, _⟩ := hc) | (obtain ⟨h1, h2, _⟩ := hc)); (first | (have h_0 := xA0; clear h_0; have hB := hcc; obtain ⟨xB0, xB1, xB2, xB3, xB4, xB5, xB6, xB7, xB8, _⟩ := hcc; (obtain ⟨gB, rfl⟩ : ∃ x, x = gb := ⟨_, rfl⟩; obtain ⟨wB, rfl⟩ : ∃ x, x = w' := ⟨_, rfl⟩; obtain ⟨hxB, rfl⟩ : ∃ x, x = hx := ⟨_, rfl⟩)) | (have hA := hcc; obtain ⟨xA0, xA1, xA2, xA3, xA4, xA5, xA6, xA7, xA8, _⟩ := hcc; (obtain ⟨gA, rfl⟩ : ∃ x, x = gb := ⟨_, rfl⟩; obtain ⟨wA, rfl⟩ : ∃ x, x = w' := ⟨_, rfl⟩; obtain ⟨hxA, rfl⟩ : ∃ x, x = hx := ⟨_, rfl⟩))))
      | (apply WL.neStr tOk; exact rfl; exact rfl; exact rfl; exact rfl; exact rfl; exact rfl)
      | (apply WL.gT; exact rfl; exact rfl; (focus (first | exact dec_false (fun h => h e0) | exact dec_false (fun h => h e1) | (rw [dec_true e2]; rfl) | (rw [dec_true e3]; rfl) | (rw [dec_true e4]; rfl) | (rw [dec_true e5]; rfl) | exact dec_true (show ((a.lat.2.2.length : Nat) : Int) ≠ (b.lat.2.2.length : Nat) by omega); done)))
      | (apply WL.gF; exact rfl; exact rfl; (focus (first | exact dec_false (fun h => h e0) | exact dec_false (fun h => h e1) | (rw [dec_true e2]; rfl) | (rw [dec_true e3]; rfl) | (rw [dec_true e4]; rfl) | (rw [dec_true e5]; rfl) | exact dec_true (show ((a.lat.2.2.length : Nat) : Int) ≠ (b.lat.2.2.length : Nat) by omega); done)))
      | (apply W.condKF; exact rfl; (focus (first | exact dec_false (fun h => h e0) | exact dec_false (fun h => h e1) | (rw [dec_true e2]; rfl) | (rw [dec_true e3]; rfl) | (rw [dec_true e4]; rfl) | (rw [dec_true e5]; rfl) | exact dec_true (show ((a.lat.2.2.length : Nat) : Int) ≠ (b.lat.2.2.length : Nat) by omega); done)))
      | ((show WL _ _ _ (⟨_, .call ⟨.value (.func 33), _, _⟩, _, _, _, _⟩ :: _) _ _ _); apply WL.callS; exact rfl; exact rfl; exact rfl; exact rfl; exact ref_Ints _ _ _ _ _ _ _ (hCa.ins.row.ext (by (exact extA))) (hCb.ins.row.ext (by (exact extA))))
      | ((show WL _ _ _ (⟨_, .call ⟨.value (.func 33), _, _⟩, _, _, _, _⟩ :: _) _ _ _); apply WL.callS; exact rfl; exact rfl; exact rfl; exact rfl; exact ref_Ints _ _ _ _ _ _ _ (hCa.outs.row.ext (by (exact extA))) (hCb.outs.row.ext (by (exact extA))))
      | ((show WL _ _ _ (⟨_, .call ⟨.value (.func 33), _, _⟩, _, _, _, _⟩ :: _) _ _ _); apply WL.callS; exact rfl; exact rfl; exact rfl; exact rfl; exact ref_Ints _ _ _ _ _ _ _ (hCa.bads.row.ext (by (exact extA))) (hCb.bads.row.ext (by (exact extA))))
      | ((show WL _ _ _ (⟨_, .call ⟨.value (.func 33), _, _⟩, _, _, _, _⟩ :: _) _ _ _); apply WL.callS; exact rfl; exact rfl; exact rfl; exact rfl; exact ref_Ints _ _ _ _ _ _ _ (hCa.cons.row.ext (by (exact extA))) (hCb.cons.row.ext (by (exact extA))))
      | (show WL _ _ _ _ _ _ _; first | apply WL.nil | (refine WL.au (k := ?_)) | (apply WL.guardF; exact rfl; exact rfl))
      | (show Z _ _ _ _ _; first | apply Z.then_normal | apply Z.then_ret)
      | (show W _ _ _ _ _ _; first | apply W.seq | apply W.region | apply W.skip | apply W.ret | (apply W.condT; exact rfl)))
    exact Z.body1 Try.results32 rfl fun m => ⟨congrArg Value.bool (dec_false (show ¬ a.t = b.t from fun h => l0 (congrArg (fun c : CirT => c.lat.length) h))).symm, Ext.at (by (exact extA)) m⟩
  by_cases l1 : a.gates.2.2.length = b.gates.2.2.length
  rotate_left
  · skip
    refine Spec.of _ Try.func32 rfl Try.ntmps32 (by kernel_rfl) rfl ?_
    repeat' (first
      | (apply WL.box; exact rfl; exact rfl; exact rfl; intro gb w' hb hge hc hx; have hcc := hc; (first | (obtain ⟨h1, h2, h3, _⟩ := hc) | (obtain ⟨h1, h2, _⟩ := hc)); (first | (have h_0 := xA0; clear h_0; have hB := hcc; obtain ⟨xB0, xB1, xB2, xB3, xB4, xB5, xB6, xB7, xB8, _⟩ := hcc; (obtain ⟨gB, rfl⟩ : ∃ x, x = gb := ⟨_, rfl⟩; obtain ⟨wB, rfl⟩ : ∃ x, x = w' := ⟨_, rfl⟩; obtain ⟨hxB, rfl⟩ : ∃ x, x = hx := ⟨_, rfl⟩)) | (have hA := hcc; obtain ⟨xA0, xA1, xA2, xA3, xA4, xA5, xA6, xA7, xA8, _⟩ := hcc; (obtain ⟨gA, rfl⟩ : ∃ x, x = gb := ⟨_, rfl⟩; obtain ⟨wA, rfl⟩ : ∃ x, x = w' := ⟨_, rfl⟩; obtain ⟨hxA, rfl⟩ : ∃ x, x = hx := ⟨_, rfl⟩))))
      | (apply WL.neStr tOk; exact rfl; exact rfl; exact rfl; exact rfl; exact rfl; exact rfl)
      | (apply WL.gT; exact rfl; exact rfl; (focus (first | exact dec_false (fun h => h e0) | exact dec_false (fun h => h e1) | (rw [dec_true e2]; rfl) | (rw [dec_true e3]; rfl) | (rw [dec_true e4]; rfl) | (rw [dec_true e5]; rfl) | exact dec_false (show ¬ ((a.lat.2.2.length : Nat) : Int) ≠ (b.lat.2.2.length : Nat) by omega) | exact dec_true (show ((a.gates.2.2.length : Nat) : Int) ≠ (b.gates.2.2.length : Nat) by omega); done)))
      | (apply WL.gF; exact rfl; exact rfl; (focus (first | exact dec_false (fun h => h e0) | exact dec_false (fun h => h e1) | (rw [dec_true e2]; rfl) | (rw [dec_true e3]; rfl) | (rw [dec_true e4]; rfl) | (rw [dec_true e5]; rfl) | exact dec_false (show ¬ ((a.lat.2.2.length : Nat) : Int) ≠ (b.lat.2.2.length : Nat) by omega) | exact dec_true (show ((a.gates.2.2.length : Nat) : Int) ≠ (b.gates.2.2.length : Nat) by omega); done)))
      | (apply W.condKF; exact rfl; (focus (first | exact dec_false (fun h => h e0) | exact dec_false (fun h => h e1) | (rw [dec_true e2]; rfl) | (rw [dec_true e3]; rfl) | (rw [dec_true e4]; rfl) | (rw [dec_true e5]; rfl) | exact dec_false (show ¬ ((a.lat.2.2.length : Nat) : Int) ≠ (b.lat.2.2.length : Nat) by omega) | exact dec_true (show ((a.gates.2.2.length : Nat) : Int) ≠ (b.gates.2.2.length : Nat) by omega); done)))
      | ((show WL _ _ _ (⟨_, .call ⟨.value (.func 33), _, _⟩, _, _, _, _⟩ :: _) _ _ _); apply WL.callS; exact rfl; exact rfl; exact rfl; exact rfl; exact ref_Ints _ _ _ _ _ _ _ (hCa.ins.row.ext (by (exact extA))) (hCb.ins.row.ext (by (exact extA))))
      | ((show WL _ _ _ (⟨_, .call ⟨.value (.func 33), _, _⟩, _, _, _, _⟩ :: _) _ _ _); apply WL.callS; exact rfl; exact rfl; exact rfl; exact rfl; exact ref_Ints _ _ _ _ _ _ _ (hCa.outs.row.ext (by (exact extA))) (hCb.outs.row.ext (by (exact extA))))
      | ((show WL _ _ _ (⟨_, .call ⟨.value (.func 33), _, _⟩, _, _, _, _⟩ :: _) _ _ _); apply WL.callS; exact rfl; exact rfl; exact rfl; exact rfl; exact ref_Ints _ _ _ _ _ _ _ (hCa.bads.row.ext (by (exact extA))) (hCb.bads.row.ext (by (exact extA))))
      | ((show WL _ _ _ (⟨_, .call ⟨.value (.func 33), _, _⟩, _, _, _, _⟩ :: _) _ _ _); apply WL.callS; exact rfl; exact rfl; exact rfl; exact rfl; exact ref_Ints _ _ _ _ _ _ _ (hCa.cons.row.ext (by (exact extA))) (hCb.cons.row.ext (by (exact extA))))
      | (show WL _ _ _ _ _ _ _; first | apply WL.nil | (refine WL.au (k := ?_)) | (apply WL.guardF; exact rfl; exact rfl))
      | (show Z _ _ _ _ _; first | apply Z.then_normal | apply Z.then_ret)
      | (show W _ _ _ _ _ _; first | apply W.seq | apply W.region | apply W.skip | apply W.ret | (apply W.condT; exact rfl)))
    exact Z.body1 Try.results32 rfl fun m => ⟨congrArg Value.bool (dec_false (show ¬ a.t = b.t from fun h => l1 (congrArg (fun c : CirT => c.gates.length) h))).symm, Ext.at (by (exact extA)) m⟩
  by_cases l2 : a.syms.2.2.length = b.syms.2.2.length
  rotate_left
  · skip
    refine Spec.of _ Try.func32 rfl Try.ntmps32 (by kernel_rfl) rfl ?_
    repeat' (first
      | (apply WL.box; exact rfl; exact rfl; exact rfl; intro gb w' hb hge hc hx; have hcc := hc; (first | (obtain ⟨h1, h2, h3, _⟩ := hc) | (obtain ⟨h1, h2, _⟩ := hc)); (first | (have h_0 := xA0; clear h_0; have hB := hcc; obtain ⟨xB0, xB1, xB2, xB3, xB4, xB5, xB6, xB7, xB8, _⟩ := hcc; (obtain ⟨gB, rfl⟩ : ∃ x, x = gb := ⟨_, rfl⟩; obtain ⟨wB, rfl⟩ : ∃ x, x = w' := ⟨_, rfl⟩; obtain ⟨hxB, rfl⟩ : ∃ x, x = hx := ⟨_, rfl⟩)) | (have hA := hcc; obtain ⟨xA0, xA1, xA2, xA3, xA4, xA5, xA6, xA7, xA8, _⟩ := hcc; (obtain ⟨gA, rfl⟩ : ∃ x, x = gb := ⟨_, rfl⟩; obtain ⟨wA, rfl⟩ : ∃ x, x = w' := ⟨_, rfl⟩; obtain ⟨hxA, rfl⟩ : ∃ x, x = hx := ⟨_, rfl⟩))))
      | (apply WL.neStr tOk; exact rfl; exact rfl; exact rfl; exact rfl; exact rfl; exact rfl)
      | (apply WL.gF; exact rfl; exact rfl; (focus (first | exact dec_false (fun h => h e0) | exact dec_false (fun h => h e1) | (rw [dec_true e2]; rfl) | (rw [dec_true e3]; rfl) | (rw [dec_true e4]; rfl) | (rw [dec_true e5]; rfl) | exact dec_false (show ¬ ((a.lat.2.2.length : Nat) : Int) ≠ (b.lat.2.2.length : Nat) by omega) | exact dec_false (show ¬ ((a.gates.2.2.length : Nat) : Int) ≠ (b.gates.2.2.length : Nat) by omega) | exact dec_true (show ((a.syms.2.2.length : Nat) : Int) ≠ (b.syms.2.2.length : Nat) by omega); done)))
      | (apply W.condKT; exact rfl; (focus (first | exact dec_false (fun h => h e0) | exact dec_false (fun h => h e1) | (rw [dec_true e2]; rfl) | (rw [dec_true e3]; rfl) | (rw [dec_true e4]; rfl) | (rw [dec_true e5]; rfl) | exact dec_false (show ¬ ((a.lat.2.2.length : Nat) : Int) ≠ (b.lat.2.2.length : Nat) by omega) | exact dec_false (show ¬ ((a.gates.2.2.length : Nat) : Int) ≠ (b.gates.2.2.length : Nat) by omega) | exact dec_true (show ((a.syms.2.2.length : Nat) : Int) ≠ (b.syms.2.2.length : Nat) by omega); done)))
      | (apply W.condKF; exact rfl; (focus (first | exact dec_false (fun h => h e0) | exact dec_false (fun h => h e1) | (rw [dec_true e2]; rfl) | (rw [dec_true e3]; rfl) | (rw [dec_true e4]; rfl) | (rw [dec_true e5]; rfl) | exact dec_false (show ¬ ((a.lat.2.2.length : Nat) : Int) ≠ (b.lat.2.2.length : Nat) by omega) | exact dec_false (show ¬ ((a.gates.2.2.length : Nat) : Int) ≠ (b.gates.2.2.length : Nat) by omega) | exact dec_true (show ((a.syms.2.2.length : Nat) : Int) ≠ (b.syms.2.2.length : Nat) by omega); done)))
      | ((show WL _ _ _ (⟨_, .call ⟨.value (.func 33), _, _⟩, _, _, _, _⟩ :: _) _ _ _); apply WL.callS; exact rfl; exact rfl; exact rfl; exact rfl; exact ref_Ints _ _ _ _ _ _ _ (hCa.ins.row.ext (by (exact extA))) (hCb.ins.row.ext (by (exact extA))))
      | ((show WL _ _ _ (⟨_, .call ⟨.value (.func 33), _, _⟩, _, _, _, _⟩ :: _) _ _ _); apply WL.callS; exact rfl; exact rfl; exact rfl; exact rfl; exact ref_Ints _ _ _ _ _ _ _ (hCa.outs.row.ext (by (exact extA))) (hCb.outs.row.ext (by (exact extA))))
      | ((show WL _ _ _ (⟨_, .call ⟨.value (.func 33), _, _⟩, _, _, _, _⟩ :: _) _ _ _); apply WL.callS; exact rfl; exact rfl; exact rfl; exact rfl; exact ref_Ints _ _ _ _ _ _ _ (hCa.bads.row.ext (by (exact extA))) (hCb.bads.row.ext (by (exact extA))))
      | ((show WL _ _ _ (⟨_, .call ⟨.value (.func 33), _, _⟩, _, _, _, _⟩ :: _) _ _ _); apply WL.callS; exact rfl; exact rfl; exact rfl; exact rfl; exact ref_Ints _ _ _ _ _ _ _ (hCa.cons.row.ext (by (exact extA))) (hCb.cons.row.ext (by (exact extA))))
      | (show WL _ _ _ _ _ _ _; first | apply WL.nil | (refine WL.au (k := ?_)))
      | (show Z _ _ _ _ _; first | apply Z.then_normal | apply Z.then_ret)
      | (show W _ _ _ _ _ _; first | apply W.seq | apply W.region | apply W.skip | apply W.ret))
    exact Z.body1 Try.results32 rfl fun m => ⟨congrArg Value.bool (dec_false (show ¬ a.t = b.t from fun h => l2 (congrArg (fun c : CirT => c.syms.length) h))).symm, Ext.at (by (exact extA)) m⟩
  refine Spec.of _ Try.func32 rfl Try.ntmps32 (by kernel_rfl) rfl ?_
  repeat' (first
    | (apply WL.box; exact rfl; exact rfl; exact rfl; intro gb w' hb hge hc hx; have hcc := hc; (first | (obtain ⟨h1, h2, h3, _⟩ := hc) | (obtain ⟨h1, h2, _⟩ := hc)); (first | (have h_0 := xA0; clear h_0; have hB := hcc; obtain ⟨xB0, xB1, xB2, xB3, xB4, xB5, xB6, xB7, xB8, _⟩ := hcc; (obtain ⟨gB, rfl⟩ : ∃ x, x = gb := ⟨_, rfl⟩; obtain ⟨wB, rfl⟩ : ∃ x, x = w' := ⟨_, rfl⟩; obtain ⟨hxB, rfl⟩ : ∃ x, x = hx := ⟨_, rfl⟩)) | (have hA := hcc; obtain ⟨xA0, xA1, xA2, xA3, xA4, xA5, xA6, xA7, xA8, _⟩ := hcc; (obtain ⟨gA, rfl⟩ : ∃ x, x = gb := ⟨_, rfl⟩; obtain ⟨wA, rfl⟩ : ∃ x, x = w' := ⟨_, rfl⟩; obtain ⟨hxA, rfl⟩ : ∃ x, x = hx := ⟨_, rfl⟩))))
    | (apply WL.neStr tOk; exact rfl; exact rfl; exact rfl; exact rfl; exact rfl; exact rfl)
    | (apply WL.gF; exact rfl; exact rfl; (focus (first | exact dec_false (fun h => h e0) | exact dec_false (fun h => h e1) | (rw [dec_true e2]; rfl) | (rw [dec_true e3]; rfl) | (rw [dec_true e4]; rfl) | (rw [dec_true e5]; rfl) | exact dec_false (show ¬ ((a.lat.2.2.length : Nat) : Int) ≠ (b.lat.2.2.length : Nat) by omega) | exact dec_false (show ¬ ((a.gates.2.2.length : Nat) : Int) ≠ (b.gates.2.2.length : Nat) by omega) | exact dec_false (show ¬ ((a.syms.2.2.length : Nat) : Int) ≠ (b.syms.2.2.length : Nat) by omega); done)))
    | (apply W.condKF; exact rfl; (focus (first | exact dec_false (fun h => h e0) | exact dec_false (fun h => h e1) | (rw [dec_true e2]; rfl) | (rw [dec_true e3]; rfl) | (rw [dec_true e4]; rfl) | (rw [dec_true e5]; rfl) | exact dec_false (show ¬ ((a.lat.2.2.length : Nat) : Int) ≠ (b.lat.2.2.length : Nat) by omega) | exact dec_false (show ¬ ((a.gates.2.2.length : Nat) : Int) ≠ (b.gates.2.2.length : Nat) by omega) | exact dec_false (show ¬ ((a.syms.2.2.length : Nat) : Int) ≠ (b.syms.2.2.length : Nat) by omega); done)))
    | ((show WL _ _ _ (⟨_, .call ⟨.value (.func 33), _, _⟩, _, _, _, _⟩ :: _) _ _ _); apply WL.callS; exact rfl; exact rfl; exact rfl; exact rfl; exact ref_Ints _ _ _ _ _ _ _ (hCa.ins.row.ext (by (exact extA))) (hCb.ins.row.ext (by (exact extA))))
    | ((show WL _ _ _ (⟨_, .call ⟨.value (.func 33), _, _⟩, _, _, _, _⟩ :: _) _ _ _); apply WL.callS; exact rfl; exact rfl; exact rfl; exact rfl; exact ref_Ints _ _ _ _ _ _ _ (hCa.outs.row.ext (by (exact extA))) (hCb.outs.row.ext (by (exact extA))))
    | ((show WL _ _ _ (⟨_, .call ⟨.value (.func 33), _, _⟩, _, _, _, _⟩ :: _) _ _ _); apply WL.callS; exact rfl; exact rfl; exact rfl; exact rfl; exact ref_Ints _ _ _ _ _ _ _ (hCa.bads.row.ext (by (exact extA))) (hCb.bads.row.ext (by (exact extA))))
    | ((show WL _ _ _ (⟨_, .call ⟨.value (.func 33), _, _⟩, _, _, _, _⟩ :: _) _ _ _); apply WL.callS; exact rfl; exact rfl; exact rfl; exact rfl; exact ref_Ints _ _ _ _ _ _ _ (hCa.cons.row.ext (by (exact extA))) (hCb.cons.row.ext (by (exact extA))))
    | (show WL _ _ _ _ _ _ _; first | apply WL.nil | (refine WL.au (k := ?_)))
    | (show Z _ _ _ _ _; apply Z.then_normal)
    | (show W _ _ _ _ _ _; first | apply W.seq | apply W.region | apply W.block | apply W.skip))
  have hX : Ext w wB := (by (exact extA))
  have hA' := hA.ext hxB
  have ka2 : wB.cell? ⟨gA, 0 + 1 + 1, none⟩ = some (rowVal a.lat) := hA'.2.2.1
  have ka6 : wB.cell? ⟨gA, 0 + 1 + 1 + 1 + 1 + 1 + 1, none⟩ = some (rowVal a.gates) := hA'.2.2.2.2.2.2.1
  have ka7 : wB.cell? ⟨gA, 0 + 1 + 1 + 1 + 1 + 1 + 1 + 1, none⟩ = some (rowVal a.syms) := hA'.2.2.2.2.2.2.2.1
  have Ra0 := hCa.lat.row.ext hX
  have Rb0 := hCb.lat.row.ext hX
  have hln0 := Ra0.len
  refine W.loop1 a.lat.2.2.length (fun k => k ≤ a.lat.2.2.length ∧ ∀ i, i < k → a.lat.2.2[i]? = b.lat.2.2[i]?) (fun k => [(2, .pointer (some ⟨gA, 0, none⟩)), (3, .pointer (some ⟨gB, 0, none⟩)), (5, .int .i64 k)]) ⟨by omega, fun i hi => by omega⟩ (fun k h => h.1) ⟨rfl, rfl, rfl, trivial⟩ ?_
  rintro k ⟨hk, heq⟩
  by_cases hlt : k < a.lat.2.2.length
  · obtain ⟨x, hx⟩ := getI a.lat.2.2 hlt
    obtain ⟨y, hy⟩ := getI b.lat.2.2 (show k < b.lat.2.2.length by omega)
    by_cases hxy : x = y
    · subst hxy
      repeat' (first
        | (apply W.condKT; exact rfl; (focus (first | exact dec_true (show ((k : Nat) : Int) < (a.lat.2.2.length : Int) by omega) | exact dec_false (fun h => h rfl); done)))
        | (apply W.condKF; exact rfl; (focus (first | exact dec_true (show ((k : Nat) : Int) < (a.lat.2.2.length : Int) by omega) | exact dec_false (fun h => h rfl); done)))
        | (apply QL.neqS tOk; exact rfl; exact rfl; exact rfl; exact rfl; exact rfl; exact rfl; exact rfl; exact factLt)
        | (show WL _ _ _ _ _ _ _; first | apply WL.nil | (refine WL.au (k := ?_)))
        | (show QL _ _ _ _ _ _ _; first | apply QL.nil | (refine QL.au (k := ?_)) | (apply QL.index tOk; exact rfl; exact rfl; exact rfl; exact rfl; exact rfl; exact rfl; exact rfl; exact rfl; assumption; (exact extA); exact rfl; omega; assumption; intro b off h; have hcc := h; first | (obtain ⟨h1, h2, h3, h4, h5, h6, _⟩ := h) | (obtain ⟨h1, h2, h3, _⟩ := h) | (obtain ⟨h1, h2, _⟩ := h) | (obtain ⟨h1, _⟩ := h)))
        | (show Z _ _ _ _ _; first | apply Z.then_normal | apply Z.block_normal)
        | (show W _ _ _ _ _ _; first | apply W.seq | apply W.region | apply W.block | apply W.skip | (apply W.regionD tMix; kernel_rfl)))
      exact Z.again1 ⟨by omega, eq_snoc heq hx hy rfl⟩ ⟨rfl, rfl, rfl, trivial⟩
    · repeat' (first
        | (apply W.condKT; exact rfl; (focus (first | exact dec_true (show ((k : Nat) : Int) < (a.lat.2.2.length : Int) by omega) | exact dec_true (ne_iff enc3_inj hxy); done)))
        | (apply QL.neqS tOk; exact rfl; exact rfl; exact rfl; exact rfl; exact rfl; exact rfl; exact rfl; exact factLt)
        | (show WL _ _ _ _ _ _ _; first | apply WL.nil | (refine WL.au (k := ?_)))
        | (show QL _ _ _ _ _ _ _; first | apply QL.nil | (refine QL.au (k := ?_)) | (apply QL.index tOk; exact rfl; exact rfl; exact rfl; exact rfl; exact rfl; exact rfl; exact rfl; exact rfl; assumption; (exact extA); exact rfl; omega; assumption; intro b off h; have hcc := h; first | (obtain ⟨h1, h2, h3, h4, h5, h6, _⟩ := h) | (obtain ⟨h1, h2, h3, _⟩ := h) | (obtain ⟨h1, h2, _⟩ := h) | (obtain ⟨h1, _⟩ := h)))
        | (show Z _ _ _ _ _; first | apply Z.then_normal | apply Z.then_ret | apply Z.block_ret)
        | (show W _ _ _ _ _ _; first | apply W.seq | apply W.region | apply W.block | apply W.skip | apply W.ret | (apply W.regionD tMix; kernel_rfl)))
      exact Z.body1 Try.results32 rfl fun m => ⟨congrArg Value.bool (dec_false (fun h => ne_at hx hy hxy (congrArg CirT.lat h))).symm, Ext.at (by (exact extA)) m⟩
  have e6 := eq_all heq l0 (by omega)
  repeat' (first
    | (apply W.condKF; exact rfl; (focus (exact dec_false (show ¬ ((k : Nat) : Int) < (a.lat.2.2.length : Int) by omega); done)))
    | (show WL _ _ _ _ _ _ _; first | apply WL.nil | (refine WL.au (k := ?_)))
    | (show Z _ _ _ _ _; first | apply Z.then_normal | apply Z.then_exit | apply Z.block_exit)
    | (show W _ _ _ _ _ _; first | apply W.seq | apply W.region | apply W.block | apply W.exit))
  clear heq hlt hk
  have Ra1 := hCa.gates.row.ext hX
  have Rb1 := hCb.gates.row.ext hX
  have hln1 := Ra1.len
  refine W.loop1 a.gates.2.2.length (fun k => k ≤ a.gates.2.2.length ∧ ∀ i, i < k → a.gates.2.2[i]? = b.gates.2.2[i]?) (fun k => [(2, .pointer (some ⟨gA, 0, none⟩)), (3, .pointer (some ⟨gB, 0, none⟩)), (6, .int .i64 k)]) ⟨by omega, fun i hi => by omega⟩ (fun k h => h.1) ⟨rfl, rfl, rfl, trivial⟩ ?_
  rintro k ⟨hk, heq⟩
  by_cases hlt : k < a.gates.2.2.length
  · obtain ⟨x, hx⟩ := getI a.gates.2.2 hlt
    obtain ⟨y, hy⟩ := getI b.gates.2.2 (show k < b.gates.2.2.length by omega)
    by_cases hxy : x = y
    · subst hxy
      repeat' (first
        | (apply W.condKT; exact rfl; (focus (first | exact dec_true (show ((k : Nat) : Int) < (a.gates.2.2.length : Int) by omega) | exact dec_false (fun h => h rfl); done)))
        | (apply W.condKF; exact rfl; (focus (first | exact dec_true (show ((k : Nat) : Int) < (a.gates.2.2.length : Int) by omega) | exact dec_false (fun h => h rfl); done)))
        | (apply QL.neqS tOk; exact rfl; exact rfl; exact rfl; exact rfl; exact rfl; exact rfl; exact rfl; exact factGt)
        | (show WL _ _ _ _ _ _ _; first | apply WL.nil | (refine WL.au (k := ?_)))
        | (show QL _ _ _ _ _ _ _; first | apply QL.nil | (refine QL.au (k := ?_)) | (apply QL.index tOk; exact rfl; exact rfl; exact rfl; exact rfl; exact rfl; exact rfl; exact rfl; exact rfl; assumption; (exact extA); exact rfl; omega; assumption; intro b off h; have hcc := h; first | (obtain ⟨h1, h2, h3, h4, h5, h6, _⟩ := h) | (obtain ⟨h1, h2, h3, _⟩ := h) | (obtain ⟨h1, h2, _⟩ := h) | (obtain ⟨h1, _⟩ := h)))
        | (show Z _ _ _ _ _; first | apply Z.then_normal | apply Z.block_normal)
        | (show W _ _ _ _ _ _; first | apply W.seq | apply W.region | apply W.block | apply W.skip | (apply W.regionD tMix; kernel_rfl)))
      exact Z.again1 ⟨by omega, eq_snoc heq hx hy rfl⟩ ⟨rfl, rfl, rfl, trivial⟩
    · repeat' (first
        | (apply W.condKT; exact rfl; (focus (first | exact dec_true (show ((k : Nat) : Int) < (a.gates.2.2.length : Int) by omega) | exact dec_true (ne_iff enc3_inj hxy); done)))
        | (apply QL.neqS tOk; exact rfl; exact rfl; exact rfl; exact rfl; exact rfl; exact rfl; exact rfl; exact factGt)
        | (show WL _ _ _ _ _ _ _; first | apply WL.nil | (refine WL.au (k := ?_)))
        | (show QL _ _ _ _ _ _ _; first | apply QL.nil | (refine QL.au (k := ?_)) | (apply QL.index tOk; exact rfl; exact rfl; exact rfl; exact rfl; exact rfl; exact rfl; exact rfl; exact rfl; assumption; (exact extA); exact rfl; omega; assumption; intro b off h; have hcc := h; first | (obtain ⟨h1, h2, h3, h4, h5, h6, _⟩ := h) | (obtain ⟨h1, h2, h3, _⟩ := h) | (obtain ⟨h1, h2, _⟩ := h) | (obtain ⟨h1, _⟩ := h)))
        | (show Z _ _ _ _ _; first | apply Z.then_normal | apply Z.then_ret | apply Z.block_ret)
        | (show W _ _ _ _ _ _; first | apply W.seq | apply W.region | apply W.block | apply W.skip | apply W.ret | (apply W.regionD tMix; kernel_rfl)))
      exact Z.body1 Try.results32 rfl fun m => ⟨congrArg Value.bool (dec_false (fun h => ne_at hx hy hxy (congrArg CirT.gates h))).symm, Ext.at (by (exact extA)) m⟩
  have e7 := eq_all heq l1 (by omega)
  repeat' (first
    | (apply W.condKF; exact rfl; (focus (exact dec_false (show ¬ ((k : Nat) : Int) < (a.gates.2.2.length : Int) by omega); done)))
    | (show WL _ _ _ _ _ _ _; first | apply WL.nil | (refine WL.au (k := ?_)))
    | (show Z _ _ _ _ _; first | apply Z.then_normal | apply Z.then_exit | apply Z.block_exit)
    | (show W _ _ _ _ _ _; first | apply W.seq | apply W.region | apply W.block | apply W.exit))
  clear heq hlt hk
  have Ra2 := hCa.syms.row.ext hX
  have Rb2 := hCb.syms.row.ext hX
  have hln2 := Ra2.len
  refine W.loop1 a.syms.2.2.length (fun k => k ≤ a.syms.2.2.length ∧ ∀ i, i < k → a.syms.2.2[i]? = b.syms.2.2[i]?) (fun k => [(2, .pointer (some ⟨gA, 0, none⟩)), (3, .pointer (some ⟨gB, 0, none⟩)), (7, .int .i64 k)]) ⟨by omega, fun i hi => by omega⟩ (fun k h => h.1) ⟨rfl, rfl, rfl, trivial⟩ ?_
  rintro k ⟨hk, heq⟩
  by_cases hlt : k < a.syms.2.2.length
  · obtain ⟨x, hx⟩ := getI a.syms.2.2 hlt
    obtain ⟨y, hy⟩ := getI b.syms.2.2 (show k < b.syms.2.2.length by omega)
    by_cases hxy : x = y
    · subst hxy
      repeat' (first
        | (apply W.condKT; exact rfl; (focus (first | exact dec_true (show ((k : Nat) : Int) < (a.syms.2.2.length : Int) by omega) | exact dec_false (fun h => h rfl); done)))
        | (apply W.condKF; exact rfl; (focus (first | exact dec_true (show ((k : Nat) : Int) < (a.syms.2.2.length : Int) by omega) | exact dec_false (fun h => h rfl); done)))
        | (apply QL.neqS tOk; exact rfl; exact rfl; exact rfl; exact rfl; exact rfl; exact rfl; exact rfl; exact factSy)
        | (show WL _ _ _ _ _ _ _; first | apply WL.nil | (refine WL.au (k := ?_)))
        | (show QL _ _ _ _ _ _ _; first | apply QL.nil | (refine QL.au (k := ?_)) | (apply QL.index tOk; exact rfl; exact rfl; exact rfl; exact rfl; exact rfl; exact rfl; exact rfl; exact rfl; assumption; (exact extA); exact rfl; omega; assumption; intro b off h; have hcc := h; first | (obtain ⟨h1, h2, h3, h4, h5, h6, _⟩ := h) | (obtain ⟨h1, h2, h3, _⟩ := h) | (obtain ⟨h1, h2, _⟩ := h) | (obtain ⟨h1, _⟩ := h)))
        | (show Z _ _ _ _ _; first | apply Z.then_normal | apply Z.block_normal)
        | (show W _ _ _ _ _ _; first | apply W.seq | apply W.region | apply W.block | apply W.skip | (apply W.regionD tMix; kernel_rfl)))
      exact Z.again1 ⟨by omega, eq_snoc heq hx hy rfl⟩ ⟨rfl, rfl, rfl, trivial⟩
    · repeat' (first
        | (apply W.condKT; exact rfl; (focus (first | exact dec_true (show ((k : Nat) : Int) < (a.syms.2.2.length : Int) by omega) | exact dec_true (ne_iff encY_inj hxy); done)))
        | (apply QL.neqS tOk; exact rfl; exact rfl; exact rfl; exact rfl; exact rfl; exact rfl; exact rfl; exact factSy)
        | (show WL _ _ _ _ _ _ _; first | apply WL.nil | (refine WL.au (k := ?_)))
        | (show QL _ _ _ _ _ _ _; first | apply QL.nil | (refine QL.au (k := ?_)) | (apply QL.index tOk; exact rfl; exact rfl; exact rfl; exact rfl; exact rfl; exact rfl; exact rfl; exact rfl; assumption; (exact extA); exact rfl; omega; assumption; intro b off h; have hcc := h; first | (obtain ⟨h1, h2, h3, h4, h5, h6, _⟩ := h) | (obtain ⟨h1, h2, h3, _⟩ := h) | (obtain ⟨h1, h2, _⟩ := h) | (obtain ⟨h1, _⟩ := h)))
        | (show Z _ _ _ _ _; first | apply Z.then_normal | apply Z.then_ret | apply Z.block_ret)
        | (show W _ _ _ _ _ _; first | apply W.seq | apply W.region | apply W.block | apply W.skip | apply W.ret | (apply W.regionD tMix; kernel_rfl)))
      exact Z.body1 Try.results32 rfl fun m => ⟨congrArg Value.bool (dec_false (fun h => ne_at hx hy hxy (congrArg CirT.syms h))).symm, Ext.at (by (exact extA)) m⟩
  have e8 := eq_all heq l2 (by omega)
  repeat' (first
    | (apply W.condKF; exact rfl; (focus (exact dec_false (show ¬ ((k : Nat) : Int) < (a.syms.2.2.length : Int) by omega); done)))
    | (show WL _ _ _ _ _ _ _; first | apply WL.nil | (refine WL.au (k := ?_)))
    | (show Z _ _ _ _ _; first | apply Z.then_normal | apply Z.then_exit | apply Z.block_exit)
    | (show W _ _ _ _ _ _; first | apply W.seq | apply W.region | apply W.ret | apply W.exit))
  clear heq hlt hk
  exact Z.body1 Try.results32 rfl fun m => ⟨congrArg Value.bool (dec_true (show a.t = b.t by unfold Circ.t; rw [e0, e1, e2, e3, e4, e5, e6, e7, e8])).symm, Ext.at (by (exact extA)) m⟩
end Go.Proofs.Ythpnahapiodflaa
namespace Go.Proofs.Ythpnahapiodflaa
open Go Go.Lt Go.RowKit
set_option linter.unusedVariables false
set_option linter.unusedSimpArgs false
set_option maxRecDepth 20000

/-- It holds as long as the blocks from b on stay as they are in w. -/
def Stay (b : Nat) (w : World) (P : World → Prop) : Prop := ∀ w', w.heap.size ≤ w'.heap.size → (∀ k, b ≤ k → k < w.heap.size → w'.heap[k]? = w.heap[k]?) → P w'
theorem Sep.stay {B b : Nat} {w : World} {ps : List Piece} (hS : Lt.Sep B w ps) (hb : b ≤ B) : Stay b w (fun w' => Lt.Sep B w' ps) := by
  intro w' hsz hk
  refine ⟨fun i p h => ⟨p.keep (hS.holds i p h).1 (fun k hp => hk k (Nat.le_trans hb ((hS.holds i p h).2 k hp).1) ((hS.holds i p h).2 k hp).2), fun k hp => ⟨((hS.holds i p h).2 k hp).1, Nat.lt_of_lt_of_le ((hS.holds i p h).2 k hp).2 hsz⟩⟩, hS.apart⟩
theorem Own.stay {α : Type} {s : Nat} {enc : α → List Value} {el B b cap : Nat} {w w' : World} {a : Option Addr} {l : List α} (h : Own s enc el B w a cap l) (hb : b ≤ B) (hk : ∀ k, b ≤ k → k < w.heap.size → w'.heap[k]? = w.heap[k]?) : Own s enc el B w' a cap l :=
  h.keep fun k hp => hk k (Nat.le_trans hb (h.blk_lt k hp).1) (h.blk_lt k hp).2
end Go.Proofs.Ythpnahapiodflaa
namespace Go.Lt
open Go.RowKit
set_option linter.unusedVariables false
section
variable {P : Program} {N : Nat} {e : Env} {w : World} {T : Tab} {ti : TI}
theorem Z.bodyCT {fn : Func} {R : Value → World → Prop} {b ty : Nat} {vs : List Value} {t u : Nat} {x : Value} (hT : OkTab P T) (hr : fn.results = #[.cell t ty, .tmp u]) (hv : get e t = some (.pointer (some ⟨b, 0, none⟩))) (hx : get e u = some x)
    (ht : tget T ty = some ti) (ha : isAggD ti.desc = true) (hs : ti.size = vs.length) (hc : Cells w b 0 vs) (hR : ∀ m, R (.tuple #[.agg vs.toArray, x]) (at' w m)) :
    Z N (bodyPost P fn fun x w' => ∃ v, x = .returned v ∧ R v w') .ret e w := ⟨fun a m hf => by
  have h1 := run_isAgg' (hT.at ht) (at' w m); rw [ha] at h1
  have h3 := run_sizeOf' (hT.at ht) (at' w m); rw [hs] at h3
  have h2 := run_loadCellsFrom (P := P) (acc := #[]) (off := 0) (i := 0) (b := b) (hc.ext ((Ext.refl w).at m))
  refine bodyPost_ret (v := .tuple #[.agg vs.toArray, x]) ?_ hf.defers ⟨_, rfl, hR m⟩
  have h4 := hf.slots _ _ hv
  have h5 := hf.slots _ _ hx
  simp [results, hr, Array.getD_eq_getD_getElem?, h4, h5, asAddr, loadVar, h1, h3, loadCells, h2]⟩
end
end Go.Lt
namespace Go.Proofs.Ythpnahapiodflaa
open Go Go.Lt Go.RowKit
set_option linter.unusedVariables false
set_option linter.unusedSimpArgs false
set_option maxRecDepth 20000

/-- A builder's own pieces: what it is, its inputs, its latches. -/
noncomputable abbrev bdP (B gb gs : Nat) (ai : Option Addr) (ci : Nat) (I : List Int) (al : Option Addr) (cl : Nat) (L : List Int) : List Piece :=
  [pcell gb #[.pointer (some ⟨gs, 0, none⟩), .slice ai I.length ci, .slice al L.length cl] 92, prow 1 encI 3 B ai ci I, prow 1 encI 3 B al cl L]
theorem rep_snoc (k : Nat) : List.replicate k ((-1, 0) : Int × Int) ++ [(-1, 0)] = List.replicate (k + 1) (-1, 0) := (List.replicate_succ' ..).symm
theorem gen_refused (w : World) : Lt.Spec Try.prog 78 [] w (fun v w' => Ext w w' ∧ v = .tuple #[.agg #[.int .i64 0, .slice none 0 0, .slice none 0 0, .slice none 0 0, .slice none 0 0, .slice none 0 0, .slice none 0 0, .slice none 0 0, .string ⟨#[]⟩], .int .i64 1]) := by
  refine Spec.of _ Try.func78 rfl Try.ntmps78 (by kernel_rfl) rfl ?_
  repeat' (first
    | (apply WL.alloc tOk; exact rfl; exact rfl; exact rfl; intro gb w' hb hge hx; (obtain ⟨g2, rfl⟩ : ∃ x, x = gb := ⟨_, rfl⟩; obtain ⟨w2, rfl⟩ : ∃ x, x = w' := ⟨_, rfl⟩; obtain ⟨hx2, rfl⟩ : ∃ x, x = hx := ⟨_, rfl⟩; obtain ⟨hb2, rfl⟩ : ∃ x, x = hb := ⟨_, rfl⟩; obtain ⟨hge2, rfl⟩ : ∃ x, x = hge := ⟨_, rfl⟩))
    | (apply WL.build tOk; exact rfl; exact rfl; exact rfl; exact rfl; exact rfl; exact rfl; exact rfl; kernel_rfl)
    | (apply WL.storeB (w0 := w) tOk; exact rfl; exact rfl; exact rfl; exact rfl; assumption; (exact extA); exact rfl; exact rfl; exact rfl; (exact extA); (first | assumption | omega | (focus (apply Nat.le_trans; rotate_left; assumption; exact Below.size (by (exact extA)); done))); intro w' hb hc hX' hU; have hcc := hc; obtain ⟨h1, h2, _⟩ := hc; (obtain ⟨w3, rfl⟩ : ∃ x, x = w' := ⟨_, rfl⟩; obtain ⟨hb3, rfl⟩ : ∃ x, x = hb := ⟨_, rfl⟩; obtain ⟨hX3, rfl⟩ : ∃ x, x = hX' := ⟨_, rfl⟩))
    | (show WL _ _ _ _ _ _ _; first | apply WL.nil | (refine WL.au (k := ?_)))
    | (show Z _ _ _ _ _; apply Z.then_normal)
    | (show W _ _ _ _ _ _; first | apply W.seq | apply W.region | apply W.ret))
  exact Z.bodyCT tOk Try.results78 rfl rfl rfl rfl rfl (cells_heap hb3) fun m => ⟨hX3.at m, rfl⟩
set_option maxHeartbeats 16000000 in
theorem gen_begin (w : World) (i l : Nat) (hi : i ≤ 1000) (hl : l ≤ 1000) :
    Lt.Spec Try.prog 79 [.int .i64 i, .int .i64 l] w (fun v w' => Ext w w' ∧ ∃ gb gs a cap r ai ci al cl, v = .pointer (some ⟨gb, 0, none⟩) ∧ Lt.Sep w.heap.size w' (stN w.heap.size gs a cap r (List.replicate (i + l) (-1, 0)) ++ bdP w.heap.size gb gs ai ci (evenL 0 i) al cl (evenL i l))) := by
  have hS0 : Lt.Sep w.heap.size w [prow 1 encI 3 w.heap.size none 0 [], prow 1 encI 3 w.heap.size none 0 []] := Sep.newRow (Sep.newRow Sep.none' (Ext.refl _) Own.nil (fun k hk => by cases hk) (Nat.le_refl _)) (Ext.refl _) Own.nil (fun k hk => by cases hk) (Nat.le_refl _)
  have hnew := fun (w9 : World) (h9 : Ext w w9) => aig_NewV w9 w _ h9 (hS0.ext h9)
  refine Spec.of _ Try.func79 rfl Try.ntmps79 (by kernel_rfl) rfl ?_
  repeat' (first
    | (((show WL _ _ _ (⟨_, .call ⟨.value (.func 97), _, _⟩, _, _, _, _⟩ :: _) _ _ _); apply WL.call; exact rfl; exact rfl; exact rfl; exact rfl; exact hnew _ (by (exact extA)); rintro v' w1 ⟨hx1, gs, r, rfl, hS1⟩))
    | (apply WL.build tOk; exact rfl; exact rfl; exact rfl; exact rfl; exact rfl; exact rfl; exact rfl; kernel_rfl)
    | (apply WL.box; exact rfl; exact rfl; exact rfl; intro gb w' hb hge hc hx; have hcc := hc; (first | (obtain ⟨h1, h2, h3, _⟩ := hc) | (obtain ⟨h1, h2, _⟩ := hc)); (obtain ⟨gb9, rfl⟩ : ∃ x, x = gb := ⟨_, rfl⟩; obtain ⟨w2, rfl⟩ : ∃ x, x = w' := ⟨_, rfl⟩; obtain ⟨hx2, rfl⟩ : ∃ x, x = hx := ⟨_, rfl⟩; obtain ⟨hb2, rfl⟩ : ∃ x, x = hb := ⟨_, rfl⟩; obtain ⟨hge2, rfl⟩ : ∃ x, x = hge := ⟨_, rfl⟩))
    | (show WL _ _ _ _ _ _ _; first | apply WL.nil | (refine WL.au (k := ?_)))
    | (show Z _ _ _ _ _; apply Z.then_normal)
    | (show W _ _ _ _ _ _; first | apply W.seq | apply W.region | apply W.block))
  have hX2 : Ext w w2 := hx1.trans hx2
  have hS2 : Lt.Sep w.heap.size w2 (stN w.heap.size gs none 0 r (List.replicate 0 (-1, 0)) ++ bdP w.heap.size gb9 gs none 0 (evenL 0 0) none 0 (evenL i 0)) := Sep.back31 (Sep.newCell hS1 hx2 hb2 hge2 (Below.size hx1))
  refine W.loopW i (fun k w' => k ≤ i ∧ Ext w w' ∧ ∃ a cap ai ci, Lt.Sep w.heap.size w' (stN w.heap.size gs a cap r (List.replicate k (-1, 0)) ++ bdP w.heap.size gb9 gs ai ci (evenL 0 k) none 0 (evenL i 0))) (fun k => [(1, .int .i64 l), (5, .pointer (some ⟨gb9, 0, none⟩)), (9, .int .i64 i), (10, .int .i64 k)]) ⟨Nat.zero_le _, hX2, _, _, _, _, hS2⟩ (fun k w' h => h.1) ⟨rfl, rfl, rfl, rfl, trivial⟩ ?_
  clear hS1 hS2 hcc h1 h2 hb2 hnew hS0
  rintro k w3 ⟨hk, hX3, a, cap, ai, ci, hS⟩
  by_cases hlt : k < i
  · have hlk := evenL_len 0 k
    have hg9 := (hS.lt (i := 3) rfl rfl).1
    have hC3 : CellC gb9 #[.pointer (some ⟨gs, 0, none⟩), .slice ai (evenL 0 k).length ci, .slice none (evenL i 0).length 0] 92 w3 := hS.cell (i := 3) rfl
    obtain ⟨n0, n1, n2, _⟩ := cells_heap hC3
    repeat' (first
      | (show WL _ _ _ _ _ _ _; first | apply WL.nil | (refine WL.au (k := ?_)))
      | (show Z _ _ _ _ _; apply Z.then_normal)
      | (show W _ _ _ _ _ _; first | apply W.seq | apply W.region))
    refine W.condKT rfl (dec_true (by omega)) ?_
    have hrl : (List.replicate k ((-1, 0) : Int × Int)).length = k := List.length_replicate
    have e0 : evenL 0 (k + 1) = evenL 0 k ++ [2 * (((List.replicate k ((-1, 0) : Int × Int)).length : Int) + 1)] := by rw [evenL_succ, hrl, Nat.zero_add]
    repeat' (first
      | (apply FL.nilc; exact rfl; exact rfl; exact rfl)
      | (show W _ _ (.region 4 _ _) _ _ _; apply W.regionG (.fl true 0 (.fl true 1 (.fl true 2 (.fl true 3 (.fl true 5 (.fl true 6 (.fl true 7 (.fl false 4 (.fl false 8 (.br 9 (.br 10 (.br 11 (.fl true 12 (.fl true 13 (.br 14 .done .stop))) .stop) .stop) .stop)))))))))) [8, 9, 10, 11] (CellC gb9 #[.pointer (some ⟨gs, 0, none⟩), .slice ai (evenL 0 k).length ci, .slice none (evenL i 0).length 0] 92) tMix; kernel_rfl)
      | (((show WL _ _ _ (⟨_, .call ⟨.value (.func 99), _, _⟩, _, _, _, _⟩ :: _) _ _ _); apply WL.call; exact rfl; exact rfl; exact rfl; exact rfl; exact aig_InputV gs r _ _ (List.replicate k (-1, 0)) (bdP w.heap.size gb9 gs ai ci (evenL 0 k) none 0 (evenL i 0)) _ w hX3 hS (by rw [hrl]; omega); rintro v' w4 ⟨hX4, a8, c8, rfl, hS4⟩; have hC4 : CellC gb9 #[.pointer (some ⟨gs, 0, none⟩), .slice ai (evenL 0 k).length ci, .slice none (evenL i 0).length 0] 92 w4 := hS4.cell (i := 3) rfl; have hRi := hS4.row (i := 4) rfl))
      | (apply WL.lit tOk; exact rfl; exact rfl; exact rfl; exact rfl; exact rfl; exact rfl; (first | exact rfl | kernel_rfl | (simp [Instr.fill, catCells]; done)); exact rfl; intro gb w' hb hge hc hx; (have hS5 := Sep.ext hS4 hx; have hC5 : CellC gb9 #[.pointer (some ⟨gs, 0, none⟩), .slice ai (evenL 0 k).length ci, .slice none (evenL i 0).length 0] 92 w' := hS5.cell (i := 3) rfl))
      | (apply WL.append1 (z := (2 * (((List.replicate k ((-1, 0) : Int × Int)).length : Int) + 1))) tOk encI_ok; exact rfl; exact rfl; exact rfl; exact rfl; exact rfl; exact rfl; exact rfl; exact rfl; exact rfl; exact rfl; assumption; (exact extA); (first | exact rfl | (focus (simp only [List.length_set]; done)) | (focus (simp; done)) | (focus (simp [*]; done)) | omega | (focus (simp only [List.length_set]; omega))); (first | assumption | (refine Cells.ext ?_ (by assumption); exact extA)); exact rfl; exact rfl; (exact extA); (first | omega | (simp; omega) | (simp at *; omega)); intro a' cap' w' hO hX' hU hF; (have hS6 := Sep.updRow (i := 4) rfl hU hO hF hS5 (Ext.refl _) (Below.size (by (exact extA))); have hC6 : CellC gb9 #[.pointer (some ⟨gs, 0, none⟩), .slice ai (evenL 0 k).length ci, .slice none (evenL i 0).length 0] 92 w' := hS6.cell (i := 3) rfl))
      | ((apply WL.storeF (w0 := w) tOk; exact rfl; exact rfl; exact rfl; exact rfl; exact hC6; exact (by (exact extA)); exact rfl; exact rfl; exact rfl; exact rfl; exact (by (exact extA)); exact hg9; intro w' hb hX' hU))
      | (show WL _ _ _ _ _ _ _; first | apply WL.nil | (refine WL.au (k := ?_)))
      | (show SG _ _ _ _ _ _ _ _ _; first | apply SG.done | (apply SG.fl0; exact rfl) | (apply SG.fl1; exact rfl; (focus ((intro m; first | assumption | (apply Ext.at; (exact extA)) | apply But.of_at; first | exact But.upd (by assumption) | exact But.ext (by (exact extA)) | (refine But.trans ?_ (But.upd (by assumption)); exact But.ext (by (exact extA))) | exact But.at _ _ _); done))) | (apply SG.br1; exact rfl))
      | (show FL _ _ _ _ _ _ _ _; (apply FL.loadC tOk; exact rfl; exact rfl; exact rfl; exact rfl; exact rfl; exact rfl))
      | (show FL _ _ _ _ _ _ _ _; first | apply FL.nilS | (refine FL.au (k := ?_)))
      | (show Z _ _ _ _ _; first | (apply Z.sgL; exact rfl) | (apply Z.sgE; (focus ((intro m; first | assumption | (apply Ext.at; (exact extA)) | apply But.of_at; first | exact But.upd (by assumption) | exact But.ext (by (exact extA)) | (refine But.trans ?_ (But.upd (by assumption)); exact But.ext (by (exact extA))) | exact But.at _ _ _); done))))
      | (show Z _ _ _ _ _; first | apply Z.then_normal | apply Z.block_normal)
      | (show W _ _ _ _ _ _; first | apply W.seq | apply W.region | apply W.block | apply W.skip))
    have hS7 := Sep.updCell (i := 3) rfl hU hb hS6 (Ext.refl _) (Below.size (show Ext w _ from (by (exact extA))))
    exact Z.againW ⟨by omega, hX', _, _, _, _, by rw [e0, ← rep_snoc]; exact hS7⟩ ⟨rfl, rfl, rfl, rfl, trivial⟩
  obtain rfl : k = i := by omega
  repeat' (first
    | (show WL _ _ _ _ _ _ _; first | apply WL.nil | (refine WL.au (k := ?_)))
    | (show Z _ _ _ _ _; apply Z.then_normal)
    | (show W _ _ _ _ _ _; first | apply W.seq | apply W.region))
  refine W.condKF rfl (dec_false (by omega)) ?_
  repeat' (first
    | (show WL _ _ _ _ _ _ _; first | apply WL.nil | (refine WL.au (k := ?_)))
    | (show Z _ _ _ _ _; first | apply Z.then_normal | apply Z.then_exit | apply Z.block_exit)
    | (show W _ _ _ _ _ _; first | apply W.seq | apply W.region | apply W.block | apply W.exit))
  refine W.loopW l (fun j w' => j ≤ l ∧ Ext w w' ∧ ∃ a cap al cl, Lt.Sep w.heap.size w' (stN w.heap.size gs a cap r (List.replicate (k + j) (-1, 0)) ++ bdP w.heap.size gb9 gs ai ci (evenL 0 k) al cl (evenL k j))) (fun j => [(5, .pointer (some ⟨gb9, 0, none⟩)), (27, .int .i64 l), (28, .int .i64 j)]) ⟨Nat.zero_le _, hX3, _, _, _, _, hS⟩ (fun k w' h => h.1) ⟨rfl, rfl, rfl, trivial⟩ ?_
  clear hS hX3 hlt hk
  rintro j w3 ⟨hk, hX3, a, cap, al, cl, hS⟩
  by_cases hlt : j < l
  · have hlk := evenL_len k j
    have hg9 := (hS.lt (i := 3) rfl rfl).1
    have hC3 : CellC gb9 #[.pointer (some ⟨gs, 0, none⟩), .slice ai (evenL 0 k).length ci, .slice al (evenL k j).length cl] 92 w3 := hS.cell (i := 3) rfl
    obtain ⟨n0, n1, n2, _⟩ := cells_heap hC3
    repeat' (first
      | (show WL _ _ _ _ _ _ _; first | apply WL.nil | (refine WL.au (k := ?_)))
      | (show Z _ _ _ _ _; apply Z.then_normal)
      | (show W _ _ _ _ _ _; first | apply W.seq | apply W.region))
    refine W.condKT rfl (dec_true (by omega)) ?_
    have hrl : (List.replicate (k + j) ((-1, 0) : Int × Int)).length = k + j := List.length_replicate
    have e0 : evenL k (j + 1) = evenL k j ++ [2 * (((List.replicate (k + j) ((-1, 0) : Int × Int)).length : Int) + 1)] := by rw [evenL_succ, hrl]
    repeat' (first
      | (apply FL.nilc; exact rfl; exact rfl; exact rfl)
      | (show W _ _ (.region 8 _ _) _ _ _; apply W.regionG (.fl true 0 (.fl true 1 (.fl true 2 (.fl true 3 (.fl true 5 (.fl true 6 (.fl true 7 (.fl false 4 (.fl false 8 (.br 9 (.br 10 (.br 11 (.fl true 12 (.fl true 13 (.br 14 .done .stop))) .stop) .stop) .stop)))))))))) [8, 9, 10, 11] (CellC gb9 #[.pointer (some ⟨gs, 0, none⟩), .slice ai (evenL 0 k).length ci, .slice al (evenL k j).length cl] 92) tMix; kernel_rfl)
      | (((show WL _ _ _ (⟨_, .call ⟨.value (.func 99), _, _⟩, _, _, _, _⟩ :: _) _ _ _); apply WL.call; exact rfl; exact rfl; exact rfl; exact rfl; exact aig_InputV gs r _ _ (List.replicate (k + j) (-1, 0)) (bdP w.heap.size gb9 gs ai ci (evenL 0 k) al cl (evenL k j)) _ w hX3 hS (by rw [hrl]; omega); rintro v' w4 ⟨hX4, a8, c8, rfl, hS4⟩; have hC4 : CellC gb9 #[.pointer (some ⟨gs, 0, none⟩), .slice ai (evenL 0 k).length ci, .slice al (evenL k j).length cl] 92 w4 := hS4.cell (i := 3) rfl; have hRi := hS4.row (i := 5) rfl))
      | (apply WL.lit tOk; exact rfl; exact rfl; exact rfl; exact rfl; exact rfl; exact rfl; (first | exact rfl | kernel_rfl | (simp [Instr.fill, catCells]; done)); exact rfl; intro gb w' hb hge hc hx; (have hS5 := Sep.ext hS4 hx; have hC5 : CellC gb9 #[.pointer (some ⟨gs, 0, none⟩), .slice ai (evenL 0 k).length ci, .slice al (evenL k j).length cl] 92 w' := hS5.cell (i := 3) rfl))
      | (apply WL.append1 (z := (2 * (((List.replicate (k + j) ((-1, 0) : Int × Int)).length : Int) + 1))) tOk encI_ok; exact rfl; exact rfl; exact rfl; exact rfl; exact rfl; exact rfl; exact rfl; exact rfl; exact rfl; exact rfl; assumption; (exact extA); (first | exact rfl | (focus (simp only [List.length_set]; done)) | (focus (simp; done)) | (focus (simp [*]; done)) | omega | (focus (simp only [List.length_set]; omega))); (first | assumption | (refine Cells.ext ?_ (by assumption); exact extA)); exact rfl; exact rfl; (exact extA); (first | omega | (simp; omega) | (simp at *; omega)); intro a' cap' w' hO hX' hU hF; (have hS6 := Sep.updRow (i := 5) rfl hU hO hF hS5 (Ext.refl _) (Below.size (by (exact extA))); have hC6 : CellC gb9 #[.pointer (some ⟨gs, 0, none⟩), .slice ai (evenL 0 k).length ci, .slice al (evenL k j).length cl] 92 w' := hS6.cell (i := 3) rfl))
      | ((apply WL.storeF (w0 := w) tOk; exact rfl; exact rfl; exact rfl; exact rfl; exact hC6; exact (by (exact extA)); exact rfl; exact rfl; exact rfl; exact rfl; exact (by (exact extA)); exact hg9; intro w' hb hX' hU))
      | (show WL _ _ _ _ _ _ _; first | apply WL.nil | (refine WL.au (k := ?_)))
      | (show SG _ _ _ _ _ _ _ _ _; first | apply SG.done | (apply SG.fl0; exact rfl) | (apply SG.fl1; exact rfl; (focus ((intro m; first | assumption | (apply Ext.at; (exact extA)) | apply But.of_at; first | exact But.upd (by assumption) | exact But.ext (by (exact extA)) | (refine But.trans ?_ (But.upd (by assumption)); exact But.ext (by (exact extA))) | exact But.at _ _ _); done))) | (apply SG.br1; exact rfl))
      | (show FL _ _ _ _ _ _ _ _; (apply FL.loadC tOk; exact rfl; exact rfl; exact rfl; exact rfl; exact rfl; exact rfl))
      | (show FL _ _ _ _ _ _ _ _; first | apply FL.nilS | (refine FL.au (k := ?_)))
      | (show Z _ _ _ _ _; first | (apply Z.sgL; exact rfl) | (apply Z.sgE; (focus ((intro m; first | assumption | (apply Ext.at; (exact extA)) | apply But.of_at; first | exact But.upd (by assumption) | exact But.ext (by (exact extA)) | (refine But.trans ?_ (But.upd (by assumption)); exact But.ext (by (exact extA))) | exact But.at _ _ _); done))))
      | (show Z _ _ _ _ _; first | apply Z.then_normal | apply Z.block_normal)
      | (show W _ _ _ _ _ _; first | apply W.seq | apply W.region | apply W.block | apply W.skip))
    have hS7 := Sep.updCell (i := 3) rfl hU hb hS6 (Ext.refl _) (Below.size (show Ext w _ from (by (exact extA))))
    exact Z.againW ⟨by omega, hX', _, _, _, _, by rw [e0, show k + (j + 1) = (k + j) + 1 by omega, ← rep_snoc]; exact hS7⟩ ⟨rfl, rfl, rfl, trivial⟩
  obtain rfl : j = l := by omega
  repeat' (first
    | (show WL _ _ _ _ _ _ _; first | apply WL.nil | (refine WL.au (k := ?_)))
    | (show Z _ _ _ _ _; apply Z.then_normal)
    | (show W _ _ _ _ _ _; first | apply W.seq | apply W.region))
  refine W.condKF rfl (dec_false (by omega)) ?_
  repeat' (first
    | (show WL _ _ _ _ _ _ _; first | apply WL.nil | (refine WL.au (k := ?_)))
    | (show Z _ _ _ _ _; first | apply Z.then_normal | apply Z.then_exit | apply Z.block_exit)
    | (show W _ _ _ _ _ _; first | apply W.seq | apply W.region | apply W.ret | apply W.exit))
  exact Z.body1 Try.results79 rfl fun m => ⟨hX3.at m, gb9, gs, a, cap, r, ai, ci, al, cl, rfl, hS.ext ((Ext.refl _).at m)⟩
end Go.Proofs.Ythpnahapiodflaa
namespace Go.Lt
open Go.RowKit
set_option linter.unusedVariables false
theorem Sep.cons_iff {B : Nat} {w : World} {p : Piece} {ps : List Piece} : Sep B w (p :: ps) ↔ (p.P w ∧ ∀ k, p.b = some k → B ≤ k ∧ k < w.heap.size) ∧ (∀ q ∈ ps, p.b = none ∨ p.b ≠ q.b) ∧ (∀ q ∈ ps, q.b = none ∨ q.b ≠ p.b) ∧ Sep B w ps := by
  constructor
  · intro h
    refine ⟨h.holds 0 p rfl, fun q hq => ?_, fun q hq => ?_, ⟨fun i q hi => h.holds (i + 1) q hi, fun i j q r h1 h2 hne => h.apart (i + 1) (j + 1) q r h1 h2 (by omega)⟩⟩
    · obtain ⟨i, hi⟩ := List.mem_iff_getElem?.1 hq
      exact h.apart 0 (i + 1) p q rfl hi (by omega)
    · obtain ⟨i, hi⟩ := List.mem_iff_getElem?.1 hq
      exact h.apart (i + 1) 0 q p hi rfl (by omega)
  · rintro ⟨h1, h2, h3, h4⟩
    refine ⟨fun i q hi => ?_, fun i j q r hi hj hne => ?_⟩
    · cases i with
      | zero => cases hi; exact h1
      | succ i => exact h4.holds i q hi
    · cases i with
      | zero =>
        cases hi
        cases j with
        | zero => exact absurd rfl hne
        | succ j => exact h2 r (List.mem_of_getElem? (i := j) hj)
      | succ i =>
        cases j with
        | zero => cases hj; exact h3 q (List.mem_of_getElem? (i := i) hi)
        | succ j => exact h4.apart i j q r hi hj (by omega)
theorem Sep.ofPerm {B : Nat} {w : World} {ps qs : List Piece} (hp : ps.Perm qs) : Sep B w ps → Sep B w qs := by
  induction hp with
  | nil => exact id
  | cons x hp ih =>
    intro h
    obtain ⟨h1, h2, h3, h4⟩ := Sep.cons_iff.1 h
    exact Sep.cons_iff.2 ⟨h1, fun q hq => h2 q (hp.mem_iff.2 hq), fun q hq => h3 q (hp.mem_iff.2 hq), ih h4⟩
  | swap x y l =>
    intro h
    obtain ⟨h1, h2, h3, h4⟩ := Sep.cons_iff.1 h
    obtain ⟨k1, k2, k3, k4⟩ := Sep.cons_iff.1 h4
    refine Sep.cons_iff.2 ⟨k1, fun q hq => ?_, fun q hq => ?_, Sep.cons_iff.2 ⟨h1, fun q hq => h2 q (List.mem_cons_of_mem _ hq), fun q hq => h3 q (List.mem_cons_of_mem _ hq), k4⟩⟩
    · rcases List.mem_cons.1 hq with rfl | hq
      · exact h3 x (List.mem_cons_self ..)
      · exact k2 q hq
    · rcases List.mem_cons.1 hq with rfl | hq
      · exact h2 x (List.mem_cons_self ..)
      · exact k3 q hq
  | trans _ _ ih1 ih2 => exact fun h => ih2 (ih1 h)
end Go.Lt
namespace Go.Proofs.Ythpnahapiodflaa
open Go Go.Lt Go.RowKit
set_option linter.unusedVariables false
set_option linter.unusedSimpArgs false
set_option maxRecDepth 20000

/-- The gates among a net's first nodes. -/
def gTo (N : List (Int × Int)) : Nat → List T3
  | 0 => []
  | k + 1 => match N[k]? with | some x => if 0 ≤ x.1 then gTo N k ++ [gateG k x] else gTo N k | none => gTo N k
theorem gTo_yes {N : List (Int × Int)} {k : Nat} {x : Int × Int} (h : N[k]? = some x) (h0 : 0 ≤ x.1) : gTo N (k + 1) = gTo N k ++ [gateG k x] := by rw [gTo, h]; exact if_pos h0
theorem gTo_no {N : List (Int × Int)} {k : Nat} {x : Int × Int} (h : N[k]? = some x) (h0 : ¬ 0 ≤ x.1) : gTo N (k + 1) = gTo N k := by rw [gTo, h]; exact if_neg h0
theorem gTo_in {m : Nat} {N : List (Int × Int)} (h : OnlyG m N) : ∀ k, k ≤ m → gTo N k = []
  | 0, _ => rfl
  | k + 1, hk => by
    obtain ⟨x, hx⟩ := getI N (show k < N.length by have := h.le; omega)
    rw [gTo_no hx (by rw [h.inp k x hx (by omega)]; decide)]
    exact gTo_in h k (by omega)
theorem gTo_all {m : Nat} {N : List (Int × Int)} (h : OnlyG m N) : ∀ j, m + j ≤ N.length → gTo N (m + j) = gatesG N m j
  | 0, _ => by rw [Nat.add_zero, gTo_in h m (Nat.le_refl _)]; rfl
  | j + 1, hj => by
    obtain ⟨x, hx⟩ := getI N (show m + j < N.length by omega)
    rw [← Nat.add_assoc, gTo_yes hx (h.gate _ x hx (by omega)), gTo_all h j (by omega)]
    unfold gatesG
    rw [List.range_succ, List.map_append, List.map_singleton, getD_of hx]
theorem gTo_len (N : List (Int × Int)) : ∀ k, (gTo N k).length ≤ k
  | 0 => Nat.le_refl _
  | k + 1 => by
    have := gTo_len N k
    rw [gTo]
    split
    · split
      · rw [List.length_append, List.length_singleton]; omega
      · omega
    · omega
end Go.Proofs.Ythpnahapiodflaa
namespace Go.Proofs.Ythpnahapiodflaa
open Go Go.Lt Go.RowKit
set_option linter.unusedVariables false
set_option linter.unusedSimpArgs false
set_option maxRecDepth 20000

/-- Latches, so many of them. -/
def latZ (L next reset : List Int) (k : Nat) : List T3 := (List.range k).map fun i => (L.getD i 0, next.getD i 0, reset.getD i 0)
theorem latZ_succ {L next reset : List Int} {k : Nat} {x y z : Int} (hx : L[k]? = some x) (hy : next[k]? = some y) (hz : reset[k]? = some z) : latZ L next reset (k + 1) = latZ L next reset k ++ [(x, y, z)] := by
  unfold latZ; rw [List.range_succ, List.map_append, List.map_singleton, getD_of hx, getD_of hy, getD_of hz]
theorem latZ_len (L next reset : List Int) (k : Nat) : (latZ L next reset k).length = k := by simp [latZ]
theorem latZ_lats (nin : Nat) (next reset : List Int) : latZ (evenL nin next.length) next reset next.length = latsG nin next reset := by
  unfold latZ latsG
  apply List.map_congr_left
  intro i hi
  have hi := List.mem_range.1 hi
  rw [getD_of (evenL_get nin next.length hi)]
/-- The circuit. -/
def dnT (N : List (Int × Int)) (I L next reset : List Int) (bad : Int) : CirT := ⟨(N.length : Nat), I, latZ L next reset L.length, [], [bad], [], gTo N N.length, [], ⟨#[]⟩⟩
set_option maxHeartbeats 32000000 in
theorem gen_done (w w0 : World) (gb gs r cap ci cl cn cr : Nat) (a ai al an ar : Option Addr) (N : List (Int × Int)) (I L next reset : List Int) (bad : Int) (rest : List Piece)
    (hS0 : Lt.Sep w0.heap.size w (stN w0.heap.size gs a cap r N ++ (bdP w0.heap.size gb gs ai ci I al cl L ++ rest))) (hN : N.length ≤ 1000000) (hgo : ∀ x ∈ N, x.1 < 0 ∨ (0 ≤ x.2 ∧ x.1 ≤ 4000000 ∧ x.2 ≤ 4000000))
    (Rn : Row 1 encI w an next) (Rr : Row 1 encI w ar reset) (hln : next.length = L.length) (hlr : reset.length = L.length) (hL : L.length ≤ 1000) :
    Lt.Spec Try.prog 82 [.pointer (some ⟨gb, 0, none⟩), .slice an next.length cn, .slice ar reset.length cr, .int .i64 bad] w (fun v w' => Ext w w' ∧ ∃ d : Circ, v = .tuple #[d.val, .int .i64 0] ∧ d.t = dnT N I L next reset bad ∧ CAt w' d ∧ Stay w.heap.size w' (fun w9 => Row 1 encI w9 ai I → CAt w9 d)) := by
  have hcb : Cells w gb 0 [.pointer (some ⟨gs, 0, none⟩), .slice ai I.length ci, .slice al L.length cl] := cells_heap (hS0.cell (i := 3) rfl)
  have hOi := hS0.row (i := 4) rfl
  have hOl := hS0.row (i := 5) rfl
  have RL := hOl.row encI_ok
  have hcs := hS0.cell (i := 0) rfl
  obtain ⟨b0, b1, b2, _⟩ := hcb
  refine Spec.of _ Try.func82 rfl Try.ntmps82 (by kernel_rfl) rfl ?_
  repeat' (first
    | (apply WL.alloc tOk; exact rfl; exact rfl; exact rfl; intro gb w' hb hge hx; (obtain ⟨g8, rfl⟩ : ∃ x, x = gb := ⟨_, rfl⟩; obtain ⟨w2, rfl⟩ : ∃ x, x = w' := ⟨_, rfl⟩; obtain ⟨hx2, rfl⟩ : ∃ x, x = hx := ⟨_, rfl⟩; obtain ⟨hb2, rfl⟩ : ∃ x, x = hb := ⟨_, rfl⟩; obtain ⟨hge2, rfl⟩ : ∃ x, x = hge := ⟨_, rfl⟩))
    | (show WL _ _ _ _ _ _ _; first | apply WL.nil | (refine WL.au (k := ?_)))
    | (show Z _ _ _ _ _; apply Z.then_normal)
    | (show W _ _ _ _ _ _; first | apply W.seq | apply W.region))
  obtain ⟨zC, hzC⟩ : ∃ z : Array Value, z = Value.cells (.agg #[.int .i64 0, .slice none 0 0, .slice none 0 0, .slice none 0 0, .slice none 0 0, .slice none 0 0, .slice none 0 0, .slice none 0 0, .string ⟨#[]⟩]) := ⟨_, rfl⟩
  obtain ⟨PG, hPG⟩ : ∃ P, P = pcell g8 zC 28 := ⟨_, rfl⟩
  have hS : Lt.Sep w.heap.size w2 [PG] := by
    have hb2' : w2.heap[g8]? = some (.cells zC 28 (0, 0)) := by rw [hzC]; exact hb2
    rw [hPG]; exact Sep.newCell Sep.none' hx2 hb2' hge2 (Nat.le_refl _)
  have b0' := hx2.cell b0
  have b1' := hx2.cell b1
  have hcs2 := Ext.heap hx2 hcs
  have hX0 : Ext w w2 := hx2
  refine W.cutT (σ := (Nat × Nat) × World) (fun s => Ext w s.2 ∧ Lt.Sep w.heap.size s.2 [pcell s.1.1 #[.int .i64 (N.length : Nat), .slice ai I.length ci, .slice none 0 0, .slice none 0 0, .slice (some ⟨s.1.2, 0, none⟩) 1 1, .slice none 0 0, .slice none 0 0, .slice none 0 0, .string ⟨#[]⟩] 28, prow 1 encI 3 w.heap.size (some ⟨s.1.2, 0, none⟩) 1 [bad], PG]) (fun s => [(0, .pointer (some ⟨gb, 0, none⟩)), (1, .slice an next.length cn), (2, .slice ar reset.length cr), (8, .pointer (some ⟨g8, 0, none⟩)), (10, .pointer (some ⟨s.1.1, 0, none⟩))]) (fun s => s.2) ?_ ?_
  · repeat' (first
      | (apply FL.nilc; exact rfl; exact rfl; exact rfl)
      | (show W _ _ (.region 1 _ _) _ _ _; apply W.regionGX (.fl true 0 (.fl true 1 (.fl true 2 (.fl true 5 (.fl true 6 (.fl true 7 (.fl true 9 (.fl false 3 (.fl false 8 (.fl false 4 (.br 10 (.fl true 11 (.br 12 (.br 13 .done .stop) .stop)) (.br 12 (.br 10 (.fl true 11 (.br 13 .done .stop)) .stop) .stop)))))))))))) [4, 8, 10, 11, 12] tMix; kernel_rfl)
      | (apply SX.flP; exact rfl; (exact extA); exact rfl; exact rfl; exact rfl; exact rfl; (focus (intro w9 hw9; exact (aig_Len gs cap a N.length (.map (some r)) _ (Ext.heap (Ext.trans hx2 (Ext.trans (by (exact extA)) hw9)) hcs)).mono (R' := fun v w' => v = .int .i64 (N.length : Nat) ∧ Ext _ w') (fun v w' ⟨h1, m, h2⟩ => ⟨h1, by rw [h2]; exact (Ext.refl _).at m⟩))))
      | (apply WL.lit tOk; exact rfl; exact rfl; exact rfl; exact rfl; exact rfl; exact rfl; (first | exact rfl | kernel_rfl | (simp [Instr.fill, catCells]; done)); exact rfl; intro gb w' hb hge hc hx; have hO := Own.of_block ([bad]) encI_ok hb hge rfl; (obtain ⟨g25, rfl⟩ : ∃ x, x = gb := ⟨_, rfl⟩; replace hS := Sep.newRow' (Sep.ext hS (by (exact extA))) hx hO (Below.size (show Ext w _ from (by (exact extA))))))
      | (apply WL.alloc tOk; exact rfl; exact rfl; exact rfl; intro gb w' hb hge hx; (obtain ⟨g10, rfl⟩ : ∃ x, x = gb := ⟨_, rfl⟩; replace hS := Sep.newCell (Sep.ext hS (by (exact extA))) hx hb hge (Below.size (show Ext w _ from (by (exact extA)))); first | (have hC0 := hS.cell (i := 0) rfl)))
      | ((show FL _ _ _ _ (⟨_, .build 28 _, _, _, _, _⟩ :: _) _ _ _; apply FL.build (cs := [.int .i64 (N.length : Nat), .slice ai I.length ci, .slice none 0 0, .slice none 0 0, .slice (some ⟨g25, 0, none⟩) 1 1, .slice none 0 0, .slice none 0 0, .slice none 0 0, .string ⟨#[]⟩]) tOk; exact rfl; exact rfl; exact rfl; exact rfl; exact rfl; exact rfl; (first | kernel_rfl | exact rfl); kernel_rfl))
      | (apply WL.storeB (w0 := w) tOk; exact rfl; exact rfl; exact rfl; exact rfl; assumption; (exact extA); exact rfl; exact rfl; exact rfl; (exact extA); (first | assumption | omega | (focus (apply Nat.le_trans; rotate_left; assumption; exact Below.size (by (exact extA)); done))); intro w' hb hc hX' hU; have hcc := hc; obtain ⟨h1, h2, _⟩ := hc; (first | replace hS := Sep.updCell (i := 0) rfl hU hb hS (by (exact extA)) (by (first | exact Nat.le_refl _ | exact Below.size (by (exact extA)))) | replace hS := Sep.updCell (i := 1) rfl hU hb hS (by (exact extA)) (by (first | exact Nat.le_refl _ | exact Below.size (by (exact extA)))) | replace hS := Sep.updCell (i := 2) rfl hU hb hS (by (exact extA)) (by (first | exact Nat.le_refl _ | exact Below.size (by (exact extA)))) | replace hS := Sep.updCell (i := 3) rfl hU hb hS (by (exact extA)) (by (first | exact Nat.le_refl _ | exact Below.size (by (exact extA))))); (try simp only [List.set_cons_zero, List.set_cons_succ] at hS); (try have hR0 := hS.row (i := 0) rfl); (try have hR1 := hS.row (i := 1) rfl); (try have hR2 := hS.row (i := 2) rfl); (try have hR3 := hS.row (i := 3) rfl); (try have hR4 := hS.row (i := 4) rfl); (try have hC0 := hS.cell (i := 0) rfl); (try have hD0 := (cells_heap hC0).1); (try have hE0 := (cells_heap hC0).2.1); (try have hF0 := (cells_heap hC0).2.2.1); (try have hG0 := (cells_heap hC0).2.2.2.1); (try have hC1 := hS.cell (i := 1) rfl); (try have hD1 := (cells_heap hC1).1); (try have hE1 := (cells_heap hC1).2.1); (try have hF1 := (cells_heap hC1).2.2.1); (try have hG1 := (cells_heap hC1).2.2.2.1); (try have hC2 := hS.cell (i := 2) rfl); (try have hD2 := (cells_heap hC2).1); (try have hE2 := (cells_heap hC2).2.1); (try have hF2 := (cells_heap hC2).2.2.1); (try have hG2 := (cells_heap hC2).2.2.2.1); (try have hC3 := hS.cell (i := 3) rfl); (try have hD3 := (cells_heap hC3).1); (try have hE3 := (cells_heap hC3).2.1); (try have hF3 := (cells_heap hC3).2.2.1); (try have hG3 := (cells_heap hC3).2.2.2.1); (try have hC4 := hS.cell (i := 4) rfl); (try have hD4 := (cells_heap hC4).1); (try have hE4 := (cells_heap hC4).2.1); (try have hF4 := (cells_heap hC4).2.2.1); (try have hG4 := (cells_heap hC4).2.2.2.1); (try have hM0 := hS.map (i := 0) rfl); (try have hM1 := hS.map (i := 1) rfl); (try have hM2 := hS.map (i := 2) rfl); (try have hM3 := hS.map (i := 3) rfl); (try have hM4 := hS.map (i := 4) rfl))
      | (show SX _ _ _ _ _ _ _ _ _; first | (apply SX.done; intro w' hx) | (apply SX.fl0; exact rfl) | (apply SX.fl1; exact rfl; (exact extA)) | (apply SX.br1; exact rfl; intro w' hx) | (apply SX.br; exact rfl; (intro w' hx)))
      | (show FL _ _ _ _ _ _ _ _; first | apply FL.nilX | (apply FL.loadE tOk; exact rfl; exact rfl; exact rfl; exact rfl; exact rfl; assumption))
      | (show FL _ _ _ _ _ _ _ _; (refine FL.au (k := ?_)))
      | (show Z _ _ _ _ _; first | (apply Z.sxL; exact rfl) | (apply Z.sxE; (exact extA)))
      | (show WL _ _ _ _ _ _ _; apply WL.nil))
    all_goals
      first
        | exact Z.cut ((g10, g25), w') ⟨(by (exact extA)), Sep.ext hS (by (exact extA))⟩ ⟨rfl, rfl, rfl, rfl, rfl, trivial⟩ rfl
        | exact Z.cut ((g10, g25), w') ⟨(by (exact extA)), Sep.ext (Sep.swap01 hS) (by (exact extA))⟩ ⟨rfl, rfl, rfl, rfl, rfl, trivial⟩ rfl
  rintro ⟨⟨g10, g25⟩, w5⟩ ⟨hX5, hS⟩
  dsimp only at hX5 hS ⊢
  have hS5 : Lt.Sep w.heap.size w5 [prow 3 enc3 69 w.heap.size none 0 [], pcell g10 #[.int .i64 (N.length : Nat), .slice ai I.length ci, .slice none 0 0, .slice none 0 0, .slice (some ⟨g25, 0, none⟩) 1 1, .slice none 0 0, .slice none 0 0, .slice none 0 0, .string ⟨#[]⟩] 28, prow 1 encI 3 w.heap.size (some ⟨g25, 0, none⟩) 1 [bad], PG] := Sep.newRow hS (Ext.refl _) Own.nil (fun k hk => by cases hk) (Below.size hX5)
  have hg10 : w.heap.size ≤ g10 := (hS.lt (i := 0) rfl rfl).1
  obtain ⟨c0, c1, c2, _⟩ := Cells.ext hX5 (cells_heap (hS0.cell (i := 3) rfl))
  repeat' (first
    | (apply WL.nilc; exact rfl; exact rfl; exact rfl)
    | (show WL _ _ _ _ _ _ _; first | apply WL.nil | (refine WL.au (k := ?_)))
    | (show Z _ _ _ _ _; apply Z.then_normal)
    | (show W _ _ _ _ _ _; first | apply W.seq | apply W.region | apply W.block))
  refine W.loopW L.length (fun k w' => k ≤ L.length ∧ Ext w w' ∧ ∃ ag cg, Lt.Sep w.heap.size w' [prow 3 enc3 69 w.heap.size ag cg (latZ L next reset k), pcell g10 #[.int .i64 (N.length : Nat), .slice ai I.length ci, .slice ag (latZ L next reset k).length cg, .slice none 0 0, .slice (some ⟨g25, 0, none⟩) 1 1, .slice none 0 0, .slice none 0 0, .slice none 0 0, .string ⟨#[]⟩] 28, prow 1 encI 3 w.heap.size (some ⟨g25, 0, none⟩) 1 [bad], PG]) (fun k => [(0, .pointer (some ⟨gb, 0, none⟩)), (1, .slice an next.length cn), (2, .slice ar reset.length cr), (8, .pointer (some ⟨g8, 0, none⟩)), (10, .pointer (some ⟨g10, 0, none⟩)), (30, .slice al L.length cl), (31, .int .i64 L.length), (32, .int .i64 k)]) ⟨Nat.zero_le _, hX5, none, 0, hS5⟩ (fun k w' h => h.1) ⟨rfl, rfl, rfl, rfl, rfl, rfl, rfl, rfl, trivial⟩ ?_
  clear hS5 hS c0 c1 c2 hX5
  rintro k w6 ⟨hk, hX6, ag, cg, hS⟩
  have RL6 := RL.ext hX6
  by_cases hlt : k < L.length
  · obtain ⟨x, hx⟩ := getI L hlt
    obtain ⟨y, hy⟩ := getI next (show k < next.length by omega)
    obtain ⟨z, hz⟩ := getI reset (show k < reset.length by omega)
    have hx' : L[((k : Nat) : Int).toNat]? = some x := by rw [Int.toNat_natCast]; exact hx
    have hy' : next[((k : Nat) : Int).toNat]? = some y := by rw [Int.toNat_natCast]; exact hy
    have hz' : reset[((k : Nat) : Int).toNat]? = some z := by rw [Int.toNat_natCast]; exact hz
    have e1 := latZ_succ hx hy hz
    have hll := latZ_len L next reset k
    repeat' (first
      | (show WL _ _ _ _ _ _ _; first | apply WL.nil | (refine WL.au (k := ?_)))
      | (show Z _ _ _ _ _; apply Z.then_normal)
      | (show W _ _ _ _ _ _; first | apply W.seq | apply W.region))
    refine W.condKT rfl (dec_true (by omega)) ?_
    repeat' (first
      | (show WL _ _ _ _ _ _ _; first | apply WL.nil | (refine WL.au (k := ?_)) | (apply WL.index tOk; exact rfl; exact rfl; exact rfl; exact rfl; exact rfl; exact rfl; exact rfl; exact rfl; assumption; (exact extA); exact rfl; omega; assumption; intro b off h; have hcc := h; first | (obtain ⟨h1, h2, h3, h4, h5, h6, _⟩ := h) | (obtain ⟨h1, h2, h3, _⟩ := h) | (obtain ⟨h1, h2, _⟩ := h) | (obtain ⟨h1, _⟩ := h)))
      | (show Z _ _ _ _ _; apply Z.then_normal)
      | (show W _ _ _ _ _ _; first | apply W.seq | apply W.region | apply W.block | apply W.skip))
    have hRg := hS.row (i := 0) rfl
    have hc7 := hS.cell (i := 1) rfl
    obtain ⟨n0, n1, n2, n3, n4, n5, n6, _⟩ := cells_heap (hS.cell (i := 1) rfl)
    repeat' (first
      | (show W _ _ (.region 5 _ _) _ _ _; apply W.regionG (.fl true 0 (.fl true 2 (.fl true 3 (.fl true 4 (.fl true 5 (.fl true 7 (.fl true 8 (.fl true 9 (.fl false 6 (.fl false 10 (.fl true 11 (.br 1 (.br 12 (.br 13 (.fl true 14 (.br 15 .done .stop)) .stop) .stop) (.br 12 (.br 1 (.br 13 (.fl true 14 (.br 15 .done .stop)) .stop) .stop) .stop))))))))))))) [1, 10, 12, 13] (Ext w) tMix; kernel_rfl)
      | ((show FL _ _ _ _ (⟨_, .build 69 _, _, _, _, _⟩ :: _) _ _ _; apply FL.build (cs := [.int .i64 x, .int .i64 y, .int .i64 z]) tOk; exact rfl; exact rfl; exact rfl; exact rfl; exact rfl; exact rfl; (first | kernel_rfl | exact rfl); kernel_rfl))
      | (apply WL.lit tOk; exact rfl; exact rfl; exact rfl; exact rfl; exact rfl; exact rfl; (first | exact rfl | kernel_rfl | (simp [Instr.fill, catCells]; done)); exact rfl; intro gb w' hb hge hc hx)
      | (apply WL.append1 (z := (((x, y, z) : T3))) tOk enc3_ok; exact rfl; exact rfl; exact rfl; exact rfl; exact rfl; exact rfl; exact rfl; exact rfl; exact rfl; exact rfl; assumption; (exact extA); (first | exact rfl | (focus (simp only [List.length_set]; done)) | (focus (simp; done)) | (focus (simp [*]; done)) | omega | (focus (simp only [List.length_set]; omega))); (first | assumption | (refine Cells.ext ?_ (by assumption); exact extA)); exact rfl; exact rfl; (exact extA); (first | omega | (simp; omega) | (simp at *; omega)); intro a' cap' w' hO hX' hU hF; (first | replace hS := Sep.updRow (i := 0) rfl hU hO hF hS (by (exact extA)) (by (first | exact Nat.le_refl _ | exact Below.size (by (exact extA)))) | replace hS := Sep.updRow (i := 1) rfl hU hO hF hS (by (exact extA)) (by (first | exact Nat.le_refl _ | exact Below.size (by (exact extA)))) | replace hS := Sep.updRow (i := 2) rfl hU hO hF hS (by (exact extA)) (by (first | exact Nat.le_refl _ | exact Below.size (by (exact extA)))) | replace hS := Sep.updRow (i := 3) rfl hU hO hF hS (by (exact extA)) (by (first | exact Nat.le_refl _ | exact Below.size (by (exact extA)))) | replace hS := Sep.updRow (i := 4) rfl hU hO hF hS (by (exact extA)) (by (first | exact Nat.le_refl _ | exact Below.size (by (exact extA)))) | replace hS := Sep.updRow (i := 5) rfl hU hO hF hS (by (exact extA)) (by (first | exact Nat.le_refl _ | exact Below.size (by (exact extA))))); (try simp only [List.set_cons_zero, List.set_cons_succ] at hS); (try have hR0 := hS.row (i := 0) rfl); (try have hR1 := hS.row (i := 1) rfl); (try have hR2 := hS.row (i := 2) rfl); (try have hR3 := hS.row (i := 3) rfl); (try have hR4 := hS.row (i := 4) rfl); (try have hC0 := hS.cell (i := 0) rfl); (try have hD0 := (cells_heap hC0).1); (try have hE0 := (cells_heap hC0).2.1); (try have hF0 := (cells_heap hC0).2.2.1); (try have hG0 := (cells_heap hC0).2.2.2.1); (try have hC1 := hS.cell (i := 1) rfl); (try have hD1 := (cells_heap hC1).1); (try have hE1 := (cells_heap hC1).2.1); (try have hF1 := (cells_heap hC1).2.2.1); (try have hG1 := (cells_heap hC1).2.2.2.1); (try have hC2 := hS.cell (i := 2) rfl); (try have hD2 := (cells_heap hC2).1); (try have hE2 := (cells_heap hC2).2.1); (try have hF2 := (cells_heap hC2).2.2.1); (try have hG2 := (cells_heap hC2).2.2.2.1); (try have hC3 := hS.cell (i := 3) rfl); (try have hD3 := (cells_heap hC3).1); (try have hE3 := (cells_heap hC3).2.1); (try have hF3 := (cells_heap hC3).2.2.1); (try have hG3 := (cells_heap hC3).2.2.2.1); (try have hC4 := hS.cell (i := 4) rfl); (try have hD4 := (cells_heap hC4).1); (try have hE4 := (cells_heap hC4).2.1); (try have hF4 := (cells_heap hC4).2.2.1); (try have hG4 := (cells_heap hC4).2.2.2.1); (try have hM0 := hS.map (i := 0) rfl); (try have hM1 := hS.map (i := 1) rfl); (try have hM2 := hS.map (i := 2) rfl); (try have hM3 := hS.map (i := 3) rfl); (try have hM4 := hS.map (i := 4) rfl))
      | (apply WL.storeF (w0 := w) tOk; exact rfl; exact rfl; exact rfl; exact rfl; assumption; (exact extA); exact rfl; exact rfl; exact rfl; exact rfl; (exact extA); (first | assumption | omega | (focus (apply Nat.le_trans; rotate_left; assumption; exact Below.size (by (exact extA))))); intro w' hb hX' hU; replace hS := Sep.updCell (i := 1) rfl hU hb hS (by (exact extA)) (by (first | exact Nat.le_refl _ | exact Below.size (by (exact extA)))); (try simp only [List.set_cons_zero, List.set_cons_succ] at hS); (try have hR0 := hS.row (i := 0) rfl); (try have hR1 := hS.row (i := 1) rfl); (try have hR2 := hS.row (i := 2) rfl); (try have hR3 := hS.row (i := 3) rfl); (try have hR4 := hS.row (i := 4) rfl); (try have hC0 := hS.cell (i := 0) rfl); (try have hD0 := (cells_heap hC0).1); (try have hE0 := (cells_heap hC0).2.1); (try have hF0 := (cells_heap hC0).2.2.1); (try have hG0 := (cells_heap hC0).2.2.2.1); (try have hC1 := hS.cell (i := 1) rfl); (try have hD1 := (cells_heap hC1).1); (try have hE1 := (cells_heap hC1).2.1); (try have hF1 := (cells_heap hC1).2.2.1); (try have hG1 := (cells_heap hC1).2.2.2.1); (try have hC2 := hS.cell (i := 2) rfl); (try have hD2 := (cells_heap hC2).1); (try have hE2 := (cells_heap hC2).2.1); (try have hF2 := (cells_heap hC2).2.2.1); (try have hG2 := (cells_heap hC2).2.2.2.1); (try have hC3 := hS.cell (i := 3) rfl); (try have hD3 := (cells_heap hC3).1); (try have hE3 := (cells_heap hC3).2.1); (try have hF3 := (cells_heap hC3).2.2.1); (try have hG3 := (cells_heap hC3).2.2.2.1); (try have hC4 := hS.cell (i := 4) rfl); (try have hD4 := (cells_heap hC4).1); (try have hE4 := (cells_heap hC4).2.1); (try have hF4 := (cells_heap hC4).2.2.1); (try have hG4 := (cells_heap hC4).2.2.2.1); (try have hM0 := hS.map (i := 0) rfl); (try have hM1 := hS.map (i := 1) rfl); (try have hM2 := hS.map (i := 2) rfl); (try have hM3 := hS.map (i := 3) rfl); (try have hM4 := hS.map (i := 4) rfl))
      | (show WL _ _ _ _ _ _ _; first | apply WL.nil | (refine WL.au (k := ?_)))
      | (show SG _ _ _ _ _ _ _ _ _; first | apply SG.done | (apply SG.fl0; exact rfl) | (apply SG.fl1; exact rfl; (focus ((intro m; first | assumption | (apply Ext.at; (exact extA)) | apply But.of_at; first | exact But.upd (by assumption) | exact But.ext (by (exact extA)) | (refine But.trans ?_ (But.upd (by assumption)); exact But.ext (by (exact extA))) | exact But.at _ _ _); done))) | (apply SG.br1; exact rfl) | (apply SG.br; exact rfl))
      | (show FL _ _ _ _ _ _ _ _; first | (apply FL.loadE tOk; exact rfl; exact rfl; exact rfl; exact rfl; exact rfl; assumption) | (apply FL.indexE tOk; exact rfl; exact rfl; exact rfl; exact rfl; exact rfl; exact rfl; exact rfl; exact rfl; assumption; exact rfl; omega; assumption; intro b off h; have hcc := h; first | (obtain ⟨h1, h2, h3, h4, h5, h6, _⟩ := h) | (obtain ⟨h1, h2, h3, _⟩ := h) | (obtain ⟨h1, h2, _⟩ := h) | (obtain ⟨h1, _⟩ := h)))
      | (show FL _ _ _ _ _ _ _ _; first | apply FL.nilS | (refine FL.au (k := ?_)))
      | (show Z _ _ _ _ _; first | (apply Z.sgL; exact rfl) | (apply Z.sgE; (focus ((intro m; first | assumption | (apply Ext.at; (exact extA)) | apply But.of_at; first | exact But.upd (by assumption) | exact But.ext (by (exact extA)) | (refine But.trans ?_ (But.upd (by assumption)); exact But.ext (by (exact extA))) | exact But.at _ _ _); done))))
      | (show Z _ _ _ _ _; first | apply Z.then_normal | apply Z.block_normal)
      | (show W _ _ _ _ _ _; apply W.region))
    all_goals exact Z.againW ⟨by omega, (by (exact extA)), a', cap', by rw [e1]; exact hS⟩ ⟨rfl, rfl, rfl, rfl, rfl, rfl, rfl, rfl, trivial⟩
  obtain rfl : k = L.length := by omega
  repeat' (first
    | (show WL _ _ _ _ _ _ _; first | apply WL.nil | (refine WL.au (k := ?_)))
    | (show Z _ _ _ _ _; apply Z.then_normal)
    | (show W _ _ _ _ _ _; first | apply W.seq | apply W.region))
  refine W.condKF rfl (dec_false (by omega)) ?_
  have hNT := Sep.ext hS0 hX6
  obtain ⟨c0, c1, c2, _⟩ := cells_heap (hNT.cell (i := 3) rfl)
  have hnet := aig_NetV gs r cap a N (bdP w0.heap.size gb gs ai ci I al cl L ++ rest) w6 w0 hNT (by omega)
  repeat' (first
    | (apply WL.nilc; exact rfl; exact rfl; exact rfl)
    | (((show WL _ _ _ (⟨_, .call ⟨.value (.func 103), _, _⟩, _, _, _, _⟩ :: _) _ _ _); apply WL.call; exact rfl; exact rfl; exact rfl; exact rfl; exact hnet; rintro v' w7 ⟨hx7, an7, cn7, rfl, hO7⟩))
    | (show WL _ _ _ _ _ _ _; first | apply WL.nil | (refine WL.au (k := ?_)))
    | (show Z _ _ _ _ _; first | apply Z.then_normal | apply Z.then_exit | apply Z.block_exit)
    | (show W _ _ _ _ _ _; first | apply W.seq | apply W.region | apply W.block | apply W.exit))
  have hX7 : Ext w w7 := hX6.trans hx7
  have hS7 : Lt.Sep w.heap.size w7 [prow 3 enc3 106 w.heap.size none 0 (gTo N 0), prow 2 encN 104 w.heap.size an7 cn7 N, prow 3 enc3 69 w.heap.size ag cg (latZ L next reset L.length), pcell g10 #[.int .i64 (N.length : Nat), .slice ai I.length ci, .slice ag (latZ L next reset L.length).length cg, .slice none 0 0, .slice (some ⟨g25, 0, none⟩) 1 1, .slice none 0 0, .slice none (gTo N 0).length 0, .slice none 0 0, .string ⟨#[]⟩] 28, prow 1 encI 3 w.heap.size (some ⟨g25, 0, none⟩) 1 [bad], PG] := Sep.newRow (Sep.newRow' hS hx7 hO7 (Below.size hX6)) (Ext.refl _) Own.nil (fun k hk => by cases hk) (Below.size hX7)
  refine W.loopW N.length (fun k w' => k ≤ N.length ∧ Ext w w' ∧ ∃ ah ch, Lt.Sep w.heap.size w' [prow 3 enc3 106 w.heap.size ah ch (gTo N k), prow 2 encN 104 w.heap.size an7 cn7 N, prow 3 enc3 69 w.heap.size ag cg (latZ L next reset L.length), pcell g10 #[.int .i64 (N.length : Nat), .slice ai I.length ci, .slice ag (latZ L next reset L.length).length cg, .slice none 0 0, .slice (some ⟨g25, 0, none⟩) 1 1, .slice none 0 0, .slice ah (gTo N k).length ch, .slice none 0 0, .string ⟨#[]⟩] 28, prow 1 encI 3 w.heap.size (some ⟨g25, 0, none⟩) 1 [bad], PG]) (fun k => [(8, .pointer (some ⟨g8, 0, none⟩)), (10, .pointer (some ⟨g10, 0, none⟩)), (57, .slice an7 N.length cn7), (58, .int .i64 N.length), (59, .int .i64 k)]) ⟨Nat.zero_le _, hX7, none, 0, hS7⟩ (fun k w' h => h.1) ⟨rfl, rfl, rfl, rfl, rfl, trivial⟩ ?_
  clear hS7 hS hX7 hO7 hNT hnet c0 c1 c2 hX6 hx7
  rintro k w8 ⟨hk, hX8, ah, ch, hS⟩
  have hlg := gTo_len N k
  have RN := (hS.row (i := 1) rfl).row encN_ok
  by_cases hlt : k < N.length
  · obtain ⟨x, hxx⟩ := getI N hlt
    have hgx : N[((k : Nat) : Int).toNat]? = some x := by rw [Int.toNat_natCast]; exact hxx
    have hgb := hgo x (List.mem_of_getElem? hxx)
    repeat' (first
      | (show WL _ _ _ _ _ _ _; first | apply WL.nil | (refine WL.au (k := ?_)))
      | (show Z _ _ _ _ _; apply Z.then_normal)
      | (show W _ _ _ _ _ _; first | apply W.seq | apply W.region))
    refine W.condKT rfl (dec_true (by omega)) ?_
    repeat' (first
      | (apply WL.alloc tOk; exact rfl; exact rfl; exact rfl; intro gb w' hb hge hx; (obtain ⟨g15, rfl⟩ : ∃ x, x = gb := ⟨_, rfl⟩; obtain ⟨hge15, rfl⟩ : ∃ x, x = hge := ⟨_, rfl⟩))
      | (apply WL.storeB (w0 := w8) tOk; exact rfl; exact rfl; exact rfl; exact rfl; assumption; (exact extA); exact rfl; exact rfl; exact rfl; (exact extA); (first | assumption | omega | (focus (apply Nat.le_trans; rotate_left; assumption; exact Below.size (by (exact extA)); done))); intro w' hb hc hX' hU; have hcc := hc; obtain ⟨h1, h2, _⟩ := hc; (obtain ⟨w12, rfl⟩ : ∃ x, x = w' := ⟨_, rfl⟩; obtain ⟨hb15, rfl⟩ : ∃ x, x = hb := ⟨_, rfl⟩; obtain ⟨hX12, rfl⟩ : ∃ x, x = hX' := ⟨_, rfl⟩; have hC15 := cells_heap hb15; obtain ⟨i0, i1, _⟩ := hC15))
      | (show WL _ _ _ _ _ _ _; first | apply WL.nil | (refine WL.au (k := ?_)) | (apply WL.index tOk; exact rfl; exact rfl; exact rfl; exact rfl; exact rfl; exact rfl; exact rfl; exact rfl; assumption; (exact extA); exact rfl; omega; assumption; intro b off h; have hcc := h; first | (obtain ⟨h1, h2, h3, h4, h5, h6, _⟩ := h) | (obtain ⟨h1, h2, h3, _⟩ := h) | (obtain ⟨h1, h2, _⟩ := h) | (obtain ⟨h1, _⟩ := h)))
      | (show Z _ _ _ _ _; apply Z.then_normal)
      | (show W _ _ _ _ _ _; first | apply W.seq | apply W.region | apply W.block | apply W.skip))
    have hX12w : Ext w w12 := hX8.trans hX12
    replace hS := hS.ext hX12
    clear hU hcc h1 h2
    by_cases h0x : 0 ≤ x.1
    · have e1 := gTo_yes hxx h0x
      have e2 : gateG k x = (2 * (k : Int) + 2, max x.1 x.2, min x.1 x.2) := by unfold gateG; rw [show 2 * ((k : Int) + 1) = 2 * (k : Int) + 2 by omega]
      rw [e2] at e1
      have hRg := hS.row (i := 0) rfl
      have hc7 := hS.cell (i := 3) rfl
      obtain ⟨n0, n1, n2, n3, n4, n5, n6, _⟩ := cells_heap (hS.cell (i := 3) rfl)
      refine W.condKT rfl (dec_true h0x) ?_
      repeat' (first
        | (apply WL.min; exact rfl; exact rfl; exact rfl; exact rfl)
        | (apply WL.max; exact rfl; exact rfl; exact rfl; exact rfl)
        | ((show WL _ _ _ (⟨_, .build 106 _, _, _, _, _⟩ :: _) _ _ _; apply WL.build (cs := [.int .i64 (2 * (k : Int) + 2), .int .i64 (max x.1 x.2), .int .i64 (min x.1 x.2)]) tOk; exact rfl; exact rfl; exact rfl; exact rfl; exact rfl; exact rfl; (first | kernel_rfl | exact rfl); kernel_rfl))
        | (apply WL.lit tOk; exact rfl; exact rfl; exact rfl; exact rfl; exact rfl; exact rfl; (first | exact rfl | kernel_rfl | (simp [Instr.fill, catCells]; done)); exact rfl; intro gb w' hb hge hc hx)
        | (apply WL.append1 (z := (((2 * (k : Int) + 2, max x.1 x.2, min x.1 x.2) : T3))) tOk enc3_ok; exact rfl; exact rfl; exact rfl; exact rfl; exact rfl; exact rfl; exact rfl; exact rfl; exact rfl; exact rfl; assumption; (exact extA); (first | exact rfl | (focus (simp only [List.length_set]; done)) | (focus (simp; done)) | (focus (simp [*]; done)) | omega | (focus (simp only [List.length_set]; omega))); (first | assumption | (refine Cells.ext ?_ (by assumption); exact extA)); exact rfl; exact rfl; (exact extA); (first | omega | (simp; omega) | (simp at *; omega)); intro a' cap' w' hO hX' hU hF; (first | replace hS := Sep.updRow (i := 0) rfl hU hO hF hS (by (exact extA)) (by (first | exact Nat.le_refl _ | exact Below.size (by (exact extA)))) | replace hS := Sep.updRow (i := 1) rfl hU hO hF hS (by (exact extA)) (by (first | exact Nat.le_refl _ | exact Below.size (by (exact extA)))) | replace hS := Sep.updRow (i := 2) rfl hU hO hF hS (by (exact extA)) (by (first | exact Nat.le_refl _ | exact Below.size (by (exact extA)))) | replace hS := Sep.updRow (i := 3) rfl hU hO hF hS (by (exact extA)) (by (first | exact Nat.le_refl _ | exact Below.size (by (exact extA)))) | replace hS := Sep.updRow (i := 4) rfl hU hO hF hS (by (exact extA)) (by (first | exact Nat.le_refl _ | exact Below.size (by (exact extA)))) | replace hS := Sep.updRow (i := 5) rfl hU hO hF hS (by (exact extA)) (by (first | exact Nat.le_refl _ | exact Below.size (by (exact extA))))); (try simp only [List.set_cons_zero, List.set_cons_succ] at hS); (try have hR0 := hS.row (i := 0) rfl); (try have hR1 := hS.row (i := 1) rfl); (try have hR2 := hS.row (i := 2) rfl); (try have hR3 := hS.row (i := 3) rfl); (try have hR4 := hS.row (i := 4) rfl); (try have hC0 := hS.cell (i := 0) rfl); (try have hD0 := (cells_heap hC0).1); (try have hE0 := (cells_heap hC0).2.1); (try have hF0 := (cells_heap hC0).2.2.1); (try have hG0 := (cells_heap hC0).2.2.2.1); (try have hC1 := hS.cell (i := 1) rfl); (try have hD1 := (cells_heap hC1).1); (try have hE1 := (cells_heap hC1).2.1); (try have hF1 := (cells_heap hC1).2.2.1); (try have hG1 := (cells_heap hC1).2.2.2.1); (try have hC2 := hS.cell (i := 2) rfl); (try have hD2 := (cells_heap hC2).1); (try have hE2 := (cells_heap hC2).2.1); (try have hF2 := (cells_heap hC2).2.2.1); (try have hG2 := (cells_heap hC2).2.2.2.1); (try have hC3 := hS.cell (i := 3) rfl); (try have hD3 := (cells_heap hC3).1); (try have hE3 := (cells_heap hC3).2.1); (try have hF3 := (cells_heap hC3).2.2.1); (try have hG3 := (cells_heap hC3).2.2.2.1); (try have hC4 := hS.cell (i := 4) rfl); (try have hD4 := (cells_heap hC4).1); (try have hE4 := (cells_heap hC4).2.1); (try have hF4 := (cells_heap hC4).2.2.1); (try have hG4 := (cells_heap hC4).2.2.2.1); (try have hM0 := hS.map (i := 0) rfl); (try have hM1 := hS.map (i := 1) rfl); (try have hM2 := hS.map (i := 2) rfl); (try have hM3 := hS.map (i := 3) rfl); (try have hM4 := hS.map (i := 4) rfl))
        | (apply WL.storeF (w0 := w) tOk; exact rfl; exact rfl; exact rfl; exact rfl; assumption; (exact extA); exact rfl; exact rfl; exact rfl; exact rfl; (exact extA); (first | assumption | omega | (focus (apply Nat.le_trans; rotate_left; assumption; exact Below.size (by (exact extA))))); intro w' hb hX' hU; replace hS := Sep.updCell (i := 3) rfl hU hb hS (by (exact extA)) (by (first | exact Nat.le_refl _ | exact Below.size (by (exact extA)))); (try simp only [List.set_cons_zero, List.set_cons_succ] at hS); (try have hR0 := hS.row (i := 0) rfl); (try have hR1 := hS.row (i := 1) rfl); (try have hR2 := hS.row (i := 2) rfl); (try have hR3 := hS.row (i := 3) rfl); (try have hR4 := hS.row (i := 4) rfl); (try have hC0 := hS.cell (i := 0) rfl); (try have hD0 := (cells_heap hC0).1); (try have hE0 := (cells_heap hC0).2.1); (try have hF0 := (cells_heap hC0).2.2.1); (try have hG0 := (cells_heap hC0).2.2.2.1); (try have hC1 := hS.cell (i := 1) rfl); (try have hD1 := (cells_heap hC1).1); (try have hE1 := (cells_heap hC1).2.1); (try have hF1 := (cells_heap hC1).2.2.1); (try have hG1 := (cells_heap hC1).2.2.2.1); (try have hC2 := hS.cell (i := 2) rfl); (try have hD2 := (cells_heap hC2).1); (try have hE2 := (cells_heap hC2).2.1); (try have hF2 := (cells_heap hC2).2.2.1); (try have hG2 := (cells_heap hC2).2.2.2.1); (try have hC3 := hS.cell (i := 3) rfl); (try have hD3 := (cells_heap hC3).1); (try have hE3 := (cells_heap hC3).2.1); (try have hF3 := (cells_heap hC3).2.2.1); (try have hG3 := (cells_heap hC3).2.2.2.1); (try have hC4 := hS.cell (i := 4) rfl); (try have hD4 := (cells_heap hC4).1); (try have hE4 := (cells_heap hC4).2.1); (try have hF4 := (cells_heap hC4).2.2.1); (try have hG4 := (cells_heap hC4).2.2.2.1); (try have hM0 := hS.map (i := 0) rfl); (try have hM1 := hS.map (i := 1) rfl); (try have hM2 := hS.map (i := 2) rfl); (try have hM3 := hS.map (i := 3) rfl); (try have hM4 := hS.map (i := 4) rfl))
        | (show WL _ _ _ _ _ _ _; first | apply WL.nil | (refine WL.au (k := ?_)))
        | (show Z _ _ _ _ _; first | apply Z.then_normal | apply Z.block_normal)
        | (show W _ _ _ _ _ _; apply W.region))
      exact Z.againW ⟨by omega, (by (exact extA)), a', cap', by rw [e1]; exact hS⟩ ⟨rfl, rfl, rfl, rfl, rfl, trivial⟩
    · have e1 := gTo_no hxx h0x
      refine W.condKF rfl (dec_false h0x) ?_
      repeat' (first
        | (show WL _ _ _ _ _ _ _; first | apply WL.nil | (refine WL.au (k := ?_)))
        | (show Z _ _ _ _ _; first | apply Z.then_normal | apply Z.block_normal)
        | (show W _ _ _ _ _ _; first | apply W.region | apply W.skip))
      exact Z.againW ⟨by omega, hX12w, ah, ch, by rw [e1]; exact hS⟩ ⟨rfl, rfl, rfl, rfl, rfl, trivial⟩
  obtain rfl : k = N.length := by omega
  obtain ⟨dd, hdd⟩ : ∃ dd : Circ, dd = ⟨(N.length : Nat), (ai, ci, I), (ag, cg, latZ L next reset L.length), (none, 0, []), (some ⟨g25, 0, none⟩, 1, [bad]), (none, 0, []), (ah, ch, gTo N N.length), (none, 0, []), ⟨#[]⟩⟩ := ⟨_, rfl⟩
  have hcd : Cells w8 g10 0 dd.vals := by rw [hdd]; exact cells_heap (hS.cell (i := 3) rfl)
  rw [hPG] at hS
  have hb2' : w8.heap[g8]? = some (.cells (Value.cells (.agg #[.int .i64 0, .slice none 0 0, .slice none 0 0, .slice none 0 0, .slice none 0 0, .slice none 0 0, .slice none 0 0, .slice none 0 0, .string ⟨#[]⟩])) 28 (0, 0)) := by rw [← hzC]; exact hS.cell (i := 5) rfl
  repeat' (first
    | (show WL _ _ _ _ _ _ _; first | apply WL.nil | (refine WL.au (k := ?_)))
    | (show Z _ _ _ _ _; apply Z.then_normal)
    | (show W _ _ _ _ _ _; first | apply W.seq | apply W.region))
  refine W.condKF rfl (dec_false (by omega)) ?_
  repeat' (first
    | (apply WL.storeB (w0 := w) tOk; exact rfl; exact rfl; exact rfl; exact rfl; assumption; (exact extA); exact rfl; exact rfl; exact rfl; (exact extA); (first | assumption | omega | (focus (apply Nat.le_trans; rotate_left; assumption; exact Below.size (by (exact extA)); done))); intro w' hb hc hX' hU; have hcc := hc; obtain ⟨h1, h2, _⟩ := hc; (obtain ⟨w17, rfl⟩ : ∃ x, x = w' := ⟨_, rfl⟩; obtain ⟨hb17, rfl⟩ : ∃ x, x = hb := ⟨_, rfl⟩; obtain ⟨hX17, rfl⟩ : ∃ x, x = hX' := ⟨_, rfl⟩))
    | (show WL _ _ _ _ _ _ _; first | apply WL.nil | (refine WL.au (k := ?_)))
    | (show Z _ _ _ _ _; first | apply Z.then_normal | apply Z.then_exit | apply Z.block_exit)
    | (show W _ _ _ _ _ _; first | apply W.seq | apply W.region | apply W.ret | apply W.exit))
  have hS17 := Sep.updCell (i := 5) rfl hU hb17 hS (Ext.refl _) (Below.size hX8)
  have o0 := hS17.row (i := 0) rfl
  have o2 := hS17.row (i := 2) rfl
  have o4 := hS17.row (i := 4) rfl
  have oi := hOi.ext hX17
  have nilK : ∀ {α : Type} (w0 : World) (s : Nat) (enc : α → List Value), RowK s enc w0 ((none, 0, []) : RowV α) := fun w0 s enc => ⟨Row.nil _ _ _ _, Nat.le_refl _, fun _ => rfl⟩
  have hCd : CAt w17 dd := by
    rw [hdd]
    exact ⟨⟨oi.row encI_ok, oi.capLe, oi.noneCap⟩, ⟨o2.row enc3_ok, o2.capLe, o2.noneCap⟩, nilK _ _ _, ⟨o4.row encI_ok, o4.capLe, o4.noneCap⟩, nilK _ _ _, ⟨o0.row enc3_ok, o0.capLe, o0.noneCap⟩, nilK _ _ _⟩
  have hst : Stay w.heap.size w17 (fun w9 => Row 1 encI w9 ai I → CAt w9 dd) := by
    intro w9 hsz hk RI
    have hS9 := Sep.stay hS17 (Nat.le_refl _) w9 hsz hk
    have o0 := hS9.row (i := 0) rfl
    have o2 := hS9.row (i := 2) rfl
    have o4 := hS9.row (i := 4) rfl
    rw [hdd]
    exact ⟨⟨RI, oi.capLe, oi.noneCap⟩, ⟨o2.row enc3_ok, o2.capLe, o2.noneCap⟩, nilK _ _ _, ⟨o4.row encI_ok, o4.capLe, o4.noneCap⟩, nilK _ _ _, ⟨o0.row enc3_ok, o0.capLe, o0.noneCap⟩, nilK _ _ _⟩
  exact Z.bodyCT tOk Try.results82 rfl rfl rfl rfl rfl (cells_heap hb17) fun m => ⟨hX17.at m, dd, rfl, by rw [hdd]; rfl, hCd.ext ((Ext.refl _).at m), hst⟩
end Go.Proofs.Ythpnahapiodflaa
namespace Go.Proofs.Ythpnahapiodflaa
open Go Go.Lt Go.RowKit
set_option linter.unusedVariables false
set_option linter.unusedSimpArgs false
set_option maxRecDepth 20000

theorem range_get {α : Type} (f : Nat → α) {n i : Nat} (h : i < n) : ((List.range n).map f)[i]? = some (f i) := by rw [List.getElem?_map, List.getElem?_range h]; rfl
theorem range_getD {α : Type} (f : Nat → α) {n i : Nat} {d : α} (h : i < n) : ((List.range n).map f).getD i d = f i := getD_of (range_get f h)
theorem only_ins (m : Nat) (E : List Bool) {k : Nat} (hk : k < m) : ofL (values (List.replicate m (-1, 0)) E) (2 * ((k : Int) + 1)) = E.getD k false := only_lit (OnlyG.start m) E hk

def ringNext (n : Nat) : List Int := (List.range n).map fun i => 2 * ((((i + n - 1) % n : Nat) : Int) + 1)
def ringRes (n : Nat) : List Int := (List.range n).map fun i => if i = 0 then 1 else 0
def ringC (n a : Nat) : CirT := genC 0 (ringNext n) (ringRes n) (badR (2 * ((a : Int) + 1))) (List.replicate n (-1, 0))
theorem ringNext_len (n : Nat) : (ringNext n).length = n := by simp [ringNext]
theorem ringRes_len (n : Nat) : (ringRes n).length = n := by simp [ringRes]
def hot (n p : Nat) : List Bool := (List.range n).map fun i => decide (i = p)
theorem hot_len (n p : Nat) : (hot n p).length = n := by simp [hot]
theorem ring_ok {n a : Nat} (hn : n ≤ 200) (ha : a < n) : GenOk 0 (ringNext n) (ringRes n) (badR (2 * ((a : Int) + 1))) (List.replicate n (-1, 0)) := by
  refine ⟨(tidy_ins n).good, by rw [ringNext_len, Nat.zero_add]; exact OnlyG.start n, by rw [List.length_replicate]; omega, fun z hz => ?_, fun i hi => ?_, (fun z hz => by cases hz), (fun z hz => ?_), (fun z hz => by cases hz)⟩
  · obtain ⟨i, hi, rfl⟩ := List.mem_map.1 hz
    have := Nat.mod_lt (i + n - 1) (show 0 < n by omega)
    unfold hasL; rw [List.length_replicate]; omega
  · rw [ringNext_len] at hi
    show (ringRes n).getD i 0 = 0 ∨ (ringRes n).getD i 0 = 1 ∨ _
    rw [show (ringRes n).getD i 0 = if i = 0 then 1 else 0 from range_getD _ hi]
    by_cases h : i = 0
    · rw [if_pos h]; exact .inr (.inl rfl)
    · rw [if_neg h]; exact .inl rfl
  · rw [List.mem_singleton.1 hz]
    unfold hasL; rw [List.length_replicate]; omega
theorem ring_step {n p i : Nat} (hp : p < n) (hi : i < n) : (i + n - 1) % n = p ↔ i = (p + 1) % n := by
  have e1 : (p + 1) % n = if p + 1 = n then 0 else p + 1 := by
    split
    · rename_i h; rw [h, Nat.mod_self]
    · exact Nat.mod_eq_of_lt (by omega)
  have e2 : (i + n - 1) % n = if i = 0 then n - 1 else i - 1 := by
    split
    · rename_i h; subst h; rw [Nat.zero_add]; exact Nat.mod_eq_of_lt (by omega)
    · rw [show i + n - 1 = (i - 1) + n by omega, Nat.add_mod_right]; exact Nat.mod_eq_of_lt (by omega)
  rw [e1, e2]
  split <;> split <;> omega
theorem ring_next {n a p : Nat} (hn : n ≤ 200) (ha : a < n) (hp : p < n) : nextV (ringC n a) (hot n p) [] = hot n ((p + 1) % n) := by
  unfold ringC
  rw [gen_next (ring_ok hn ha), ringNext_len, show brV (hot n p) n = hot n p by have := brV_self (hot n p); rwa [hot_len] at this]
  show (ringNext n).map (fun z => ofL (values _ (hot n p)) z) = _
  unfold ringNext
  rw [List.map_map]
  unfold hot
  apply List.map_congr_left
  intro i hi
  have hi := List.mem_range.1 hi
  have hm := Nat.mod_lt (i + n - 1) (show 0 < n by omega)
  show ofL _ (2 * ((((i + n - 1) % n : Nat) : Int) + 1)) = _
  rw [only_ins n _ hm, range_getD _ hm]
  exact decide_eq_decide.2 (ring_step hp hi)
theorem ring_start {n : Nat} : (ringRes n).map (fun z => dec (z = 1)) = hot n 0 := by
  unfold ringRes hot
  rw [List.map_map]
  apply List.map_congr_left
  intro i _
  show dec ((if i = 0 then (1 : Int) else 0) = 1) = _
  by_cases h : i = 0
  · rw [if_pos h, dec_true rfl, decide_eq_true h]
  · rw [if_neg h, dec_false (by decide), decide_eq_false h]
theorem ring_state {n a : Nat} (hn : n ≤ 200) (ha : a < n) (ins : List Bool) : ∀ k, k ≤ ins.length → stateV (ringC n a) (hot n 0) (runL 0 ins) k = hot n (k % n)
  | 0, _ => by
    have hl : (ringC n a).lat.length = n := by show (latsG _ _ _).length = _; rw [latsG_len, ringNext_len]
    show brV _ (ringC n a).lat.length = _
    rw [hl, Nat.zero_mod]
    have := brV_self (hot n 0)
    rwa [hot_len] at this
  | k + 1, hk => by
    show nextV _ (stateV _ _ _ k) ((runL 0 ins).getD k []) = _
    rw [ring_state hn ha ins k (by omega), runL_get 0 ins (by omega), if_pos rfl, ring_next hn ha (Nat.mod_lt _ (by omega)), Nat.mod_add_mod]
theorem ring_breaks {n a : Nat} (hn : n ≤ 200) (ha : a < n) (ins : List Bool) : BreaksP (ringC n a) (hot n 0) (runL 0 ins) 0 ↔ ins.length % n = a := by
  have h1 := gen_breaks (ring_ok hn ha) (by rw [ringRes_len, ringNext_len]) (fun z hz => by
    obtain ⟨i, _, rfl⟩ := List.mem_map.1 hz
    by_cases h : i = 0
    · rw [if_pos h]; exact .inr rfl
    · rw [if_neg h]; exact .inl rfl) (by omega) ins
  rw [ring_start] at h1
  refine Iff.trans h1 ?_
  have hs := ring_state hn ha ins ins.length (Nat.le_refl _)
  unfold ringC at hs
  rw [hs, ringNext_len, show brV (hot n (ins.length % n)) n = hot n (ins.length % n) by have := brV_self (hot n (ins.length % n)); rwa [hot_len] at this]
  show ofL (values _ (hot n (ins.length % n))) _ = true ↔ _
  rw [only_ins n _ ha]
  unfold hot
  rw [range_getD _ ha, decide_eq_true_iff]
  exact eq_comm

end Go.Proofs.Ythpnahapiodflaa
namespace Go.Proofs.Ythpnahapiodflaa
open Go Go.Lt Go.RowKit
set_option linter.unusedVariables false
set_option linter.unusedSimpArgs false
set_option maxRecDepth 20000

noncomputable def addK : List Int → List Int → List Int
  | ks, [] => ks
  | ks, a :: l => addK (bif dec (a ∈ ks) then ks else ks ++ [a]) l
theorem addK_mem : ∀ (l ks : List Int) (x : Int), x ∈ addK ks l ↔ x ∈ ks ∨ x ∈ l
  | [], ks, x => by simp [addK]
  | a :: l, ks, x => by
    rw [addK, addK_mem l]
    by_cases h : a ∈ ks
    · rw [dec_true h]
      simp only [cond_true, List.mem_cons]
      constructor
      · rintro (h1 | h1)
        · exact .inl h1
        · exact .inr (.inr h1)
      · rintro (h1 | rfl | h1)
        · exact .inl h1
        · exact .inl h
        · exact .inr h1
    · rw [dec_false h]
      simp only [cond_false, List.mem_cons, List.mem_append, List.mem_singleton, List.not_mem_nil, or_false]
      constructor
      · rintro ((h1 | h1) | h1)
        · exact .inl h1
        · exact .inr (.inl h1)
        · exact .inr (.inr h1)
      · rintro (h1 | h1 | h1)
        · exact .inl (.inl h1)
        · exact .inl (.inr h1)
        · exact .inr h1
end Go.Proofs.Ythpnahapiodflaa
namespace Go.Proofs.Ythpnahapiodflaa
open Go Go.Lt Go.RowKit
set_option linter.unusedVariables false
set_option linter.unusedSimpArgs false
set_option maxRecDepth 20000

def RevAt (L M : List Int) (i : Nat) : Prop := M.length = L.length ∧ ∀ p, p < L.length → M[p]? = if p < i ∨ L.length - i ≤ p then L[L.length - 1 - p]? else L[p]?
theorem RevAt.start (L : List Int) : RevAt L L 0 := ⟨rfl, fun p hp => by rw [if_neg (by omega)]⟩
theorem RevAt.step {L M : List Int} {i : Nat} {x y : Int} (h : RevAt L M i) (hi : 2 * i + 1 < L.length) (hx : M[i]? = some x) (hy : M[L.length - 1 - i]? = some y) : RevAt L (swp M i (L.length - 1 - i) x y) (i + 1) := by
  have hl := h.1
  have hL1 : L[i]? = some x := by rw [← hx, h.2 i (by omega), if_neg (by omega)]
  have hL2 : L[L.length - 1 - i]? = some y := by rw [← hy, h.2 _ (by omega), if_neg (by omega)]
  refine ⟨by unfold swp; rw [List.length_set, List.length_set]; exact hl, fun p hp => ?_⟩
  rw [swp_get hx hy]
  by_cases e1 : p = L.length - 1 - i
  · rw [if_pos e1, if_pos (by omega), e1, show L.length - 1 - (L.length - 1 - i) = i by omega]; exact hL1.symm
  · rw [if_neg e1]
    by_cases e2 : p = i
    · rw [if_pos e2, if_pos (by omega), e2]; exact hL2.symm
    · rw [if_neg e2, h.2 p hp]
      by_cases e3 : p < i ∨ L.length - i ≤ p
      · rw [if_pos e3, if_pos (by omega)]
      · rw [if_neg e3, if_neg (by omega)]
theorem RevAt.all {L M : List Int} {i : Nat} (h : RevAt L M i) (hi : L.length ≤ 2 * i + 1) : M = L.reverse := by
  apply List.ext_getElem?
  intro p
  by_cases hp : p < L.length
  · rw [h.2 p hp, List.getElem?_reverse hp]
    by_cases e : p < i ∨ L.length - i ≤ p
    · rw [if_pos e]
    · rw [if_neg e, show L.length - 1 - p = p by omega]
  · rw [List.getElem?_eq_none (by rw [h.1]; omega), List.getElem?_eq_none (by rw [List.length_reverse]; omega)]
/-- The first ones are dropped, the others are as they were. -/
def DelAt (keep : T3 → Bool) (L M : List T3) (i j : Nat) : Prop := M.length = L.length ∧ i < j ∧ j ≤ L.length ∧ M.take i = (L.take j).filter keep ∧ M.drop j = L.drop j
theorem DelAt.skip {keep : T3 → Bool} {L M : List T3} {i j : Nat} {x : T3} (h : DelAt keep L M i j) (hx : L[j]? = some x) (hk : keep x = false) : DelAt keep L M i (j + 1) := by
  obtain ⟨h1, h2, h3, h4, h5⟩ := h
  have hlt := lt_of_get hx
  refine ⟨h1, by omega, by omega, ?_, ?_⟩
  · rw [take_succ' hx, List.filter_append, h4]; simp [hk]
  · rw [← List.drop_drop, ← List.drop_drop, h5]
theorem DelAt.keep {keep : T3 → Bool} {L M : List T3} {i j : Nat} {x : T3} (h : DelAt keep L M i j) (hx : L[j]? = some x) (hk : keep x = true) : DelAt keep L (M.set i x) (i + 1) (j + 1) := by
  obtain ⟨h1, h2, h3, h4, h5⟩ := h
  have hlt := lt_of_get hx
  refine ⟨by rw [List.length_set]; exact h1, by omega, by omega, ?_, ?_⟩
  · have hs : (M.set i x)[i]? = some x := List.getElem?_set_self (by omega)
    rw [take_succ' hs, take_succ' hx, List.filter_append, ← h4, List.take_set_of_le (Nat.le_refl _)]
    simp [hk]
  · rw [List.drop_set_of_lt (by omega), ← List.drop_drop, ← List.drop_drop, h5]
theorem DelAt.get {keep : T3 → Bool} {L M : List T3} {i j : Nat} {x : T3} (h : DelAt keep L M i j) (hx : L[j]? = some x) : M[j]? = some x := by
  have h5 := h.2.2.2.2
  have e1 : (M.drop j)[0]? = M[j]? := by rw [List.getElem?_drop, Nat.add_zero]
  have e2 : (L.drop j)[0]? = L[j]? := by rw [List.getElem?_drop, Nat.add_zero]
  rw [← e1, h5, e2, hx]
end Go.Proofs.Ythpnahapiodflaa
namespace Go.Proofs.Ythpnahapiodflaa
open Go Go.Lt Go.RowKit
set_option linter.unusedVariables false
set_option linter.unusedSimpArgs false
set_option maxRecDepth 20000

/-- What is needed so far: all but by gates that stand ahead. -/
structure KInv (c : CirT) (ks : List Int) (k : Nat) : Prop where
  sound : ∀ v ∈ ks, NeedC c v
  full : ∀ v, NeedC c v → (∀ (p j : Nat) (g : T3), (ordL c.gates)[p]? = some j → c.gates[j]? = some g → NeedC c (g.1 / 2) → (g.2.1 / 2 = v ∨ g.2.2 / 2 = v) → k ≤ p) → v ∈ ks
theorem KInv.start {c : CirT} (h : GoodC' c) {ks : List Int} (hk : ∀ v, v ∈ ks ↔ v ∈ c.roots.map (· / 2)) : KInv c ks (ordL c.gates).length := by
  refine ⟨fun v hv => ?_, fun v hv hp => ?_⟩
  · obtain ⟨l, hl, rfl⟩ := List.mem_map.1 ((hk v).1 hv)
    exact .root hl
  · have key : ∀ g ∈ c.gates, NeedC c (g.1 / 2) → (g.2.1 / 2 = v ∨ g.2.2 / 2 = v) → False := fun g hg hn hc => by
      obtain ⟨i, hi⟩ := List.mem_iff_getElem?.1 hg
      obtain ⟨p, hpp⟩ := List.mem_iff_getElem?.1 (ord_all h (lt_of_get hi))
      have h1 := hp p i g hpp hi hn hc
      have h2 := lt_of_get hpp
      omega
    cases hv with
    | root hl => exact (hk _).2 (List.mem_map.2 ⟨_, hl, rfl⟩)
    | left hg hn => exact absurd (key _ hg hn (.inl rfl)) id
    | right hg hn => exact absurd (key _ hg hn (.inr rfl)) id
theorem KInv.need {c : CirT} {ks : List Int} {k j : Nat} {g : T3} (hK : KInv c ks (k + 1)) (hj : (ordL c.gates)[k]? = some j) (hg : c.gates[j]? = some g) : g.1 / 2 ∈ ks ↔ NeedC c (g.1 / 2) := by
  refine ⟨hK.sound _, fun hn => hK.full _ hn fun p i x hp hx _ hc => ?_⟩
  have hO := (ordL_is c.gates).1
  obtain ⟨x', hx', _, hr⟩ := (hO p i hp).1
  rw [hx] at hx'; cases hx'
  have hjT : j ∈ (ordL c.gates).take p := Classical.byContradiction fun hn => by
    have := hr j g hg hn
    rcases hc with hc | hc
    · exact this.1 hc.symm
    · exact this.2 hc.symm
  obtain ⟨q, hq, he⟩ := List.mem_take_iff_getElem.1 hjT
  have hkl := lt_of_get hj
  have e2 : (ordL c.gates)[k] = j := by rw [List.getElem?_eq_getElem hkl] at hj; exact Option.some.inj hj
  have : q = k := (List.getElem_inj (h₀ := by omega) (h₁ := hkl) hO.nodup).1 (by rw [he, e2])
  omega
theorem KInv.skip {c : CirT} {ks : List Int} {k j : Nat} {g : T3} (hK : KInv c ks (k + 1)) (hj : (ordL c.gates)[k]? = some j) (hg : c.gates[j]? = some g) (hn : g.1 / 2 ∉ ks) : KInv c ks k := by
  refine ⟨hK.sound, fun v hv hp => hK.full v hv fun p i x h1 h2 h3 h4 => ?_⟩
  have h5 := hp p i x h1 h2 h3 h4
  by_cases hpk : p = k
  · subst hpk
    rw [hj] at h1; cases h1
    rw [hg] at h2; cases h2
    exact absurd ((hK.need hj hg).2 h3) hn
  · omega
theorem KInv.take {c : CirT} {ks : List Int} {k j : Nat} {g : T3} (hK : KInv c ks (k + 1)) (hj : (ordL c.gates)[k]? = some j) (hg : c.gates[j]? = some g) (hn : g.1 / 2 ∈ ks) : KInv c (addK ks [g.2.1 / 2, g.2.2 / 2]) k := by
  have hnd := hK.sound _ hn
  have hgm := List.mem_of_getElem? hg
  refine ⟨fun v hv => ?_, fun v hv hp => ?_⟩
  · rcases (addK_mem _ _ _).1 hv with hv | hv
    · exact hK.sound v hv
    · simp only [List.mem_cons, List.not_mem_nil, or_false] at hv
      rcases hv with rfl | rfl
      · exact .left hgm hnd
      · exact .right hgm hnd
  · rw [addK_mem]
    by_cases hc : v = g.2.1 / 2 ∨ v = g.2.2 / 2
    · right
      simpa using hc
    · left
      refine hK.full v hv fun p i x h1 h2 h3 h4 => ?_
      have h5 := hp p i x h1 h2 h3 h4
      by_cases hpk : p = k
      · subst hpk
        rw [hj] at h1; cases h1
        rw [hg] at h2; cases h2
        exact absurd (h4.imp Eq.symm Eq.symm) hc
      · omega
theorem KInv.done {c : CirT} {ks : List Int} (hK : KInv c ks 0) (v : Int) : v ∈ ks ↔ NeedC c v := ⟨hK.sound v, fun h => hK.full v h fun _ _ _ _ _ _ _ => Nat.zero_le _⟩
theorem Sep.updOld2 {B B' g : Nat} {w w' : World} {ps : List Piece} (hS : Lt.Sep B w ps) (hU : Upd B' (some ⟨g, 0, none⟩) w w') (hg : g < B) : Lt.Sep B w' ps := by
  refine ⟨fun i p h => ⟨p.keep (hS.holds i p h).1 (fun k hk => hU.grown.block k ((hS.holds i p h).2 k hk).2 (fun he => ?_)), fun k hk => ⟨((hS.holds i p h).2 k hk).1, Nat.lt_of_lt_of_le ((hS.holds i p h).2 k hk).2 hU.grown.size⟩⟩, hS.apart⟩
  have h1 := ((hS.holds i p h).2 k hk).1
  simp only [blk, Option.map_some, Option.some.injEq] at he
  omega
end Go.Proofs.Ythpnahapiodflaa
namespace Go.Proofs.Ythpnahapiodflaa
open Go Go.Lt Go.RowKit
set_option linter.unusedVariables false
set_option linter.unusedSimpArgs false
set_option maxRecDepth 20000

theorem dn_gen {nin : Nat} {next reset : List Int} {bad : Int} {N : List (Int × Int)} (h : OnlyG (nin + next.length) N) : dnT N (evenL 0 nin) (evenL nin next.length) next reset bad = genC nin next reset (badR bad) N := by
  have hle := h.le
  have hgT := gTo_all h (N.length - (nin + next.length)) (by omega)
  rw [show nin + next.length + (N.length - (nin + next.length)) = N.length by omega] at hgT
  unfold dnT genC
  rw [evenL_len, latZ_lats, hgT]
theorem good_bnd {N : List (Int × Int)} (h : GoodNet N) (hl : N.length ≤ 1000000) : ∀ x ∈ N, x.1 < 0 ∨ (0 ≤ x.2 ∧ x.1 ≤ 4000000 ∧ x.2 ≤ 4000000) := fun x hx => by
  obtain ⟨i, hi⟩ := List.mem_iff_getElem?.1 hx
  have hlt := lt_of_get hi
  rcases Int.lt_or_le x.1 0 with h0 | h0
  · exact .inl h0
  · have := h.gate hi h0
    right; omega
theorem done_gen (w w0 : World) (nin n gb gs r cap ci cl cn cr : Nat) (a ai al an ar : Option Addr) (N : List (Int × Int)) (next reset : List Int) (bad : Int) (rest : List Piece)
    (hS0 : Lt.Sep w0.heap.size w (stN w0.heap.size gs a cap r N ++ (bdP w0.heap.size gb gs ai ci (evenL 0 nin) al cl (evenL nin n) ++ rest))) (hg : GenOk nin next reset (badR bad) N) (hN : N.length ≤ 1000000)
    (Rn : Row 1 encI w an next) (Rr : Row 1 encI w ar reset) (hln : next.length = n) (hlr : reset.length = n) (hL : n ≤ 1000) :
    Lt.Spec Try.prog 82 [.pointer (some ⟨gb, 0, none⟩), .slice an next.length cn, .slice ar reset.length cr, .int .i64 bad] w (fun v w' => Ext w w' ∧ ∃ d : Circ, v = .tuple #[d.val, .int .i64 0] ∧ d.t = genC nin next reset (badR bad) N ∧ CAt w' d ∧ Stay w.heap.size w' (fun w9 => Row 1 encI w9 ai (evenL 0 nin) → CAt w9 d)) := by
  subst hln
  rw [← dn_gen hg.only]
  exact gen_done w w0 gb gs r cap ci cl cn cr a ai al an ar N _ _ next reset bad rest hS0 hN (good_bnd hg.good hN) Rn Rr (evenL_len _ _).symm (by rw [evenL_len]; exact hlr) (by rw [evenL_len]; exact hL)
/-- What is told stays as it is when an older block is written. -/
theorem done_old {w2 wf wd w7 w8 : World} {gb gs r cap ci cl B' g : Nat} {a ai al : Option Addr} {N : List (Int × Int)} {I L : List Int} {rest : List Piece} {d : Circ}
    (hS : Lt.Sep w2.heap.size wf (stN w2.heap.size gs a cap r N ++ (bdP w2.heap.size gb gs ai ci I al cl L ++ rest))) (hfd : Ext wf wd) (hst : Stay wd.heap.size w7 (fun w9 => Row 1 encI w9 ai I → CAt w9 d)) (hU : Upd B' (some ⟨g, 0, none⟩) w7 w8) (hg : g < w2.heap.size) (h2 : Ext w2 wf) (h7 : Ext wd w7) : CAt w8 d := by
  have h1 := h2.size
  have h3 := hfd.size
  refine hst w8 hU.grown.size (fun k k1 k2 => hU.grown.block k k2 (fun he => by simp only [blk, Option.map_some, Option.some.injEq] at he; omega)) ?_
  have hS8 := Sep.updOld2 ((hS.ext hfd).ext h7) hU hg
  exact (hS8.row (i := 4) rfl).row encI_ok
/-- What is told of what may not be. -/
abbrev zCirc : Circ := ⟨0, (none, 0, []), (none, 0, []), (none, 0, []), (none, 0, []), (none, 0, []), (none, 0, []), (none, 0, []), ⟨#[]⟩⟩
theorem zCirc_at (w : World) : CAt w zCirc := by
  have nilK : ∀ {α : Type} (w0 : World) (s : Nat) (enc : α → List Value), RowK s enc w0 ((none, 0, []) : RowV α) := fun w0 s enc => ⟨Row.nil _ _ _ _, Nat.le_refl _, fun _ => rfl⟩
  exact ⟨nilK _ _ _, nilK _ _ _, nilK _ _ _, nilK _ _ _, nilK _ _ _, nilK _ _ _, nilK _ _ _⟩
end Go.Proofs.Ythpnahapiodflaa
namespace Go.Lt
open Go.RowKit
set_option linter.unusedVariables false
set_option linter.unusedSimpArgs false
section
variable {P : Program} {N : Nat} {e : Env} {w : World} {Q : Exit → Act → World → Prop} {ops : List Oper} {l : List Oper} {d : Nat} {dd : Option Tmp} {t ty tt : TypeId} {x y : Operand} {ps : String} {af : Array Edge} {g : Option (Nat × Bool)} {a b : Int}
theorem yshl {j : IntKind} {n : Nat} (hx : ev e x = some (.int .i64 a)) (hy : ev e y = some (.int j (n : Int))) (h : n ≤ 62) (hv : -9223372036854775808 ≤ a * 2 ^ n ∧ a * 2 ^ n ≤ 9223372036854775807) : Yields P e ⟨dd, .binOp .shl t x y ty, tt, ps, af, g⟩ (.int .i64 (a * 2 ^ n)) := by
  intro ρ hρ w
  have hmin : min n IntKind.i64.bits = n := Nat.min_eq_left (Nat.le_trans h (by decide))
  have hneg : ¬ ((n : Int) < 0) := by omega
  have hrun : (binOp .shl t (.int .i64 a) (.int j (n : Int))).run P w = .ok (.int .i64 (a * 2 ^ n)) w := by
    simp only [binOp, Op.shift, hneg, if_false, Int.toNat_natCast, hmin, Sem.run_pure]
    rw [IntWalk.i64_in _ hv]
  simp [execOp, hρ _ _ hx, hρ _ _ hy, eqGuard_int, hrun]
theorem WL.shl {j : IntKind} {n : Nat} (hg : gate ops e g = some true) (hd : Nat.blt d N = true) (hx : ev e x = some (.int .i64 a)) (hy : ev e y = some (.int j (n : Int))) (h : n ≤ 62) (hv : -9223372036854775808 ≤ a * 2 ^ n ∧ a * 2 ^ n ≤ 9223372036854775807) (k : WL P N ops.toArray l ((d, .int .i64 (a * 2 ^ n)) :: e) w Q) : WL P N ops.toArray (⟨some d, .binOp .shl t x y ty, tt, ps, af, g⟩ :: l) e w Q := WL.step hg hd (yshl hx hy h hv).in k
end
end Go.Lt
namespace Go.Proofs.Ythpnahapiodflaa
open Go Go.Lt Go.RowKit
set_option linter.unusedVariables false
set_option linter.unusedSimpArgs false
set_option maxRecDepth 20000

theorem pow20 {n : Nat} (h : n ≤ 20) : (2 : Int) ^ n ≤ 1048576 ∧ (1 : Int) ≤ 2 ^ n := by
  have h1 : (2 : Nat) ^ n ≤ 2 ^ 20 := Nat.pow_le_pow_right (by decide) h
  have h2 : 0 < (2 : Nat) ^ n := Nat.pow_pos (by decide)
  have e : ((2 : Nat) ^ n : Nat) = ((2 : Int) ^ n) := by rw [Int.natCast_pow]; rfl
  have : (2 : Nat) ^ 20 = 1048576 := rfl
  rw [← e]; omega
theorem bit_int (t k : Nat) : ((t : Int) / 2 ^ k % 2 = 0) ↔ t.testBit k = false := by
  rw [Nat.testBit_eq_decide_div_mod_eq]
  have e : ((t : Int) / 2 ^ k) = ((t / 2 ^ k : Nat) : Int) := by
    rw [Int.natCast_ediv, Int.natCast_pow]; rfl
  rw [e, decide_eq_false_iff_not]
  omega
set_option maxHeartbeats 16000000 in
theorem gen_Counter (w : World) (n t : Nat) (hn1 : 1 ≤ n) (hn : n ≤ 20) (ht : t < 2 ^ n) : Lt.Spec Try.prog 17 [.int .i64 n, .int .i64 t] w (fun v w' => Ext w w' ∧ ∃ d : Circ, v = .tuple #[d.val, .int .i64 0] ∧ d.t = cntC n t ∧ CAt w' d) := by
  have hp := pow20 hn
  have htI : (t : Int) < 2 ^ n := by
    have e : ((2 : Nat) ^ n : Nat) = ((2 : Int) ^ n) := by rw [Int.natCast_pow]; rfl
    rw [← e]; omega
  refine Spec.of _ Try.func17 rfl Try.ntmps17 (by kernel_rfl) rfl ?_
  repeat' (first
    | (apply WL.alloc tOk; exact rfl; exact rfl; exact rfl; intro gb w' hb hge hx; (obtain ⟨g2, rfl⟩ : ∃ x, x = gb := ⟨_, rfl⟩; obtain ⟨w2, rfl⟩ : ∃ x, x = w' := ⟨_, rfl⟩; obtain ⟨hx2, rfl⟩ : ∃ x, x = hx := ⟨_, rfl⟩; obtain ⟨hb2, rfl⟩ : ∃ x, x = hb := ⟨_, rfl⟩; obtain ⟨hge2, rfl⟩ : ∃ x, x = hge := ⟨_, rfl⟩))
    | ((apply WL.shl; exact rfl; exact rfl; exact rfl; exact rfl; omega; omega))
    | (apply WL.gF; exact rfl; exact rfl; (focus (first | exact dec_false (by omega); done)))
    | (show WL _ _ _ _ _ _ _; first | apply WL.nil | (refine WL.au (k := ?_)))
    | (show Z _ _ _ _ _; apply Z.then_normal)
    | (show W _ _ _ _ _ _; first | apply W.seq | apply W.region))
  refine W.condKF rfl (dec_false (by omega)) ?_
  repeat' (first
    | (((show WL _ _ _ (⟨_, .call ⟨.value (.func 79), _, _⟩, _, _, _, _⟩ :: _) _ _ _); apply WL.call; exact rfl; exact rfl; exact rfl; exact rfl; exact gen_begin w2 1 n (by omega) (by omega); rintro v' w3 ⟨hx3, gb9, gs, a, cap, r, ai, ci, al, cl, rfl, hS⟩))
    | (show WL _ _ _ _ _ _ _; first | apply WL.nil | (refine WL.au (k := ?_)))
    | (show Z _ _ _ _ _; apply Z.then_normal)
    | (show W _ _ _ _ _ _; first | apply W.seq | apply W.region | apply W.skip))
  have hRi := (hS.row (i := 4) rfl).row encI_ok
  obtain ⟨n0, n1, n2, _⟩ := cells_heap (hS.cell (i := 3) rfl)
  have hI0 : (evenL 0 1)[((0 : Int)).toNat]? = some 2 := rfl
  have hI1 : (evenL 0 1).length = 1 := evenL_len 0 1
  have hLl : (evenL 1 n).length = n := evenL_len 1 n
  repeat' (first
    | (apply WL.nilc; exact rfl; exact rfl; exact rfl)
    | (show WL _ _ _ _ _ _ _; first | apply WL.nil | (refine WL.au (k := ?_)) | (apply WL.index tOk; exact rfl; exact rfl; exact rfl; exact rfl; exact rfl; exact rfl; exact rfl; exact rfl; assumption; (exact extA); exact rfl; omega; assumption; intro b off h; have hcc := h; first | (obtain ⟨h1, h2, h3, h4, h5, h6, _⟩ := h) | (obtain ⟨h1, h2, h3, _⟩ := h) | (obtain ⟨h1, h2, _⟩ := h) | (obtain ⟨h1, _⟩ := h)))
    | (show Z _ _ _ _ _; apply Z.then_normal)
    | (show W _ _ _ _ _ _; first | apply W.seq | apply W.region | apply W.block))
  have hS0 : Lt.Sep w2.heap.size w3 (stN w2.heap.size gs a cap r (cntTo n t 0).N ++ (bdP w2.heap.size gb9 gs ai ci (evenL 0 1) al cl (evenL 1 n) ++ [prow 1 encI 3 w2.heap.size none 0 (cntTo n t 0).next, prow 1 encI 3 w2.heap.size none 0 (cntTo n t 0).is])) := Sep.rot (Sep.newRow (Sep.rot (Sep.newRow hS (Ext.refl _) Own.nil (fun k hk => by cases hk) (Below.size hx3))) (Ext.refl _) Own.nil (fun k hk => by cases hk) (Below.size hx3))
  refine W.loop (σ := ((Option Addr × Nat) × (Option Addr × Nat) × Nat) × World) (fun s => s.1.2.2 ≤ n ∧ Ext w2 s.2 ∧ ∃ a cap, Lt.Sep w2.heap.size s.2 (stN w2.heap.size gs a cap r (cntTo n t s.1.2.2).N ++ (bdP w2.heap.size gb9 gs ai ci (evenL 0 1) al cl (evenL 1 n) ++ [prow 1 encI 3 w2.heap.size s.1.1.1 s.1.1.2 (cntTo n t s.1.2.2).next, prow 1 encI 3 w2.heap.size s.1.2.1.1 s.1.2.1.2 (cntTo n t s.1.2.2).is]))) (fun s => [(0, .int .i64 n), (1, .int .i64 t), (4, .pointer (some ⟨g2, 0, none⟩)), (6, .pointer (some ⟨gb9, 0, none⟩)), (7, .slice s.1.1.1 (cntTo n t s.1.2.2).next.length s.1.1.2), (8, .slice s.1.2.1.1 (cntTo n t s.1.2.2).is.length s.1.2.1.2), (9, .int .i64 (cntTo n t s.1.2.2).carry), (42, .slice al (evenL 1 n).length cl), (43, .int .i64 (evenL 1 n).length), (44, .int .i64 s.1.2.2)]) (fun s => s.2) (fun s => n - s.1.2.2) (((none, 0), (none, 0), 0), w3) ⟨Nat.zero_le _, hx3, a, cap, hS0⟩ ⟨rfl, rfl, rfl, rfl, rfl, rfl, rfl, rfl, rfl, rfl, trivial⟩ rfl ?_
  clear hS0 hS n0 n1 n2 hRi
  rintro ⟨⟨⟨an, cn⟩, ⟨as_, cs⟩, k⟩, w4⟩ ⟨hk, hX4, a, cap, hS⟩
  dsimp only at hk hX4 hS ⊢
  have hi := cnt_inv n t k hk
  have hnl := hi.len
  have hn1l := hi.nlen
  have hn2l := hi.ilen
  have hRl := (hS.row (i := 5) rfl).row encI_ok
  obtain ⟨n0, n1, n2, _⟩ := cells_heap (hS.cell (i := 3) rfl)
  by_cases hlt : k < n
  · have hch := hi.cHas
    have hcb : (cntTo n t k).carry ≤ 1000000 := by unfold hasL at hch; omega
    have hlk : (evenL 1 n)[((k : Nat) : Int).toNat]? = some (2 * (((1 + k : Nat) : Int) + 1)) := by rw [Int.toNat_natCast]; exact evenL_get 1 n hlt
    obtain ⟨l, hl⟩ : ∃ l, 2 * (((1 + k : Nat) : Int) + 1) = l := ⟨_, rfl⟩
    have hstep : cntTo n t (k + 1) = ⟨(cntTo n t k).next ++ [(xorV (cntTo n t k).N l (cntTo n t k).carry).1], (cntTo n t k).is ++ [litQ l (t.testBit k)], (andV (xorV (cntTo n t k).N l (cntTo n t k).carry).2 (cntTo n t k).carry l).1, (andV (xorV (cntTo n t k).N l (cntTo n t k).carry).2 (cntTo n t k).carry l).2⟩ := by rw [← hl]; rfl
    rw [hl] at hlk
    obtain ⟨X, hXe⟩ : ∃ X, X = xorV (cntTo n t k).N l (cntTo n t k).carry := ⟨_, rfl⟩
    have hXl := xorV_len (cntTo n t k).N l (cntTo n t k).carry
    have hXb : -1 ≤ X.1 ∧ X.1 ≤ 2 * (X.2.length : Int) + 1 := by rw [hXe]; exact muxV_le _ _ _ _
    rw [← hXe] at hstep hXl
    have hl0 : 0 ≤ l ∧ l ≤ 1000 := by omega
    have hleven : l % 2 = 0 := by omega
    generalize cntTo n t k = s at *
    repeat' (first
      | (show WL _ _ _ _ _ _ _; first | apply WL.nil | (refine WL.au (k := ?_)))
      | (show Z _ _ _ _ _; apply Z.then_normal)
      | (show W _ _ _ _ _ _; first | apply W.seq | apply W.region))
    refine W.condKT rfl (dec_true (by omega)) ?_
    repeat' (first
      | (apply WL.nilc; exact rfl; exact rfl; exact rfl)
      | (((show WL _ _ _ (⟨_, .call ⟨.value (.func 80), _, _⟩, _, _, _, _⟩ :: _) _ _ _); apply WL.call; exact rfl; exact rfl; exact rfl; exact rfl; exact aig_XorV gs r cap a s.N l s.carry (bdP w2.heap.size gb9 gs ai ci (evenL 0 1) al cl (evenL 1 n) ++ [prow 1 encI 3 w2.heap.size an cn s.next, prow 1 encI 3 w2.heap.size as_ cs s.is]) _ w2 hX4 hS (by omega) (by omega) (by omega); rw [← hXe]; rintro v' w5 ⟨hX5, a5, c5, rfl, hS5⟩; have hRn := hS5.row (i := 6) rfl))
      | (apply WL.lit tOk; exact rfl; exact rfl; exact rfl; exact rfl; exact rfl; exact rfl; (first | exact rfl | kernel_rfl | (simp [Instr.fill, catCells]; done)); exact rfl; intro gb w' hb hge hc hx)
      | (apply WL.append1 (z := (X.1)) tOk encI_ok; exact rfl; exact rfl; exact rfl; exact rfl; exact rfl; exact rfl; exact rfl; exact rfl; exact rfl; exact rfl; assumption; (exact extA); (first | exact rfl | (focus (simp only [List.length_set]; done)) | (focus (simp; done)) | (focus (simp [*]; done)) | omega | (focus (simp only [List.length_set]; omega))); (first | assumption | (refine Cells.ext ?_ (by assumption); exact extA)); exact rfl; exact rfl; (exact extA); (first | omega | (simp; omega) | (simp at *; omega)); intro a' cap' w' hO hX' hU hF; (obtain ⟨an2, rfl⟩ : ∃ x, x = a' := ⟨_, rfl⟩; obtain ⟨cn2, rfl⟩ : ∃ x, x = cap' := ⟨_, rfl⟩; obtain ⟨w6, rfl⟩ : ∃ x, x = w' := ⟨_, rfl⟩))
      | (show WL _ _ _ _ _ _ _; first | apply WL.nil | (refine WL.au (k := ?_)) | (apply WL.index tOk; exact rfl; exact rfl; exact rfl; exact rfl; exact rfl; exact rfl; exact rfl; exact rfl; assumption; (exact extA); exact rfl; omega; assumption; intro b off h; have hcc := h; first | (obtain ⟨h1, h2, h3, h4, h5, h6, _⟩ := h) | (obtain ⟨h1, h2, h3, _⟩ := h) | (obtain ⟨h1, h2, _⟩ := h) | (obtain ⟨h1, _⟩ := h)))
      | (show Z _ _ _ _ _; apply Z.then_normal)
      | (show W _ _ _ _ _ _; first | apply W.seq | apply W.region | apply W.block | apply W.skip))
    have hX6 : Ext w2 w6 := (by (exact extA))
    have hS6 : Lt.Sep w2.heap.size w6 (stN w2.heap.size gs a5 c5 r X.2 ++ (bdP w2.heap.size gb9 gs ai ci (evenL 0 1) al cl (evenL 1 n) ++ [prow 1 encI 3 w2.heap.size an2 cn2 (s.next ++ [X.1]), prow 1 encI 3 w2.heap.size as_ cs s.is])) := Sep.updRow (i := 6) rfl hU hO hF (Sep.ext hS5 hx) (Ext.refl _) (Below.size (by (exact extA)))
    clear hU hO hF hS hS5 hRn n0 n1 n2 hcc h1 hRl
    obtain ⟨n0, n1, n2, _⟩ := cells_heap (hS6.cell (i := 3) rfl)
    have hcb6 : hasL X.2 s.carry := hasL_mono hch hXl.1
    repeat' (first
      | (((show WL _ _ _ (⟨_, .call ⟨.value (.func 81), _, _⟩, _, _, _, _⟩ :: _) _ _ _); apply WL.call; exact rfl; exact rfl; exact rfl; exact rfl; exact aig_And gs r c5 a5 X.2 s.carry l (bdP w2.heap.size gb9 gs ai ci (evenL 0 1) al cl (evenL 1 n) ++ [prow 1 encI 3 w2.heap.size an2 cn2 (s.next ++ [X.1]), prow 1 encI 3 w2.heap.size as_ cs s.is]) _ w2 hX6 hS6 (by omega); rintro v' w7 ⟨hX7, a7, c7, rfl, hS7⟩; have hRs := hS7.row (i := 7) rfl))
      | ((apply WL.shr; exact rfl; exact rfl; exact rfl; exact rfl; (show _ ≤ 64; omega)))
      | (apply WL.andA; exact rfl; exact rfl; exact rfl; exact rfl)
      | (show WL _ _ _ _ _ _ _; first | apply WL.nil | (refine WL.au (k := ?_)))
      | (show Z _ _ _ _ _; apply Z.then_normal)
      | (show W _ _ _ _ _ _; first | apply W.seq | apply W.region))
    by_cases hbit : t.testBit k = false
    · have el : litQ l (t.testBit k) = Lt.xor1 l := by rw [hbit]; unfold litQ Lt.xor1; rw [if_neg (by decide), if_pos hleven]
      rw [el] at hstep
      refine W.condKT rfl (dec_true ((bit_int t k).2 hbit)) ?_
      repeat' (first
        | ((apply WL.xor1; exact rfl; exact rfl; exact rfl; exact rfl; omega))
        | (apply WL.lit tOk; exact rfl; exact rfl; exact rfl; exact rfl; exact rfl; exact rfl; (first | exact rfl | kernel_rfl | (simp [Instr.fill, catCells]; done)); exact rfl; intro gb w' hb hge hc hx)
        | (apply WL.append1 (z := (Lt.xor1 l)) tOk encI_ok; exact rfl; exact rfl; exact rfl; exact rfl; exact rfl; exact rfl; exact rfl; exact rfl; exact rfl; exact rfl; assumption; (exact extA); (first | exact rfl | (focus (simp only [List.length_set]; done)) | (focus (simp; done)) | (focus (simp [*]; done)) | omega | (focus (simp only [List.length_set]; omega))); (first | assumption | (refine Cells.ext ?_ (by assumption); exact extA)); exact rfl; exact rfl; (exact extA); (first | omega | (simp; omega) | (simp at *; omega)); intro a' cap' w' hO hX' hU hF)
        | (show WL _ _ _ _ _ _ _; first | apply WL.nil | (refine WL.au (k := ?_)))
        | (show Z _ _ _ _ _; first | apply Z.then_normal | apply Z.block_normal)
        | (show W _ _ _ _ _ _; apply W.region))
      have hS8 := Sep.updRow (i := 7) rfl hU hO hF (Sep.ext hS7 (by (exact extA))) (Ext.refl _) (Below.size (show Ext w2 _ from (by (exact extA))))
      exact Z.again (((an2, cn2), (a', cap'), k + 1), w') ⟨by dsimp only; omega, (by (exact extA)), a7, c7, by dsimp only; rw [hstep]; exact hS8⟩ (by dsimp only; omega) (by dsimp only; rw [hstep]; exact ⟨rfl, rfl, rfl, rfl, rfl, rfl, rfl, rfl, rfl, rfl, trivial⟩) rfl
    · have hbit' : t.testBit k = true := by cases hb : t.testBit k; exact absurd hb hbit; rfl
      have el : litQ l (t.testBit k) = l := by rw [hbit']; rfl
      rw [el] at hstep
      refine W.condKF rfl (dec_false (fun h => hbit ((bit_int t k).1 h))) ?_
      repeat' (first
        | (apply WL.lit tOk; exact rfl; exact rfl; exact rfl; exact rfl; exact rfl; exact rfl; (first | exact rfl | kernel_rfl | (simp [Instr.fill, catCells]; done)); exact rfl; intro gb w' hb hge hc hx)
        | (apply WL.append1 (z := (l)) tOk encI_ok; exact rfl; exact rfl; exact rfl; exact rfl; exact rfl; exact rfl; exact rfl; exact rfl; exact rfl; exact rfl; assumption; (exact extA); (first | exact rfl | (focus (simp only [List.length_set]; done)) | (focus (simp; done)) | (focus (simp [*]; done)) | omega | (focus (simp only [List.length_set]; omega))); (first | assumption | (refine Cells.ext ?_ (by assumption); exact extA)); exact rfl; exact rfl; (exact extA); (first | omega | (simp; omega) | (simp at *; omega)); intro a' cap' w' hO hX' hU hF)
        | (show WL _ _ _ _ _ _ _; first | apply WL.nil | (refine WL.au (k := ?_)))
        | (show Z _ _ _ _ _; first | apply Z.then_normal | apply Z.block_normal)
        | (show W _ _ _ _ _ _; first | apply W.region | apply W.skip))
      have hS8 := Sep.updRow (i := 7) rfl hU hO hF (Sep.ext hS7 (by (exact extA))) (Ext.refl _) (Below.size (show Ext w2 _ from (by (exact extA))))
      exact Z.again (((an2, cn2), (a', cap'), k + 1), w') ⟨by dsimp only; omega, (by (exact extA)), a7, c7, by dsimp only; rw [hstep]; exact hS8⟩ (by dsimp only; omega) (by dsimp only; rw [hstep]; exact ⟨rfl, rfl, rfl, rfl, rfl, rfl, rfl, rfl, rfl, rfl, trivial⟩) rfl
  have hkn : k = n := by omega
  subst hkn
  have hsl := cntN_len k t
  have hCn : CellC gb9 #[.pointer (some ⟨gs, 0, none⟩), .slice ai (evenL 0 1).length ci, .slice al (evenL 1 k).length cl] 92 w4 := hS.cell (i := 3) rfl
  have hIs := hi.isHas
  have hIl := hi.ilen
  repeat' (first
    | (show WL _ _ _ _ _ _ _; first | apply WL.nil | (refine WL.au (k := ?_)))
    | (show Z _ _ _ _ _; apply Z.then_normal)
    | (show W _ _ _ _ _ _; first | apply W.seq | apply W.region))
  refine W.condKF rfl (dec_false (by omega)) ?_
  repeat' (first
    | (apply FL.nilc; exact rfl; exact rfl; exact rfl)
    | (show W _ _ (.region 15 _ _) _ _ _; apply W.regionG (.fl true 0 (.fl true 1 (.fl true 2 (.fl true 4 (.fl true 5 (.fl true 6 (.fl true 8 (.fl false 7 (.br 3 (.br 9 (.br 10 (.fl true 11 (.fl true 12 (.br 13 (.fl true 14 .done) .stop))) .stop) .stop) (.br 9 (.br 3 (.br 10 (.fl true 11 (.fl true 12 (.br 13 (.fl true 14 .done) .stop))) .stop) .stop) .stop)))))))))) [3, 10, 11, 12] (CellC gb9 #[.pointer (some ⟨gs, 0, none⟩), .slice ai (evenL 0 1).length ci, .slice al (evenL 1 k).length cl] 92) tMix; kernel_rfl)
    | (apply WL.make (w0 := w2) (z := (0:Int)) tOk; exact rfl; exact rfl; exact rfl; exact rfl; exact rfl; exact rfl; exact rfl; exact rfl; exact rfl; exact encI_ok; exact rfl; exact rfl; (exact extA); (first | omega | (simp; omega) | (simp at *; omega)); intro gb w' hO hge hx; (obtain ⟨gz, rfl⟩ : ∃ x, x = gb := ⟨_, rfl⟩; obtain ⟨hOz, rfl⟩ : ∃ x, x = hO := ⟨_, rfl⟩; obtain ⟨hgez, rfl⟩ : ∃ x, x = hge := ⟨_, rfl⟩; obtain ⟨hxz, rfl⟩ : ∃ x, x = hx := ⟨_, rfl⟩; obtain ⟨wz, rfl⟩ : ∃ x, x = w' := ⟨_, rfl⟩; first | (have hSf : Lt.Sep w2.heap.size wz (stN w2.heap.size gs a8 c8 r (cntN k t).2 ++ (bdP w2.heap.size gb9 gs ai ci (evenL 0 1) al cl (evenL 1 k) ++ [prow 1 encI 3 w2.heap.size an cn (cntTo k t k).next, prow 1 encI 3 w2.heap.size as_ cs (cntTo k t k).is, prow 1 encI 3 w2.heap.size (some ⟨gz, 0, none⟩) k (List.replicate k 0)])) := Sep.rot (Sep.newRow hS6 hxz hOz (fun k hk => by cases hk; exact hgez) (Below.size hX6)); have hCf : CellC gb9 #[.pointer (some ⟨gs, 0, none⟩), .slice ai (evenL 0 1).length ci, .slice al (evenL 1 k).length cl] 92 wz := hSf.cell (i := 3) rfl) | (have hSm : Lt.Sep w2.heap.size wz (stN w2.heap.size gs a cap r (cntTo k t k).N ++ (bdP w2.heap.size gb9 gs ai ci (evenL 0 1) al cl (evenL 1 k) ++ [prow 1 encI 3 w2.heap.size an cn (cntTo k t k).next, prow 1 encI 3 w2.heap.size as_ cs (cntTo k t k).is, prow 1 encI 3 w2.heap.size (some ⟨gz, 0, none⟩) k (List.replicate k 0)])) := Sep.rot (Sep.newRow (Sep.ext hS (by (exact extA))) hxz hOz (fun k hk => by cases hk; exact hgez) (Below.size (by (exact extA)))); have hCm : CellC gb9 #[.pointer (some ⟨gs, 0, none⟩), .slice ai (evenL 0 1).length ci, .slice al (evenL 1 k).length cl] 92 wz := hSm.cell (i := 3) rfl)))
    | (((show WL _ _ _ (⟨_, .call ⟨.value (.func 83), _, _⟩, _, _, _, _⟩ :: _) _ _ _); apply WL.call; exact rfl; exact rfl; exact rfl; exact rfl; exact aig_AllV gs r cap cs a as_ (cntTo k t k).N (cntTo k t k).is (bdP w2.heap.size gb9 gs ai ci (evenL 0 1) al cl (evenL 1 k) ++ [prow 1 encI 3 w2.heap.size an cn (cntTo k t k).next, prow 1 encI 3 w2.heap.size as_ cs (cntTo k t k).is, prow 1 encI 3 w2.heap.size (some ⟨gz, 0, none⟩) k (List.replicate k 0)]) _ w2 (Ext.trans hX4 (by (exact extA))) (Sep.ext hSm (by (exact extA))) (by omega) (fun w9 a9 c9 N9 h9 hS9 => (hS9.row (i := 7) rfl).row encI_ok); rintro v' w6 ⟨hX6, a8, c8, rfl, hSf⟩; have hCf : CellC gb9 #[.pointer (some ⟨gs, 0, none⟩), .slice ai (evenL 0 1).length ci, .slice al (evenL 1 k).length cl] 92 w6 := hSf.cell (i := 3) rfl))
    | (((show WL _ _ _ (⟨_, .call ⟨.value (.func 83), _, _⟩, _, _, _, _⟩ :: _) _ _ _); apply WL.call; exact rfl; exact rfl; exact rfl; exact rfl; exact aig_AllV gs r cap cs a as_ (cntTo k t k).N (cntTo k t k).is (bdP w2.heap.size gb9 gs ai ci (evenL 0 1) al cl (evenL 1 k) ++ [prow 1 encI 3 w2.heap.size an cn (cntTo k t k).next, prow 1 encI 3 w2.heap.size as_ cs (cntTo k t k).is]) _ w2 (Ext.trans hX4 (by (exact extA))) (Sep.ext hS (by (exact extA))) (by omega) (fun w9 a9 c9 N9 h9 hS9 => (hS9.row (i := 7) rfl).row encI_ok); rintro v' w6 ⟨hX6, a8, c8, rfl, hS6⟩; have hC6 : CellC gb9 #[.pointer (some ⟨gs, 0, none⟩), .slice ai (evenL 0 1).length ci, .slice al (evenL 1 k).length cl] 92 w6 := hS6.cell (i := 3) rfl))
    | (((show WL _ _ _ (⟨_, .call ⟨.value (.func 82), _, _⟩, _, _, _, _⟩ :: _) _ _ _); apply WL.call; exact rfl; exact rfl; exact rfl; exact rfl; exact done_gen _ w2 1 k gb9 gs r _ ci cl cn k _ ai al an (some ⟨gz, 0, none⟩) (cntN k t).2 (cntTo k t k).next (List.replicate k 0) (cntN k t).1 [prow 1 encI 3 w2.heap.size an cn (cntTo k t k).next, prow 1 encI 3 w2.heap.size as_ cs (cntTo k t k).is, prow 1 encI 3 w2.heap.size (some ⟨gz, 0, none⟩) k (List.replicate k 0)] (Sep.ext hSf (by (exact extA))) (cntC_ok hn) (by omega) (Row.ext (Own.row encI_ok (hSf.row (i := 6) rfl)) (by (exact extA))) (Row.ext (Own.row encI_ok (hSf.row (i := 8) rfl)) (by (exact extA))) hi.nlen List.length_replicate (by omega); rintro v' w7 ⟨hx7, d, rfl, hdt, hCd, hst⟩; have hC7 : CellC gb9 #[.pointer (some ⟨gs, 0, none⟩), .slice ai (evenL 0 1).length ci, .slice al (evenL 1 k).length cl] 92 w7 := Ext.heap (by (exact extA)) hCf))
    | (apply WL.storeB (w0 := w) tOk; exact rfl; exact rfl; exact rfl; exact rfl; assumption; (exact extA); exact rfl; exact rfl; exact rfl; (exact extA); (first | assumption | omega | (focus (apply Nat.le_trans; rotate_left; assumption; exact Below.size (by (exact extA)); done))); intro w' hb hc hX' hU; have hcc := hc; obtain ⟨h1, h2, _⟩ := hc; (obtain ⟨w8, rfl⟩ : ∃ x, x = w' := ⟨_, rfl⟩; obtain ⟨hb8, rfl⟩ : ∃ x, x = hb := ⟨_, rfl⟩; obtain ⟨hX8, rfl⟩ : ∃ x, x = hX' := ⟨_, rfl⟩))
    | (show WL _ _ _ _ _ _ _; apply WL.nil)
    | (show SG _ _ _ _ _ _ _ _ _; first | apply SG.done | (apply SG.fl0; exact rfl) | (apply SG.fl1; exact rfl; (focus ((intro m; first | assumption | (apply Ext.at; (exact extA)) | apply But.of_at; first | exact But.upd (by assumption) | exact But.ext (by (exact extA)) | (refine But.trans ?_ (But.upd (by assumption)); exact But.ext (by (exact extA))) | exact But.at _ _ _); done))) | (apply SG.br1; exact rfl) | (apply SG.br; exact rfl))
    | (show FL _ _ _ _ _ _ _ _; (apply FL.loadC tOk; exact rfl; exact rfl; exact rfl; exact rfl; exact rfl; exact rfl))
    | (show FL _ _ _ _ _ _ _ _; first | apply FL.nilS | (refine FL.au (k := ?_)))
    | (show Z _ _ _ _ _; first | (apply Z.sgL; exact rfl) | (apply Z.sgE; (focus ((intro m; first | assumption | (apply Ext.at; (exact extA)) | apply But.of_at; first | exact But.upd (by assumption) | exact But.ext (by (exact extA)) | (refine But.trans ?_ (But.upd (by assumption)); exact But.ext (by (exact extA))) | exact But.at _ _ _); done))))
    | (show Z _ _ _ _ _; first | apply Z.then_normal | apply Z.then_exit | apply Z.block_exit)
    | (show W _ _ _ _ _ _; first | apply W.seq | apply W.ret | apply W.exit))
  all_goals
    exact Z.bodyCT tOk Try.results17 rfl rfl rfl rfl rfl (cells_heap hb8) fun m => ⟨hX8.at m, d, rfl, hdt, (done_old hSf (by (exact extA)) hst hU (heap_lt hb2) (by (exact extA)) hx7).ext ((Ext.refl _).at m)⟩
end Go.Proofs.Ythpnahapiodflaa
namespace Go.Proofs.Ythpnahapiodflaa
open Go Go.Lt Go.RowKit
set_option linter.unusedVariables false
set_option linter.unusedSimpArgs false
set_option maxRecDepth 20000

theorem ref17_power (n : Nat) (w : World) (hn : n ≤ 20) : Still Try.prog 134 [.int .i64 n] w (.int .i64 (2 ^ n : Nat)) := by
  refine Spec.of _ Try.func134 rfl Try.ntmps134 (by kernel_rfl) rfl ?_
  repeat' (first
    | (show WL _ _ _ _ _ _ _; first | apply WL.nil | (refine WL.au (k := ?_)))
    | (show Z _ _ _ _ _; apply Z.then_normal)
    | (show W _ _ _ _ _ _; first | apply W.seq | apply W.region | apply W.block))
  refine W.loop1 n (fun k => k ≤ n) (fun k => [(0, .int .i64 n), (3, .int .i64 (2 ^ k : Nat)), (4, .int .i64 k)]) (Nat.zero_le _) (fun k h => h) ⟨rfl, rfl, rfl, trivial⟩ ?_
  rintro k hk
  have hp : (2 : Nat) ^ k ≤ 2 ^ 20 := Nat.pow_le_pow_right (by decide) (by omega)
  have hp2 : (2 : Nat) ^ 20 = 1048576 := rfl
  by_cases hlt : k < n
  · have hs : ((2 ^ (k + 1) : Nat) : Int) = 2 * ((2 ^ k : Nat) : Int) := by rw [Nat.pow_succ]; omega
    rw [hp2] at hp
    generalize (2 : Nat) ^ k = z at hp hs ⊢
    repeat' (first
      | (apply W.condKT; exact rfl; (focus (exact dec_true (by omega); done)))
      | (show WL _ _ _ _ _ _ _; first | apply WL.nil | (refine WL.au (k := ?_)))
      | (show Z _ _ _ _ _; first | apply Z.then_normal | apply Z.block_normal)
      | (show W _ _ _ _ _ _; first | apply W.seq | apply W.region | apply W.block | apply W.skip))
    exact Z.again1 (by omega) (by rw [hs]; exact ⟨rfl, rfl, rfl, trivial⟩)
  obtain rfl : k = n := by omega
  repeat' (first
    | (apply W.condKF; exact rfl; (focus (exact dec_false (by omega); done)))
    | (show WL _ _ _ _ _ _ _; first | apply WL.nil | (refine WL.au (k := ?_)))
    | (show Z _ _ _ _ _; first | apply Z.then_normal | apply Z.then_exit | apply Z.block_exit)
    | (show W _ _ _ _ _ _; first | apply W.seq | apply W.region | apply W.ret | apply W.exit))
  exact Z.body1 Try.results134 rfl fun m => ⟨rfl, m, rfl⟩
/-- A number's lowest bits. -/
def bitsL (n : Nat) : Nat → List Bool
  | 0 => []
  | m + 1 => bitsL n m ++ [decide (n / 2 ^ m % 2 = 1)]
theorem bitsL_len (n : Nat) : ∀ m, (bitsL n m).length = m
  | 0 => rfl
  | m + 1 => by rw [bitsL, List.length_append, bitsL_len n m]; rfl
theorem ref17_bits (n m : Nat) (w : World) (hn : n ≤ 1048576) (hm : m ≤ 20) : Lt.Spec Try.prog 135 [.int .i64 n, .int .i64 m] w (IsFresh 1 encB 4 w (bitsL n m)) := by
  refine Spec.of _ Try.func135 rfl Try.ntmps135 (by kernel_rfl) rfl ?_
  repeat' (first
    | (apply WL.lit (len := 0) tOk; exact rfl; exact rfl; exact rfl; exact rfl; exact rfl; exact rfl; (first | exact rfl | kernel_rfl | (simp [Instr.fill, catCells]; done)); exact rfl; intro gb w' hb hge hc hx; have hO0 := Own.of_block0 (enc := encB) (s := 1) hb hge)
    | (show WL _ _ _ _ _ _ _; first | apply WL.nil | (refine WL.au (k := ?_)))
    | (show Z _ _ _ _ _; apply Z.then_normal)
    | (show W _ _ _ _ _ _; first | apply W.seq | apply W.region | apply W.block))
  obtain ⟨g0, rfl⟩ : ∃ x, x = gb := ⟨_, rfl⟩; obtain ⟨w1, rfl⟩ : ∃ x, x = w' := ⟨_, rfl⟩
  have hd0 : n / 2 ^ 0 = n := by rw [Nat.pow_zero, Nat.div_one]
  refine W.loopO m (fun k a cp w' => k ≤ m ∧ Ext w w' ∧ Own 1 encB 4 w.heap.size w' a cp (bitsL n k)) (fun k a cp => [(0, .int .i64 (n / 2 ^ k : Nat)), (1, .int .i64 m), (5, .slice a (bitsL n k).length cp), (6, .int .i64 k)]) (some ⟨g0, 0, none⟩) 0 ⟨Nat.zero_le _, hx, hO0⟩ (fun k a cp w' h => h.1) ⟨by rw [hd0]; rfl, rfl, rfl, rfl, trivial⟩ ?_
  rintro k a cp w2 ⟨hk, hX2, hO2⟩
  have hl := bitsL_len n k
  have hdl : n / 2 ^ k ≤ n := Nat.div_le_self _ _
  by_cases hlt : k < m
  · have e1 : bitsL n (k + 1) = bitsL n k ++ [decide (n / 2 ^ k % 2 = 1)] := rfl
    have e2 : dec ((((n / 2 ^ k : Nat) : Int) % 2) = 1) = decide (n / 2 ^ k % 2 = 1) := by rw [← dec_decide]; exact dec_congr (by omega)
    have e3 : ((n / 2 ^ k : Nat) : Int) / 2 = ((n / 2 ^ (k + 1) : Nat) : Int) := by rw [Nat.pow_succ, ← Nat.div_div_eq_div_mul]; omega
    generalize n / 2 ^ k = z at *
    repeat' (first
      | (apply W.condKT; exact rfl; (focus (exact dec_true (by omega); done)))
      | (apply WL.lit tOk; exact rfl; exact rfl; exact rfl; exact rfl; exact rfl; exact rfl; (first | exact rfl | kernel_rfl | (simp [Instr.fill, catCells]; done)); exact rfl; intro gb w' hb hge hc hx)
      | (apply WL.append1 (z := (dec ((z : Int) % 2 = 1))) tOk encB_ok; exact rfl; exact rfl; exact rfl; exact rfl; exact rfl; exact rfl; exact rfl; exact rfl; exact rfl; exact rfl; assumption; (exact extA); (first | exact rfl | (focus (simp only [List.length_set]; done)) | (focus (simp; done)) | (focus (simp [*]; done)) | omega | (focus (simp only [List.length_set]; omega))); (first | assumption | (refine Cells.ext ?_ (by assumption); exact extA)); exact rfl; exact rfl; (exact extA); (first | omega | (simp; omega) | (simp at *; omega)); intro a' cap' w' hO hX' hU hF)
      | (show WL _ _ _ _ _ _ _; first | apply WL.nil | (refine WL.au (k := ?_)))
      | (show Z _ _ _ _ _; first | apply Z.then_normal | apply Z.block_normal)
      | (show W _ _ _ _ _ _; first | apply W.seq | apply W.region | apply W.block | apply W.skip))
    rw [e2, ← e1] at hO
    refine Z.againO a' cap' ⟨by omega, (by (exact extA)), hO⟩ ?_
    rw [e1, ← e3, ← e2]
    exact ⟨rfl, rfl, rfl, rfl, trivial⟩
  · obtain rfl : k = m := by omega
    repeat' (first
      | (apply W.condKF; exact rfl; (focus (exact dec_false (by omega); done)))
      | (show WL _ _ _ _ _ _ _; first | apply WL.nil | (refine WL.au (k := ?_)))
      | (show Z _ _ _ _ _; first | apply Z.then_normal | apply Z.then_exit | apply Z.block_exit)
      | (show W _ _ _ _ _ _; first | apply W.seq | apply W.region | apply W.ret | apply W.exit))
    exact Z.body1 Try.results135 rfl fun m => ⟨Ext.at hX2 m, a, cp, rfl, hO2.ext ((Ext.refl _).at m)⟩
theorem ref17_number (a : Option Addr) (cap : Nat) (l : List Bool) (w : World) (R : Row 1 encB w a l) (hl : l.length ≤ 20) : Still Try.prog 136 [.slice a l.length cap] w (.int .i64 (numB l : Nat)) := by
  refine Spec.of _ Try.func136 rfl Try.ntmps136 (by kernel_rfl) rfl ?_
  repeat' (first
    | (show WL _ _ _ _ _ _ _; first | apply WL.nil | (refine WL.au (k := ?_)))
    | (show Z _ _ _ _ _; apply Z.then_normal)
    | (show W _ _ _ _ _ _; first | apply W.seq | apply W.region | apply W.block))
  refine W.loop1 l.length (fun k => k ≤ l.length) (fun k => [(0, .slice a l.length cap), (3, .int .i64 (numB (l.drop (l.length - k)) : Nat)), (4, .int .i64 ((l.length : Int) - k - 1))]) (Nat.zero_le _) (fun k h => h) ⟨rfl, by rw [Nat.sub_zero, List.drop_length]; rfl, (by show some (Value.int .i64 _) = some (Value.int .i64 _); congr 2 <;> omega), trivial⟩ ?_
  rintro k hk
  have hlt9 := numB_lt (l.drop (l.length - k))
  have hp : (2 : Nat) ^ (l.drop (l.length - k)).length ≤ 2 ^ 20 := Nat.pow_le_pow_right (by decide) (by rw [List.length_drop]; omega)
  have hp2 : (2 : Nat) ^ 20 = 1048576 := rfl
  by_cases hlt : k < l.length
  · obtain ⟨b, hb⟩ := getI l (show l.length - (k + 1) < l.length by omega)
    have hbl := lt_of_get hb
    have e1 : l.drop (l.length - (k + 1)) = b :: l.drop (l.length - k) := by
      rw [List.drop_eq_getElem_cons hbl, show l[l.length - (k + 1)] = b by rw [List.getElem?_eq_getElem hbl] at hb; exact Option.some.inj hb, show l.length - (k + 1) + 1 = l.length - k by omega]
    have hb' : l[((l.length : Int) - k - 1).toNat]? = some b := by rw [show ((l.length : Int) - k - 1).toNat = l.length - (k + 1) by omega]; exact hb
    have e2 : numB (l.drop (l.length - (k + 1))) = b.toNat + 2 * numB (l.drop (l.length - k)) := by rw [e1]; rfl
    generalize numB (l.drop (l.length - k)) = z at *
    cases b with
    | true =>
      have e3 : ((numB (l.drop (l.length - (k + 1))) : Nat) : Int) = 2 * (z : Int) + 1 := by rw [e2]; simp; omega
      repeat' (first
        | (apply W.condKT; exact rfl; (focus (exact dec_true (by omega); done)))
        | (show WL _ _ _ _ _ _ _; first | apply WL.nil | (refine WL.au (k := ?_)) | (apply WL.index tOk; exact rfl; exact rfl; exact rfl; exact rfl; exact rfl; exact rfl; exact rfl; exact rfl; assumption; (exact extA); exact rfl; omega; assumption; intro b off h; have hcc := h; first | (obtain ⟨h1, h2, h3, h4, h5, h6, _⟩ := h) | (obtain ⟨h1, h2, h3, _⟩ := h) | (obtain ⟨h1, h2, _⟩ := h) | (obtain ⟨h1, _⟩ := h)))
        | (show Z _ _ _ _ _; first | apply Z.then_normal | apply Z.block_normal)
        | (show W _ _ _ _ _ _; first | apply W.seq | apply W.region | apply W.block | apply W.skip | (apply W.condT; exact rfl)))
      exact Z.again1 (by omega) (by rw [e3]; exact ⟨rfl, rfl, (by show some (Value.int .i64 _) = some (Value.int .i64 _); congr 2; omega), trivial⟩)
    | false =>
      have e3 : ((numB (l.drop (l.length - (k + 1))) : Nat) : Int) = 2 * (z : Int) := by rw [e2]; simp
      repeat' (first
        | (apply W.condKT; exact rfl; (focus (exact dec_true (by omega); done)))
        | (show WL _ _ _ _ _ _ _; first | apply WL.nil | (refine WL.au (k := ?_)) | (apply WL.index tOk; exact rfl; exact rfl; exact rfl; exact rfl; exact rfl; exact rfl; exact rfl; exact rfl; assumption; (exact extA); exact rfl; omega; assumption; intro b off h; have hcc := h; first | (obtain ⟨h1, h2, h3, h4, h5, h6, _⟩ := h) | (obtain ⟨h1, h2, h3, _⟩ := h) | (obtain ⟨h1, h2, _⟩ := h) | (obtain ⟨h1, _⟩ := h)))
        | (show Z _ _ _ _ _; first | apply Z.then_normal | apply Z.block_normal)
        | (show W _ _ _ _ _ _; first | apply W.seq | apply W.region | apply W.block | apply W.skip | (apply W.condF; exact rfl)))
      exact Z.again1 (by omega) (by rw [e3]; exact ⟨rfl, rfl, (by show some (Value.int .i64 _) = some (Value.int .i64 _); congr 2; omega), trivial⟩)
  · obtain rfl : k = l.length := by omega
    rw [Nat.sub_self, List.drop_zero]
    repeat' (first
      | (apply W.condKF; exact rfl; (focus (exact dec_false (by omega); done)))
      | (show WL _ _ _ _ _ _ _; first | apply WL.nil | (refine WL.au (k := ?_)))
      | (show Z _ _ _ _ _; first | apply Z.then_normal | apply Z.then_exit | apply Z.block_exit)
      | (show W _ _ _ _ _ _; first | apply W.seq | apply W.region | apply W.ret | apply W.exit))
    exact Z.body1 Try.results136 rfl fun m => ⟨rfl, m, rfl⟩
end Go.Proofs.Ythpnahapiodflaa
namespace Go.Proofs.Ythpnahapiodflaa
open Go Go.Lt Go.RowKit
set_option linter.unusedVariables false
set_option linter.unusedSimpArgs false
set_option maxRecDepth 20000

def anyTo (f : Nat → Bool) : Nat → Bool
  | 0 => false
  | k + 1 => anyTo f k || f k
noncomputable def fS (c : CirT) (s : Nat) : Bool := dec (StartsP c (bitsL s c.lat.length))
noncomputable def bI (c : CirT) (s i : Nat) : Bool := dec (BadP c (bitsL s c.lat.length) (bitsL i c.ins.length) 0)
noncomputable def nI (c : CirT) (s i : Nat) : Int := (numB (nextV c (bitsL s c.lat.length) (bitsL i c.ins.length)) : Nat)
abbrev pB8 (B : Nat) (r : RowV Bool) : Piece := prow 1 encB 4 B r.1 r.2.1 r.2.2
abbrev wlP (B g7 n : Nat) (sa : Option Addr) (sc : Nat) (S : List Bool) (ba : Option Addr) (bc : Nat) (Bd : List Bool) (na : Option Addr) (nc : Nat) (rs : List (RowV Int)) (X Y : RowV Bool) (PG : Piece) : List Piece :=
  [pcell g7 #[.slice sa n sc, .slice ba n bc, .slice na n nc] 98, prow 1 encB 4 B sa sc S, prow 1 encB 4 B ba bc Bd, prow 1 encRow 23 B na nc rs, PG, pB8 B X, pB8 B Y] ++ rs.map (pI B)
section
variable {B g7 n sc bc nc : Nat} {sa ba na : Option Addr} {S Bd : List Bool} {rs : List (RowV Int)} {X Y : RowV Bool} {PG : Piece} {k : Nat} {r : RowV Int}
theorem wl_in (h : rs[k]? = some r) : (wlP B g7 n sa sc S ba bc Bd na nc rs X Y PG)[7 + k]? = some (pI B r) := by
  show (_ :: _ :: _ :: _ :: _ :: _ :: _ :: rs.map (pI B))[7 + k]? = _
  rw [show 7 + k = k + 1 + 1 + 1 + 1 + 1 + 1 + 1 by omega]
  simp only [List.getElem?_cons_succ, List.getElem?_map, h, Option.map_some]
theorem wl_set : (wlP B g7 n sa sc S ba bc Bd na nc rs X Y PG).set (7 + k) (pI B r) = [pcell g7 #[.slice sa n sc, .slice ba n bc, .slice na n nc] 98, prow 1 encB 4 B sa sc S, prow 1 encB 4 B ba bc Bd, prow 1 encRow 23 B na nc rs, PG, pB8 B X, pB8 B Y] ++ (rs.set k r).map (pI B) := by
  rw [show 7 + k = k + 1 + 1 + 1 + 1 + 1 + 1 + 1 by omega]
  show (_ :: _ :: _ :: _ :: _ :: _ :: _ :: rs.map (pI B)).set _ _ = _
  simp only [List.set_cons_succ, ← List.map_set]
  rfl
end
theorem Sep.nilsZ {B : Nat} {w : World} {ps : List Piece} (hS : Lt.Sep B w ps) (n : Nat) : Lt.Sep B w (ps ++ (List.replicate n ((none, 0, []) : RowV Int)).map (pI B)) := Sep.addNils hS n
theorem Sep.putAt {B : Nat} {w : World} {ps : List Piece} {p' : Piece} (i : Nat) (hS : Lt.Sep B w (p' :: ps)) : Lt.Sep B w (ps.set i p') := by
  refine Lt.Sep.pick (fun j => if j = i then 0 else j + 1) hS (fun j p h => ?_) (fun j k _ _ hne => ?_)
  · rw [List.getElem?_set] at h
    by_cases hj : i = j
    · rw [if_pos hj] at h
      rw [if_pos hj.symm]
      split at h
      · exact h
      · cases h
    · rw [if_neg hj] at h
      rw [if_neg (fun h => hj h.symm)]
      exact h
  · split <;> split <;> omega
noncomputable def stF (c : CirT) (k u : Nat) : Bool := if u < k then fS c u else false
noncomputable def bdF (c : CirT) (I k i u : Nat) : Bool := if u < k then anyTo (bI c u) I else if u = k then anyTo (bI c u) i else false
noncomputable def nxF (c : CirT) (I k i u : Nat) : List Int := if u < k then tab I (nI c u) else if u = k then tab i (nI c u) else []
theorem stF_s (c : CirT) (k : Nat) : ∀ u, stF c (k + 1) u = if u = k then fS c k else stF c k u := fun u => by
  unfold stF
  by_cases h : u = k
  · subst h; rw [if_pos rfl, if_pos (by omega)]
  · rw [if_neg h]
    by_cases h2 : u < k
    · rw [if_pos h2, if_pos (by omega)]
    · rw [if_neg h2, if_neg (by omega)]
theorem bdF_s (c : CirT) (I k i : Nat) : ∀ u, bdF c I k (i + 1) u = if u = k then (anyTo (bI c k) i || bI c k i) else bdF c I k i u := fun u => by
  unfold bdF
  by_cases h : u = k
  · subst h; rw [if_pos rfl, if_neg (by omega), if_pos rfl]; rfl
  · rw [if_neg h, if_neg h, if_neg h]
theorem nxF_s (c : CirT) (I k i : Nat) : ∀ u, nxF c I k (i + 1) u = if u = k then tab i (nI c k) ++ [nI c k i] else nxF c I k i u := fun u => by
  unfold nxF
  by_cases h : u = k
  · subst h; rw [if_pos rfl, if_neg (by omega), if_pos rfl, tab_succ]
  · rw [if_neg h, if_neg h, if_neg h]
theorem bdF_next (c : CirT) (I k : Nat) : ∀ u, bdF c I (k + 1) 0 u = bdF c I k I u := fun u => by
  unfold bdF
  by_cases h : u < k
  · rw [if_pos h, if_pos (by omega)]
  · by_cases h2 : u = k
    · subst h2; rw [if_pos (by omega), if_neg (by omega), if_pos rfl]
    · rw [if_neg (by omega), if_neg h, if_neg h2]
      split <;> rfl
theorem nxF_next (c : CirT) (I k : Nat) : ∀ u, nxF c I (k + 1) 0 u = nxF c I k I u := fun u => by
  unfold nxF
  by_cases h : u < k
  · rw [if_pos h, if_pos (by omega)]
  · by_cases h2 : u = k
    · subst h2; rw [if_pos (by omega), if_neg (by omega), if_pos rfl]
    · rw [if_neg (by omega), if_neg h, if_neg h2]
      split <;> rfl
set_option maxHeartbeats 32000000 in
theorem ref17_Whole (gm : Nat) (c : Circ) (rn : RowV (Int × Int)) (ra : RowV Int) (w : World) (hM : MAt w gm c rn ra) (hl : c.lat.2.2.length ≤ 8) (hi : c.ins.2.2.length ≤ 2) (hc : c.cons.2.2 = []) :
    Lt.Spec Try.prog 84 [.pointer (some ⟨gm, 0, none⟩), .int .i64 0] w (fun v w' => Ext w w' ∧ ∃ sa sc ba bc na nc rs, v = .agg #[.slice sa (2 ^ c.lat.2.2.length) sc, .slice ba (2 ^ c.lat.2.2.length) bc, .slice na (2 ^ c.lat.2.2.length) nc] ∧ Row 1 encB w' sa (tab (2 ^ c.lat.2.2.length) (fS c.t)) ∧ Row 1 encB w' ba (tab (2 ^ c.lat.2.2.length) (fun s => anyTo (bI c.t s) (2 ^ c.ins.2.2.length))) ∧ Row 1 encRow w' na rs ∧ (∀ r ∈ rs, Row 1 encI w' r.1 r.2.2) ∧ rs.map (fun r => r.2.2) = tab (2 ^ c.lat.2.2.length) (fun s => tab (2 ^ c.ins.2.2.length) (nI c.t s))) := by
  have hSl : (2 : Nat) ^ c.lat.2.2.length ≤ 256 := Nat.pow_le_pow_right (by decide) hl
  have hIl : (2 : Nat) ^ c.ins.2.2.length ≤ 4 := Nat.pow_le_pow_right (by decide) hi
  obtain ⟨S, hSe⟩ : ∃ S, S = (2 : Nat) ^ c.lat.2.2.length := ⟨_, rfl⟩
  obtain ⟨I, hIe⟩ : ∃ I, I = (2 : Nat) ^ c.ins.2.2.length := ⟨_, rfl⟩
  have hpS := fun (w9 : World) => ref17_power c.lat.2.2.length w9 (by omega)
  have hpI := fun (w9 : World) => ref17_power c.ins.2.2.length w9 (by omega)
  rw [← hSe] at hSl hpS ⊢
  rw [← hIe] at hIl hpI ⊢
  have hcm := hM.cells
  refine Spec.of _ Try.func84 rfl Try.ntmps84 (by kernel_rfl) rfl ?_
  repeat' (first
    | (apply WL.alloc tOk; exact rfl; exact rfl; exact rfl; intro gb w' hb hge hx; (obtain ⟨g4, rfl⟩ : ∃ x, x = gb := ⟨_, rfl⟩; obtain ⟨w2, rfl⟩ : ∃ x, x = w' := ⟨_, rfl⟩; obtain ⟨hx2, rfl⟩ : ∃ x, x = hx := ⟨_, rfl⟩; obtain ⟨hb2, rfl⟩ : ∃ x, x = hb := ⟨_, rfl⟩; obtain ⟨hge2, rfl⟩ : ∃ x, x = hge := ⟨_, rfl⟩))
    | (show WL _ _ _ _ _ _ _; apply WL.nil)
    | (show Z _ _ _ _ _; apply Z.then_normal)
    | (show W _ _ _ _ _ _; first | apply W.seq | apply W.region))
  obtain ⟨y0, y1, y2, _⟩ := hcm.ext hx2
  repeat' (first
    | (apply FL.nilc; exact rfl; exact rfl; exact rfl)
    | (show W _ _ (.region 1 _ _) _ _ _; apply W.regionGX (.fl true 0 (.fl true 1 (.fl true 2 (.fl true 3 (.fl true 7 (.fl true 8 (.fl true 9 (.fl true 10 (.fl false 4 (.fl true 5 (.fl false 11 (.fl true 12 (.fl false 6 (.fl false 13 (.fl true 14 (.fl true 15 .done)))))))))))))))) [6, 11, 12, 13, 14] tMix; kernel_rfl)
    | (apply SX.flP; exact rfl; (exact extA); exact rfl; exact rfl; exact rfl; exact rfl; (focus (intro w9 hw9; exact ((hpS _).mono (R' := fun v w' => v = .int .i64 (S : Nat) ∧ Ext _ w') (fun v w' ⟨h1, m, h2⟩ => ⟨h1, by rw [h2]; exact (Ext.refl _).at m⟩)))))
    | (apply SX.flP; exact rfl; (exact extA); exact rfl; exact rfl; exact rfl; exact rfl; (focus (intro w9 hw9; exact ((hpI _).mono (R' := fun v w' => v = .int .i64 (I : Nat) ∧ Ext _ w') (fun v w' ⟨h1, m, h2⟩ => ⟨h1, by rw [h2]; exact (Ext.refl _).at m⟩)))))
    | (show SX _ _ _ _ _ _ _ _ _; first | (apply SX.done; intro w' hx) | (apply SX.fl0; exact rfl) | (apply SX.fl1; exact rfl; (exact extA)))
    | (show FL _ _ _ _ _ _ _ _; first | apply FL.nilX | (apply FL.loadE tOk; exact rfl; exact rfl; exact rfl; exact rfl; exact rfl; assumption))
    | (show FL _ _ _ _ _ _ _ _; (refine FL.au (k := ?_)))
    | (show Z _ _ _ _ _; apply Z.then_normal)
    | (show W _ _ _ _ _ _; apply W.seq))
  have hXw : Ext w w' := (by (exact extA))
  obtain ⟨zC, hzC⟩ : ∃ z : Array Value, z = Value.cells (.agg #[.slice none 0 0, .slice none 0 0, .slice none 0 0]) := ⟨_, rfl⟩
  obtain ⟨PG, hPG⟩ : ∃ P, P = pcell g4 zC 98 := ⟨_, rfl⟩
  have hS2 : Lt.Sep w.heap.size w2 [PG] := by
    have hb2' : w2.heap[g4]? = some (.cells zC 98 (0, 0)) := by rw [hzC]; exact hb2
    rw [hPG]; exact Sep.newCell Sep.none' hx2 hb2' hge2 (Nat.le_refl _)
  have hS : Lt.Sep w.heap.size w' [PG] := hS2.ext (show Ext w2 w' from (by (exact extA)))
  obtain ⟨w3, rfl⟩ : ∃ x, x = w' := ⟨_, rfl⟩
  clear hS2 y0 y1 y2
  refine W.cutT (σ := (Nat × Nat × Nat × Nat) × World) (fun s => Ext w s.2 ∧ Lt.Sep w.heap.size s.2 (wlP w.heap.size s.1.1 S (some ⟨s.1.2.1, 0, none⟩) S (List.replicate S false) (some ⟨s.1.2.2.1, 0, none⟩) S (List.replicate S false) (some ⟨s.1.2.2.2, 0, none⟩) S (List.replicate S nilR) (none, 0, []) (none, 0, []) PG)) (fun s => [(0, .pointer (some ⟨gm, 0, none⟩)), (1, .int .i64 0), (4, .pointer (some ⟨g4, 0, none⟩)), (5, .int .i64 S), (6, .int .i64 I), (7, .pointer (some ⟨s.1.1, 0, none⟩))]) (fun s => s.2) ?_ ?_
  · repeat' (first
      | (show W _ _ (.region 2 _ _) _ _ _; apply W.regionGX (.fl true 0 (.fl true 2 (.fl true 4 (.br 1 (.br 3 (.br 5 (.fl true 6 (.br 7 (.br 8 .done .stop) .stop)) (.br 7 (.br 5 (.fl true 6 (.br 8 .done .stop)) .stop) .stop)) (.br 5 (.br 3 (.fl true 6 (.br 7 (.br 8 .done .stop) .stop)) (.br 7 (.br 3 (.fl true 6 (.br 8 .done .stop)) .stop) .stop)) (.br 7 (.br 3 (.br 5 (.fl true 6 (.br 8 .done .stop)) .stop) (.br 5 (.br 3 (.fl true 6 (.br 8 .done .stop)) .stop) .stop)) .stop))) (.br 3 (.br 1 (.br 5 (.fl true 6 (.br 7 (.br 8 .done .stop) .stop)) (.br 7 (.br 5 (.fl true 6 (.br 8 .done .stop)) .stop) .stop)) (.br 5 (.br 1 (.fl true 6 (.br 7 (.br 8 .done .stop) .stop)) (.br 7 (.br 1 (.fl true 6 (.br 8 .done .stop)) .stop) .stop)) (.br 7 (.br 1 (.br 5 (.fl true 6 (.br 8 .done .stop)) .stop) (.br 5 (.br 1 (.fl true 6 (.br 8 .done .stop)) .stop) .stop)) .stop))) (.br 5 (.br 1 (.br 3 (.fl true 6 (.br 7 (.br 8 .done .stop) .stop)) (.br 7 (.br 3 (.fl true 6 (.br 8 .done .stop)) .stop) .stop)) (.br 3 (.br 1 (.fl true 6 (.br 7 (.br 8 .done .stop) .stop)) (.br 7 (.br 1 (.fl true 6 (.br 8 .done .stop)) .stop) .stop)) (.br 7 (.br 1 (.br 3 (.fl true 6 (.br 8 .done .stop)) .stop) (.br 3 (.br 1 (.fl true 6 (.br 8 .done .stop)) .stop) .stop)) .stop))) (.br 7 (.br 1 (.br 3 (.br 5 (.fl true 6 (.br 8 .done .stop)) .stop) (.br 5 (.br 3 (.fl true 6 (.br 8 .done .stop)) .stop) .stop)) (.br 3 (.br 1 (.br 5 (.fl true 6 (.br 8 .done .stop)) .stop) (.br 5 (.br 1 (.fl true 6 (.br 8 .done .stop)) .stop) .stop)) (.br 5 (.br 1 (.br 3 (.fl true 6 (.br 8 .done .stop)) .stop) (.br 3 (.br 1 (.fl true 6 (.br 8 .done .stop)) .stop) .stop)) .stop))) .stop))))))) [] tMix; kernel_rfl)
      | ((show WL _ _ _ (⟨some 27, .makeSlice _ _ _, _, _, _, _⟩ :: _) _ _ _; apply WL.make (w0 := w) (z := (false)) tOk; exact rfl; exact rfl; exact rfl; exact rfl; exact rfl; exact rfl; exact rfl; exact rfl; exact rfl; exact encB_ok; exact rfl; exact rfl; exact (by (exact extA)); omega; intro gb w' hO hge hx; obtain ⟨g27, rfl⟩ : ∃ x, x = gb := ⟨_, rfl⟩; replace hS := Sep.newRow (Sep.ext hS (by (exact extA))) hx hO (fun k hk => by cases hk; exact hge) (Below.size (show Ext w _ from (by (exact extA))))))
      | ((show WL _ _ _ (⟨some 29, .makeSlice _ _ _, _, _, _, _⟩ :: _) _ _ _; apply WL.make (w0 := w) (z := (false)) tOk; exact rfl; exact rfl; exact rfl; exact rfl; exact rfl; exact rfl; exact rfl; exact rfl; exact rfl; exact encB_ok; exact rfl; exact rfl; exact (by (exact extA)); omega; intro gb w' hO hge hx; obtain ⟨g29, rfl⟩ : ∃ x, x = gb := ⟨_, rfl⟩; replace hS := Sep.newRow (Sep.ext hS (by (exact extA))) hx hO (fun k hk => by cases hk; exact hge) (Below.size (show Ext w _ from (by (exact extA))))))
      | ((show WL _ _ _ (⟨some 31, .makeSlice _ _ _, _, _, _, _⟩ :: _) _ _ _; apply WL.make (w0 := w) (z := (((none, 0, []) : RowV Int))) tOk; exact rfl; exact rfl; exact rfl; exact rfl; exact rfl; exact rfl; exact rfl; exact rfl; exact rfl; exact encRow_ok; exact rfl; exact rfl; exact (by (exact extA)); omega; intro gb w' hO hge hx; obtain ⟨g31, rfl⟩ : ∃ x, x = gb := ⟨_, rfl⟩; replace hS := Sep.newRow (Sep.ext hS (by (exact extA))) hx hO (fun k hk => by cases hk; exact hge) (Below.size (show Ext w _ from (by (exact extA))))))
      | (apply WL.alloc tOk; exact rfl; exact rfl; exact rfl; intro gb w' hb hge hx; (obtain ⟨g7, rfl⟩ : ∃ x, x = gb := ⟨_, rfl⟩; replace hS := Sep.newCell (Sep.ext hS (by (exact extA))) hx hb hge (Below.size (show Ext w _ from (by (exact extA))))))
      | (apply FL.build tOk; exact rfl; exact rfl; exact rfl; exact rfl; exact rfl; exact rfl; exact rfl; kernel_rfl)
      | (show SX _ _ _ _ _ _ _ _ _; first | (apply SX.fl0; exact rfl) | (apply SX.br1; exact rfl; intro w' hx) | (apply SX.br; exact rfl; (intro w' hx)))
      | (show FL _ _ _ _ _ _ _ _; apply FL.nilX)
      | (show FL _ _ _ _ _ _ _ _; (refine FL.au (k := ?_)))
      | (show Z _ _ _ _ _; (apply Z.sxL; exact rfl))
      | (show WL _ _ _ _ _ _ _; apply WL.nil))
    all_goals
      have hS8 := Sep.ext hS (show Ext _ w' from (by (exact extA)))
      have hb7 : CellC g7 (Value.cells (.agg #[.slice none 0 0, .slice none 0 0, .slice none 0 0])) 98 w' := by first | exact hS8.cell (i := 0) rfl | exact hS8.cell (i := 1) rfl | exact hS8.cell (i := 2) rfl | exact hS8.cell (i := 3) rfl
      have hg7 : w.heap.size ≤ g7 := by first | exact (hS8.lt (i := 0) rfl rfl).1 | exact (hS8.lt (i := 1) rfl rfl).1 | exact (hS8.lt (i := 2) rfl rfl).1 | exact (hS8.lt (i := 3) rfl rfl).1
      have hX8 : Ext w w' := (by (exact extA))
      clear hS hx hx2 hb2 hge2
      obtain ⟨w4, rfl⟩ : ∃ x, x = w' := ⟨_, rfl⟩
      repeat' (first
        | (apply WL.storeB (w0 := w) tOk; exact rfl; exact rfl; exact rfl; exact rfl; assumption; (exact extA); exact rfl; exact rfl; exact rfl; (exact extA); (first | assumption | omega | (focus (apply Nat.le_trans; rotate_left; assumption; exact Below.size (by (exact extA)); done))); intro w' hb hc hX' hU; have hcc := hc; obtain ⟨h1, h2, _⟩ := hc; (obtain ⟨w5, rfl⟩ : ∃ x, x = w' := ⟨_, rfl⟩; obtain ⟨hb5, rfl⟩ : ∃ x, x = hb := ⟨_, rfl⟩; obtain ⟨hX5, rfl⟩ : ∃ x, x = hX' := ⟨_, rfl⟩; obtain ⟨hU5, rfl⟩ : ∃ x, x = hU := ⟨_, rfl⟩))
        | (show SX _ _ _ _ _ _ _ _ _; (apply SX.done; intro w' hx))
        | (show Z _ _ _ _ _; (apply Z.sxL; exact rfl))
        | (show WL _ _ _ _ _ _ _; apply WL.nil))
      simp only [List.length_replicate, Int.toNat_natCast] at hb5
      have hb6 : CellC g7 #[.slice (some ⟨g27, 0, none⟩) S S, .slice (some ⟨g29, 0, none⟩) S S, .slice (some ⟨g31, 0, none⟩) S S] 98 w5 := hb5.trans (by kernel_rfl)
      have hS9 := by first | exact Sep.updCell (i := 0) rfl hU5 hb6 hS8 (Ext.refl _) (Below.size hX8) | exact Sep.updCell (i := 1) rfl hU5 hb6 hS8 (Ext.refl _) (Below.size hX8) | exact Sep.updCell (i := 2) rfl hU5 hb6 hS8 (Ext.refl _) (Below.size hX8) | exact Sep.updCell (i := 3) rfl hU5 hb6 hS8 (Ext.refl _) (Below.size hX8)
      have hS10 := Sep.newRow (s := 1) (enc := encB) (el := 4) (a := none) (cap := 0) (l := []) (Sep.newRow (s := 1) (enc := encB) (el := 4) (a := none) (cap := 0) (l := []) hS9 (Ext.refl _) Own.nil (fun k hk => by cases hk) (Below.size hX5)) (Ext.refl _) Own.nil (fun k hk => by cases hk) (Below.size hX5)
      have hS11 : Lt.Sep w.heap.size w5 [pcell g7 #[.slice (some ⟨g27, 0, none⟩) S S, .slice (some ⟨g29, 0, none⟩) S S, .slice (some ⟨g31, 0, none⟩) S S] 98, prow 1 encB 4 w.heap.size (some ⟨g27, 0, none⟩) S (List.replicate S false), prow 1 encB 4 w.heap.size (some ⟨g29, 0, none⟩) S (List.replicate S false), prow 1 encRow 23 w.heap.size (some ⟨g31, 0, none⟩) S (List.replicate S nilR), PG, pB8 w.heap.size (none, 0, []), pB8 w.heap.size (none, 0, [])] := Sep.ofPerm (by repeat' (first | exact List.Perm.refl _ | (refine List.Perm.cons _ ?_) | (refine List.Perm.trans (List.Perm.swap _ _ _) (List.Perm.cons _ ?_)) | (refine List.Perm.trans (List.perm_middle (l₁ := [_, _])) (List.Perm.cons _ ?_)) | (refine List.Perm.trans (List.perm_middle (l₁ := [_, _, _])) (List.Perm.cons _ ?_)) | (refine List.Perm.trans (List.perm_middle (l₁ := [_, _, _, _])) (List.Perm.cons _ ?_)) | (refine List.Perm.trans (List.perm_middle (l₁ := [_, _, _, _, _])) (List.Perm.cons _ ?_)) | (refine List.Perm.trans (List.perm_middle (l₁ := [_, _, _, _, _, _])) (List.Perm.cons _ ?_)))) hS10
      exact Z.cut ((g7, g27, g29, g31), w') ⟨hX5.trans hx, Sep.ext (Sep.nilsZ hS11 S) hx⟩ ⟨rfl, rfl, rfl, rfl, rfl, rfl, trivial⟩ rfl
  rintro ⟨⟨g7, g27, g29, g31⟩, w4⟩ ⟨hX4, hS4⟩
  dsimp only at hX4 hS4 ⊢
  clear hS hx hx2 hb2 hge2 hcm
  obtain ⟨LL, hLL⟩ : ∃ n, n = c.lat.2.2.length := ⟨_, rfl⟩
  obtain ⟨LI, hLI⟩ : ∃ n, n = c.ins.2.2.length := ⟨_, rfl⟩
  repeat' (first
    | (show WL _ _ _ _ _ _ _; first | apply WL.nil | (refine WL.au (k := ?_)))
    | (show Z _ _ _ _ _; apply Z.then_normal)
    | (show W _ _ _ _ _ _; first | apply W.seq | apply W.region | apply W.block))
  refine W.loopW S (fun k w' => k ≤ S ∧ Ext w w' ∧ ∃ rs X Y, Lt.Sep w.heap.size w' (wlP w.heap.size g7 S (some ⟨g27, 0, none⟩) S (tab S (stF c.t k)) (some ⟨g29, 0, none⟩) S (tab S (bdF c.t I k 0)) (some ⟨g31, 0, none⟩) S rs X Y PG) ∧ rs.map (fun r => r.2.2) = tab S (nxF c.t I k 0)) (fun k => [(0, .pointer (some ⟨gm, 0, none⟩)), (1, .int .i64 0), (4, .pointer (some ⟨g4, 0, none⟩)), (5, .int .i64 S), (6, .int .i64 I), (7, .pointer (some ⟨g7, 0, none⟩)), (8, .int .i64 k)]) ⟨Nat.zero_le _, hX4, List.replicate S nilR, (none, 0, []), (none, 0, []), ?_, ?_⟩ (fun k w' h => h.1) ⟨rfl, rfl, rfl, rfl, rfl, rfl, rfl, trivial⟩ ?_
  · have e1 : List.replicate S false = tab S (stF c.t 0) := (tab_rep S false).trans (tab_congr fun u _ => (if_neg (by omega)).symm)
    have e2 : List.replicate S false = tab S (bdF c.t I 0 0) := (tab_rep S false).trans (tab_congr fun u _ => by unfold bdF; rw [if_neg (by omega)]; split <;> rfl)
    rw [← e1, ← e2]
    exact hS4
  · rw [List.map_replicate]
    exact (tab_rep S []).trans (tab_congr fun u _ => by unfold nxF; rw [if_neg (by omega)]; split <;> rfl)
  clear hS4
  rintro k w6 ⟨hk, hX6, rs, X, Y, hS6, hrs⟩
  have hrl : rs.length = S := by have := congrArg List.length hrs; rwa [List.length_map, tab_len] at this
  have hM6 := hM.cells.ext hX6
  by_cases hlt : k < S
  · obtain ⟨y0, y1, y2, y3, y4, y5, y6, y7, y8, _⟩ := hM6
    repeat' (first
      | (show WL _ _ _ _ _ _ _; first | apply WL.nil | (refine WL.au (k := ?_)))
      | (show Z _ _ _ _ _; apply Z.then_normal)
      | (show W _ _ _ _ _ _; first | apply W.seq | apply W.region))
    refine W.condKT rfl (dec_true (by omega)) ?_
    repeat' (first
      | (apply WL.nilc; exact rfl; exact rfl; exact rfl)
      | (((show WL _ _ _ (⟨_, .call ⟨.value (.func 135), _, _⟩, _, _, _, _⟩ :: _) _ _ _); apply WL.call; exact rfl; exact rfl; exact rfl; exact rfl; exact ref17_bits k c.lat.2.2.length w6 (by omega) (by omega); rintro v' w7 ⟨hx7, aX, cX, rfl, hOX⟩))
      | (show WL _ _ _ _ _ _ _; first | apply WL.nil | (refine WL.au (k := ?_)))
      | (show Z _ _ _ _ _; apply Z.then_normal)
      | (show W _ _ _ _ _ _; first | apply W.seq | apply W.region | apply W.block | apply W.skip))
    have hS7 : Lt.Sep w.heap.size w7 (wlP w.heap.size g7 S (some ⟨g27, 0, none⟩) S (tab S (stF c.t k)) (some ⟨g29, 0, none⟩) S (tab S (bdF c.t I k 0)) (some ⟨g31, 0, none⟩) S rs (aX, cX, bitsL k c.lat.2.2.length) Y PG) := Sep.putAt 5 (Sep.newRow' hS6 hx7 hOX (Below.size hX6))
    have hX7 : Ext w w7 := hX6.trans hx7
    have hM7 := hM.ext hX7
    have RX := (hS7.row (i := 5) rfl).row encB_ok
    have hC7 := hS7.cell (i := 0) rfl
    have hOS := hS7.row (i := 1) rfl
    obtain ⟨n0, n1, n2, _⟩ := cells_heap hC7
    clear y0 y1 y2 y3 y4 y5 y6 y7 y8 hS6 hOX
    have hst7 := fun (w9 : World) (h9 : Ext w7 w9) => ref17_Starts gm c rn ra aX cX (bitsL k c.lat.2.2.length) w9 (hM7.ext h9) (RX.ext h9)
    have hgS : (tab S (stF c.t k))[((k : Nat) : Int).toNat]? = some (stF c.t k k) := by rw [Int.toNat_natCast]; exact tab_get _ hlt
    have hlS : (tab S (stF c.t k)).length = S := tab_len _ _
    repeat' (first
      | (show W _ _ (.region 7 _ _) _ _ _; apply W.regionG (.fl true 0 (.fl true 2 (.fl true 3 (.fl true 4 (.fl false 1 (.fl false 5 (.br 6 (.br 7 .done .stop) .stop))))))) [5] (Ext w7) tMix; kernel_rfl)
      | (apply SG.flS; exact rfl; (focus ((intro m; first | assumption | (apply Ext.at; (exact extA)) | apply But.of_at; first | exact But.upd (by assumption) | exact But.ext (by (exact extA)) | (refine But.trans ?_ (But.upd (by assumption)); exact But.ext (by (exact extA))) | exact But.at _ _ _); done)); exact rfl; exact rfl; exact rfl; exact rfl; (focus (intro w9 hw9; exact ref17_Starts gm c rn ra aX cX (bitsL k c.lat.2.2.length) _ (hM7.ext (by (exact extA))) (RX.ext (by (exact extA))))))
      | (apply WL.indexO tOk; exact rfl; exact rfl; exact rfl; exact rfl; exact rfl; exact rfl; exact rfl; exact rfl; assumption; (exact extA); exact encB_ok; (first | exact rfl | (focus (simp only [List.length_set]; done)) | (focus (simp; done)) | (focus (simp [*]; done)) | omega | (focus (simp only [List.length_set]; omega))); omega; assumption; intro gb ha hc; cases ha; have hcc := hc; first | (obtain ⟨h1, h2, h3, _⟩ := hc) | (obtain ⟨h1, h2, _⟩ := hc) | (obtain ⟨h1, _⟩ := hc))
      | (apply WL.storeO (z' := (dec (StartsP c.t (bitsL k c.lat.2.2.length)))) tOk; exact rfl; exact rfl; exact rfl; exact rfl; assumption; (exact extA); exact rfl; exact rfl; exact rfl; exact encB_ok; assumption; exact rfl; (exact extA); intro w' hO hX' hU)
      | (show WL _ _ _ _ _ _ _; first | apply WL.nil | (refine WL.au (k := ?_)))
      | (show SG _ _ _ _ _ _ _ _ _; first | apply SG.done | (apply SG.fl0; exact rfl) | (apply SG.fl1; exact rfl; (focus ((intro m; first | assumption | (apply Ext.at; (exact extA)) | apply But.of_at; first | exact But.upd (by assumption) | exact But.ext (by (exact extA)) | (refine But.trans ?_ (But.upd (by assumption)); exact But.ext (by (exact extA))) | exact But.at _ _ _); done))) | (apply SG.br1; exact rfl))
      | (show FL _ _ _ _ _ _ _ _; (apply FL.loadE tOk; exact rfl; exact rfl; exact rfl; exact rfl; exact rfl; assumption))
      | (show FL _ _ _ _ _ _ _ _; first | apply FL.nilS | (refine FL.au (k := ?_)))
      | (show Z _ _ _ _ _; (apply Z.sgL; exact rfl))
      | (show Z _ _ _ _ _; apply Z.then_normal)
      | (show W _ _ _ _ _ _; first | apply W.seq | apply W.region | apply W.block))
    have hX8 : Ext w w' := (by (exact extA))
    have eS : (tab S (stF c.t k)).set ((k : Nat) : Int).toNat (dec (StartsP c.t (bitsL k c.lat.2.2.length))) = tab S (stF c.t (k + 1)) := by rw [Int.toNat_natCast]; exact tab_set fun u _ => stF_s c.t k u
    rw [eS] at hO
    have hS8 : Lt.Sep w.heap.size w' (wlP w.heap.size g7 S (some ⟨g27, 0, none⟩) S (tab S (stF c.t (k + 1))) (some ⟨g29, 0, none⟩) S (tab S (bdF c.t I k 0)) (some ⟨g31, 0, none⟩) S rs (aX, cX, bitsL k c.lat.2.2.length) Y PG) := Sep.updRow (i := 1) rfl hU hO (.inl rfl) hS7 (by (exact extA)) (Below.size hX7)
    refine W.loopW I (fun i w' => i ≤ I ∧ Ext w w' ∧ ∃ rs Y, Lt.Sep w.heap.size w' (wlP w.heap.size g7 S (some ⟨g27, 0, none⟩) S (tab S (stF c.t (k + 1))) (some ⟨g29, 0, none⟩) S (tab S (bdF c.t I k i)) (some ⟨g31, 0, none⟩) S rs (aX, cX, bitsL k c.lat.2.2.length) Y PG) ∧ rs.map (fun r => r.2.2) = tab S (nxF c.t I k i)) (fun i => [(0, .pointer (some ⟨gm, 0, none⟩)), (1, .int .i64 0), (4, .pointer (some ⟨g4, 0, none⟩)), (5, .int .i64 S), (6, .int .i64 I), (7, .pointer (some ⟨g7, 0, none⟩)), (8, .int .i64 k), (9, .slice aX (bitsL k c.lat.2.2.length).length cX), (10, .int .i64 i)]) ⟨Nat.zero_le _, hX8, rs, Y, hS8, hrs⟩ (fun k w' h => h.1) ⟨rfl, rfl, rfl, rfl, rfl, rfl, rfl, rfl, rfl, trivial⟩ ?_
    clear hS8 hO hU hS7 hX8 hst7 hgS hlS RX hC7 hOS n0 n1 n2 hM7 hrs hrl
    rintro i w8 ⟨hik, hX8, rs, Y, hS8, hrs⟩
    have hrl : rs.length = S := by have := congrArg List.length hrs; rwa [List.length_map, tab_len] at this
    have hM8 := hM.ext hX8
    by_cases hil : i < I
    · obtain ⟨y0, y1, y2, y3, y4, y5, y6, y7, y8, _⟩ := hM8.cells
      repeat' (first
        | (show WL _ _ _ _ _ _ _; first | apply WL.nil | (refine WL.au (k := ?_)))
        | (show Z _ _ _ _ _; apply Z.then_normal)
        | (show W _ _ _ _ _ _; first | apply W.seq | apply W.region))
      refine W.condKT rfl (dec_true (by omega)) ?_
      repeat' (first
        | (apply WL.nilc; exact rfl; exact rfl; exact rfl)
        | (((show WL _ _ _ (⟨_, .call ⟨.value (.func 135), _, _⟩, _, _, _, _⟩ :: _) _ _ _); apply WL.call; exact rfl; exact rfl; exact rfl; exact rfl; exact ref17_bits i c.ins.2.2.length w8 (by omega) (by omega); rintro v' w9 ⟨hx9, aY, cY, rfl, hOY⟩; have hX9 : Ext w w9 := hX8.trans hx9; have hS9 : Lt.Sep w.heap.size w9 (wlP w.heap.size g7 S (some ⟨g27, 0, none⟩) S (tab S (stF c.t (k + 1))) (some ⟨g29, 0, none⟩) S (tab S (bdF c.t I k i)) (some ⟨g31, 0, none⟩) S rs (aX, cX, bitsL k c.lat.2.2.length) (aY, cY, bitsL i c.ins.2.2.length) PG) := Sep.putAt 6 (Sep.newRow' hS8 hx9 hOY (Below.size hX8)); have RX9 := (hS9.row (i := 5) rfl).row encB_ok; have RY9 := (hS9.row (i := 6) rfl).row encB_ok))
        | (((show WL _ _ _ (⟨_, .call ⟨.value (.func 72), _, _⟩, _, _, _, _⟩ :: _) _ _ _); apply WL.callP; exact rfl; exact rfl; exact rfl; exact rfl; exact ref17_Holds gm c rn ra aX aY cX cY (bitsL k c.lat.2.2.length) (bitsL i c.ins.2.2.length) _ (hM.ext (hX9.trans (by (exact extA)))) (RX9.ext (by (exact extA))) (RY9.ext (by (exact extA))); intro w10 hx10))
        | (show WL _ _ _ _ _ _ _; first | apply WL.nil | (refine WL.au (k := ?_)))
        | (show Z _ _ _ _ _; apply Z.then_normal)
        | (show W _ _ _ _ _ _; first | apply W.seq | apply W.region | apply W.block | apply W.skip))
      have hh : dec (HoldsP c.t (bitsL k c.lat.2.2.length) (bitsL i c.ins.2.2.length)) = true := dec_true fun l hl => by
        have : l ∈ c.cons.2.2 := hl
        rw [hc] at this; cases this
      refine W.condKF rfl (by rw [hh]; rfl) ?_
      have hX10 : Ext w w10 := hX9.trans hx10
      have hS10 := hS9.ext hx10
      have hM10 := hM.ext hX10
      have RX10 := RX9.ext hx10
      have RY10 := RY9.ext hx10
      clear hS9 RX9 RY9 hX9 hx10 hS8 hX8 hM8 y0 y1 y2 y3 y4 y5 y6 y7 y8
      have hgB : (tab S (bdF c.t I k i))[((k : Nat) : Int).toNat]? = some (anyTo (bI c.t k) i) := by
        rw [Int.toNat_natCast, tab_get _ hlt]; unfold bdF; rw [if_neg (by omega), if_pos rfl]
      have hlB : (tab S (bdF c.t I k i)).length = S := tab_len _ _
      repeat' (first
        | (show Z _ _ _ _ _; apply Z.then_normal)
        | (show W _ _ _ _ _ _; first | apply W.seq | apply W.skip))
      refine W.cutT (σ := World) (fun w' => Ext w w' ∧ Lt.Sep w.heap.size w' (wlP w.heap.size g7 S (some ⟨g27, 0, none⟩) S (tab S (stF c.t (k + 1))) (some ⟨g29, 0, none⟩) S (tab S (bdF c.t I k (i + 1))) (some ⟨g31, 0, none⟩) S rs (aX, cX, bitsL k c.lat.2.2.length) (aY, cY, bitsL i c.ins.2.2.length) PG)) (fun _ => [(0, .pointer (some ⟨gm, 0, none⟩)), (1, .int .i64 0), (4, .pointer (some ⟨g4, 0, none⟩)), (5, .int .i64 S), (6, .int .i64 I), (7, .pointer (some ⟨g7, 0, none⟩)), (8, .int .i64 k), (9, .slice aX (bitsL k c.lat.2.2.length).length cX), (10, .int .i64 i), (11, .slice aY (bitsL i c.ins.2.2.length).length cY)]) (fun w' => w') ?_ ?_
      · have hC10 := hS10.cell (i := 0) rfl
        have hOB := hS10.row (i := 2) rfl
        obtain ⟨n0, n1, n2, _⟩ := cells_heap hC10
        cases hz : anyTo (bI c.t k) i with
        | true =>
          rw [hz] at hgB
          have eB : (tab S (bdF c.t I k i)).set ((k : Nat) : Int).toNat true = tab S (bdF c.t I k (i + 1)) := by rw [Int.toNat_natCast]; exact tab_set fun u _ => by rw [bdF_s, hz]; rfl
          repeat' (first
            | (show W _ _ (.region 13 _ _) _ _ _; apply W.regionG (.fl true 0 (.fl true 2 (.fl true 3 (.fl true 5 (.fl false 1 (.fl false 4 (.fl true 6 (.fl false 7 (.fl true 8 (.fl true 9 (.fl true 10 (.fl true 11 (.fl true 12 (.br 13 (.fl true 14 (.br 15 (.br 16 .done .stop) .stop)) .stop)))))))))))))) [4, 6, 7, 8, 9, 10, 11, 12, 13, 14] (Ext w10) tMix; kernel_rfl)
            | (apply WL.indexO tOk; exact rfl; exact rfl; exact rfl; exact rfl; exact rfl; exact rfl; exact rfl; exact rfl; assumption; (exact extA); exact encB_ok; (first | exact rfl | (focus (simp only [List.length_set]; done)) | (focus (simp; done)) | (focus (simp [*]; done)) | omega | (focus (simp only [List.length_set]; omega))); omega; assumption; intro gb ha hc; cases ha; have hcc := hc; first | (obtain ⟨h1, h2, h3, _⟩ := hc) | (obtain ⟨h1, h2, _⟩ := hc) | (obtain ⟨h1, _⟩ := hc))
            | (apply FL.indexO tOk; exact rfl; exact rfl; exact rfl; exact rfl; exact rfl; exact rfl; exact rfl; exact rfl; assumption; (exact extA); exact encB_ok; (first | exact rfl | (focus (simp only [List.length_set]; done)) | (focus (simp; done)) | (focus (simp [*]; done)) | omega | (focus (simp only [List.length_set]; omega))); omega; assumption; intro gb ha hc; cases ha; have hcc := hc; first | (obtain ⟨h1, h2, h3, _⟩ := hc) | (obtain ⟨h1, h2, _⟩ := hc) | (obtain ⟨h1, _⟩ := hc))
            | (apply WL.storeO (z' := (true)) tOk; exact rfl; exact rfl; exact rfl; exact rfl; assumption; (exact extA); exact rfl; exact rfl; exact rfl; exact encB_ok; assumption; exact rfl; (exact extA); intro w' hO hX' hU; (obtain ⟨w11, rfl⟩ : ∃ x, x = w' := ⟨_, rfl⟩; obtain ⟨hX11, rfl⟩ : ∃ x, x = hX' := ⟨_, rfl⟩))
            | (show WL _ _ _ _ _ _ _; first | apply WL.nil | (apply WL.guardF; exact rfl; exact rfl))
            | (show SG _ _ _ _ _ _ _ _ _; first | apply SG.done | (apply SG.fl0; exact rfl) | (apply SG.fl1; exact rfl; (focus ((intro m; first | assumption | (apply Ext.at; (exact extA)) | apply But.of_at; first | exact But.upd (by assumption) | exact But.ext (by (exact extA)) | (refine But.trans ?_ (But.upd (by assumption)); exact But.ext (by (exact extA))) | exact But.at _ _ _); done))) | (apply SG.br1; exact rfl))
            | (show FL _ _ _ _ _ _ _ _; (apply FL.loadE tOk; exact rfl; exact rfl; exact rfl; exact rfl; exact rfl; assumption))
            | (show FL _ _ _ _ _ _ _ _; first | apply FL.nilS | (refine FL.au (k := ?_)) | (apply FL.guardF; exact rfl; exact rfl))
            | (show Z _ _ _ _ _; first | (apply Z.sgL; exact rfl) | (apply Z.sgE; (focus ((intro m; first | assumption | (apply Ext.at; (exact extA)) | apply But.of_at; first | exact But.upd (by assumption) | exact But.ext (by (exact extA)) | (refine But.trans ?_ (But.upd (by assumption)); exact But.ext (by (exact extA))) | exact But.at _ _ _); done)))))
          all_goals
            rw [eB] at hO
            exact Z.cut w11 ⟨hX11, Sep.updRow (i := 2) rfl hU hO (.inl rfl) hS10 (by (exact extA)) (Below.size (hX10.trans (show Ext w10 _ from (by (exact extA)))))⟩ ⟨rfl, rfl, rfl, rfl, rfl, rfl, rfl, rfl, rfl, rfl, trivial⟩ rfl
        | false =>
          rw [hz] at hgB
          have eB : (tab S (bdF c.t I k i)).set ((k : Nat) : Int).toNat (dec (BadP c.t (bitsL k c.lat.2.2.length) (bitsL i c.ins.2.2.length) 0)) = tab S (bdF c.t I k (i + 1)) := by rw [Int.toNat_natCast]; exact tab_set fun u _ => by rw [bdF_s, hz]; rfl
          repeat' (first
            | (show W _ _ (.region 13 _ _) _ _ _; apply W.regionG (.fl true 0 (.fl true 2 (.fl true 3 (.fl true 5 (.fl false 1 (.fl false 4 (.fl true 6 (.fl false 7 (.fl true 8 (.fl true 9 (.fl true 10 (.fl true 11 (.fl true 12 (.br 13 (.fl true 14 (.br 15 (.br 16 .done .stop) .stop)) .stop)))))))))))))) [4, 6, 7, 8, 9, 10, 11, 12, 13, 14] (Ext w10) tMix; kernel_rfl)
            | (apply WL.indexO tOk; exact rfl; exact rfl; exact rfl; exact rfl; exact rfl; exact rfl; exact rfl; exact rfl; assumption; (exact extA); exact encB_ok; (first | exact rfl | (focus (simp only [List.length_set]; done)) | (focus (simp; done)) | (focus (simp [*]; done)) | omega | (focus (simp only [List.length_set]; omega))); omega; assumption; intro gb ha hc; cases ha; have hcc := hc; first | (obtain ⟨h1, h2, h3, _⟩ := hc) | (obtain ⟨h1, h2, _⟩ := hc) | (obtain ⟨h1, _⟩ := hc))
            | (apply FL.indexO tOk; exact rfl; exact rfl; exact rfl; exact rfl; exact rfl; exact rfl; exact rfl; exact rfl; assumption; (exact extA); exact encB_ok; (first | exact rfl | (focus (simp only [List.length_set]; done)) | (focus (simp; done)) | (focus (simp [*]; done)) | omega | (focus (simp only [List.length_set]; omega))); omega; assumption; intro gb ha hc; cases ha; have hcc := hc; first | (obtain ⟨h1, h2, h3, _⟩ := hc) | (obtain ⟨h1, h2, _⟩ := hc) | (obtain ⟨h1, _⟩ := hc))
            | (((show WL _ _ _ (⟨_, .call ⟨.value (.func 70), _, _⟩, _, _, _, _⟩ :: _) _ _ _); apply WL.callP; exact rfl; exact rfl; exact rfl; exact rfl; exact ref17_Bad gm c rn ra aX aY cX cY (bitsL k c.lat.2.2.length) (bitsL i c.ins.2.2.length) 0 _ (hM10.ext (by (exact extA))) (RX10.ext (by (exact extA))) (RY10.ext (by (exact extA))); intro w9 hx9))
            | (apply WL.storeO (z' := (dec (BadP c.t (bitsL k c.lat.2.2.length) (bitsL i c.ins.2.2.length) 0))) tOk; exact rfl; exact rfl; exact rfl; exact rfl; assumption; (exact extA); exact rfl; exact rfl; exact rfl; exact encB_ok; assumption; exact rfl; (exact extA); intro w' hO hX' hU; (obtain ⟨w11, rfl⟩ : ∃ x, x = w' := ⟨_, rfl⟩; obtain ⟨hX11, rfl⟩ : ∃ x, x = hX' := ⟨_, rfl⟩))
            | (show WL _ _ _ _ _ _ _; apply WL.nil)
            | (show SG _ _ _ _ _ _ _ _ _; first | apply SG.done | (apply SG.fl0; exact rfl) | (apply SG.fl1; exact rfl; (focus ((intro m; first | assumption | (apply Ext.at; (exact extA)) | apply But.of_at; first | exact But.upd (by assumption) | exact But.ext (by (exact extA)) | (refine But.trans ?_ (But.upd (by assumption)); exact But.ext (by (exact extA))) | exact But.at _ _ _); done))) | (apply SG.br1; exact rfl))
            | (show FL _ _ _ _ _ _ _ _; (apply FL.loadE tOk; exact rfl; exact rfl; exact rfl; exact rfl; exact rfl; assumption))
            | (show FL _ _ _ _ _ _ _ _; first | apply FL.nilS | (refine FL.au (k := ?_)))
            | (show Z _ _ _ _ _; first | (apply Z.sgL; exact rfl) | (apply Z.sgE; (focus ((intro m; first | assumption | (apply Ext.at; (exact extA)) | apply But.of_at; first | exact But.upd (by assumption) | exact But.ext (by (exact extA)) | (refine But.trans ?_ (But.upd (by assumption)); exact But.ext (by (exact extA))) | exact But.at _ _ _); done)))))
          all_goals
            rw [eB] at hO
            exact Z.cut w11 ⟨hX11, Sep.updRow (i := 2) rfl hU hO (.inl rfl) hS10 (by (exact extA)) (Below.size (hX10.trans (show Ext w10 _ from (by (exact extA)))))⟩ ⟨rfl, rfl, rfl, rfl, rfl, rfl, rfl, rfl, rfl, rfl, trivial⟩ rfl
      clear hS10 hX10 hM10 RX10 RY10 hgB hlB
      rintro w10 ⟨hX10, hS10⟩
      have hM10 := hM.ext hX10
      have RX10 := (hS10.row (i := 5) rfl).row encB_ok
      have RY10 := (hS10.row (i := 6) rfl).row encB_ok
      have hC10 := hS10.cell (i := 0) rfl
      have hON := hS10.row (i := 3) rfl
      obtain ⟨n0, n1, n2, _⟩ := cells_heap hC10
      obtain ⟨r, hr⟩ := getI rs (show k < rs.length by omega)
      have hrk : rs[((k : Nat) : Int).toNat]? = some r := by rw [Int.toNat_natCast]; exact hr
      have hrv : r.2.2 = tab i (nI c.t k) := by
        have h1 : (rs.map (fun r => r.2.2))[k]? = some r.2.2 := by rw [List.getElem?_map, hr]; rfl
        rw [hrs, tab_get _ hlt] at h1
        have := Option.some.inj h1
        rw [← this]; unfold nxF; rw [if_neg (by omega), if_pos rfl]
      have hrl2 : r.2.2.length ≤ 4 := by rw [hrv, tab_len]; omega
      have hIn := hS10.row (wl_in hr)
      have hnl : (nextV c.t (bitsL k c.lat.2.2.length) (bitsL i c.ins.2.2.length)).length ≤ 20 := by
        rw [nextV_len]
        have : c.t.lat.length = c.lat.2.2.length := rfl
        omega
      obtain ⟨nv, hnv⟩ : ∃ nv, nextV c.t (bitsL k c.lat.2.2.length) (bitsL i c.ins.2.2.length) = nv := ⟨_, rfl⟩
      have hnI : nI c.t k i = (numB nv : Nat) := by rw [← hnv]; rfl
      have hNx := fun (w9 : World) (h9 : Ext w10 w9) => ref17_Next gm c rn ra aX aY cX cY (bitsL k c.lat.2.2.length) (bitsL i c.ins.2.2.length) w9 (hM10.ext h9) (RX10.ext h9) (RY10.ext h9)
      rw [hnv] at hnl hNx
      repeat' (first
        | (show W _ _ (.region 14 _ _) _ _ _; apply W.regionG (.fl true 0 (.fl true 2 (.fl true 3 (.fl true 5 (.fl true 8 (.fl true 9 (.fl true 10 (.fl false 1 (.fl false 4 (.br 6 (.br 7 (.br 11 (.br 12 (.br 13 (.br 14 (.br 15 (.br 16 .done .stop) .stop) .stop) .stop) .stop) .stop) (.br 11 (.br 7 (.br 12 (.br 13 (.br 14 (.br 15 (.br 16 .done .stop) .stop) .stop) .stop) .stop) (.br 12 (.br 7 (.br 13 (.br 14 (.br 15 (.br 16 .done .stop) .stop) .stop) .stop) (.br 13 (.br 7 (.br 14 (.br 15 (.br 16 .done .stop) .stop) .stop) .stop) .stop)) .stop)) .stop)) (.br 11 (.br 6 (.br 7 (.br 12 (.br 13 (.br 14 (.br 15 (.br 16 .done .stop) .stop) .stop) .stop) .stop) (.br 12 (.br 7 (.br 13 (.br 14 (.br 15 (.br 16 .done .stop) .stop) .stop) .stop) (.br 13 (.br 7 (.br 14 (.br 15 (.br 16 .done .stop) .stop) .stop) .stop) .stop)) .stop)) (.br 12 (.br 6 (.br 7 (.br 13 (.br 14 (.br 15 (.br 16 .done .stop) .stop) .stop) .stop) (.br 13 (.br 7 (.br 14 (.br 15 (.br 16 .done .stop) .stop) .stop) .stop) .stop)) (.br 13 (.br 6 (.br 7 (.br 14 (.br 15 (.br 16 .done .stop) .stop) .stop) .stop) .stop) .stop)) .stop)) .stop))))))))))) [4, 6, 7, 11, 12, 13, 14] (CellC g7 #[.slice (some ⟨g27, 0, none⟩) S S, .slice (some ⟨g29, 0, none⟩) S S, .slice (some ⟨g31, 0, none⟩) S S] 98) tMix; kernel_rfl)
        | (apply WL.indexO tOk; exact rfl; exact rfl; exact rfl; exact rfl; exact rfl; exact rfl; exact rfl; exact rfl; assumption; (exact extA); exact encRow_ok; (first | exact rfl | (focus (simp only [List.length_set]; done)) | (focus (simp; done)) | (focus (simp [*]; done)) | omega | (focus (simp only [List.length_set]; omega))); omega; assumption; intro gb ha hc; cases ha; have hcc := hc; first | (obtain ⟨h1, h2, h3, _⟩ := hc) | (obtain ⟨h1, h2, _⟩ := hc) | (obtain ⟨h1, _⟩ := hc))
        | (apply WL.call; exact rfl; exact rfl; exact rfl; exact rfl; exact hNx _ (by (exact extA)); rintro v' w' ⟨hx, a', cap', rfl, hO⟩; (obtain ⟨wN, rfl⟩ : ∃ x, x = w' := ⟨_, rfl⟩; obtain ⟨aN, rfl⟩ : ∃ x, x = a' := ⟨_, rfl⟩; obtain ⟨cN, rfl⟩ : ∃ x, x = cap' := ⟨_, rfl⟩; obtain ⟨hOn, rfl⟩ : ∃ x, x = hO := ⟨_, rfl⟩; obtain ⟨hxn, rfl⟩ : ∃ x, x = hx := ⟨_, rfl⟩; have hCN := Ext.heap (show Ext w10 wN from (by (exact extA))) hC10))
        | ((show WL _ _ _ (⟨_, .call ⟨.value (.func 136), _, _⟩, _, _, _, _⟩ :: _) _ _ _); apply WL.callS; exact rfl; exact rfl; exact rfl; exact rfl; exact ref17_number aN cN nv _ ((hOn.row encB_ok).ext (by (exact extA))) hnl)
        | (apply WL.lit tOk; exact rfl; exact rfl; exact rfl; exact rfl; exact rfl; exact rfl; (first | exact rfl | kernel_rfl | (simp [Instr.fill, catCells]; done)); exact rfl; intro gb w' hb hge hc hx; (obtain ⟨wL, rfl⟩ : ∃ x, x = w' := ⟨_, rfl⟩; have hCL := Ext.heap (show Ext w10 wL from (by (exact extA))) hC10))
        | (apply WL.append1 (z := (((numB nv : Nat) : Int))) tOk encI_ok; exact rfl; exact rfl; exact rfl; exact rfl; exact rfl; exact rfl; exact rfl; exact rfl; exact rfl; exact rfl; assumption; (exact extA); (first | exact rfl | (focus (simp only [List.length_set]; done)) | (focus (simp; done)) | (focus (simp [*]; done)) | omega | (focus (simp only [List.length_set]; omega))); (first | assumption | (refine Cells.ext ?_ (by assumption); exact extA)); exact rfl; exact rfl; (exact extA); (first | omega | (simp; omega) | (simp at *; omega)); intro a' cap' w' hO hX' hU hF; (obtain ⟨a2, rfl⟩ : ∃ x, x = a' := ⟨_, rfl⟩; obtain ⟨cp2, rfl⟩ : ∃ x, x = cap' := ⟨_, rfl⟩; obtain ⟨w12, rfl⟩ : ∃ x, x = w' := ⟨_, rfl⟩; have hS12 := Sep.updRow (wl_in hr) hU hO hF hS10 (by (exact extA)) (Below.size (hX10.trans (show Ext w10 _ from (by (exact extA))))); rw [show prow 1 encI 3 w.heap.size a2 cp2 (r.2.2 ++ [((numB nv : Nat) : Int)]) = pI w.heap.size (a2, cp2, r.2.2 ++ [((numB nv : Nat) : Int)]) from rfl, wl_set] at hS12; have hC12 := hS12.cell (i := 0) rfl; have hON2 := hS12.row (i := 3) rfl))
        | (apply WL.storeO (z' := (((a2, cp2, r.2.2 ++ [((numB nv : Nat) : Int)]) : RowV Int))) tOk; exact rfl; exact rfl; exact rfl; exact rfl; assumption; (exact extA); exact rfl; exact rfl; exact rfl; exact encRow_ok; assumption; exact rfl; (exact extA); intro w' hO hX' hU; (obtain ⟨w13, rfl⟩ : ∃ x, x = w' := ⟨_, rfl⟩; obtain ⟨hX13, rfl⟩ : ∃ x, x = hX' := ⟨_, rfl⟩))
        | (show WL _ _ _ _ _ _ _; first | apply WL.nil | (refine WL.au (k := ?_)))
        | (show SG _ _ _ _ _ _ _ _ _; first | apply SG.done | (apply SG.fl0; exact rfl) | (apply SG.fl1; exact rfl; (focus ((intro m; first | assumption | (apply Ext.at; (exact extA)) | apply But.of_at; first | exact But.upd (by assumption) | exact But.ext (by (exact extA)) | (refine But.trans ?_ (But.upd (by assumption)); exact But.ext (by (exact extA))) | exact But.at _ _ _); done))) | (apply SG.br1; exact rfl) | (apply SG.br; exact rfl))
        | (show FL _ _ _ _ _ _ _ _; (apply FL.loadC tOk; exact rfl; exact rfl; exact rfl; exact rfl; exact rfl; exact rfl))
        | (show FL _ _ _ _ _ _ _ _; first | apply FL.nilS | (refine FL.au (k := ?_)))
        | (show Z _ _ _ _ _; first | (apply Z.sgL; exact rfl) | (apply Z.sgE; (focus ((intro m; first | assumption | (apply Ext.at; (exact extA)) | apply But.of_at; first | exact But.upd (by assumption) | exact But.ext (by (exact extA)) | (refine But.trans ?_ (But.upd (by assumption)); exact But.ext (by (exact extA))) | exact But.at _ _ _); done))))
        | (show Z _ _ _ _ _; first | apply Z.then_normal | apply Z.block_normal)
        | (show W _ _ _ _ _ _; apply W.region))
      all_goals
        have hS13 := Sep.updRow (i := 3) rfl hU hO (.inl rfl) hS12 (by (exact extA)) (Below.size (show Ext w w12 from (by (exact extA))))
        rw [Int.toNat_natCast] at hS13
        have hmap : (rs.set k ((a2, cp2, r.2.2 ++ [((numB nv : Nat) : Int)]) : RowV Int)).map (fun r => r.2.2) = tab S (nxF c.t I k (i + 1)) := by
          rw [List.map_set, hrs]
          exact tab_set fun u _ => by rw [nxF_s, hrv, hnI]
        exact Z.againW ⟨by omega, hX13, _, _, hS13, hmap⟩ ⟨rfl, rfl, rfl, rfl, rfl, rfl, rfl, rfl, rfl, trivial⟩
    obtain rfl : i = I := by omega
    repeat' (first
      | (show WL _ _ _ _ _ _ _; first | apply WL.nil | (refine WL.au (k := ?_)))
      | (show Z _ _ _ _ _; apply Z.then_normal)
      | (show W _ _ _ _ _ _; first | apply W.seq | apply W.region))
    refine W.condKF rfl (dec_false (by omega)) ?_
    repeat' (first
      | (show WL _ _ _ _ _ _ _; first | apply WL.nil | (refine WL.au (k := ?_)))
      | (show Z _ _ _ _ _; first | apply Z.then_normal | apply Z.block_normal | apply Z.then_exit | apply Z.block_exit)
      | (show W _ _ _ _ _ _; first | apply W.region | apply W.exit))
    have e2 : tab S (bdF c.t i (k + 1) 0) = tab S (bdF c.t i k i) := tab_congr fun u _ => bdF_next c.t i k u
    have e3 : tab S (nxF c.t i (k + 1) 0) = tab S (nxF c.t i k i) := tab_congr fun u _ => nxF_next c.t i k u
    exact Z.againW ⟨by omega, hX8, rs, _, Y, by rw [e2]; exact hS8, by rw [e3]; exact hrs⟩ ⟨rfl, rfl, rfl, rfl, rfl, rfl, rfl, trivial⟩
  obtain rfl : k = S := by omega
  have hC6 := hS6.cell (i := 0) rfl
  have hC4 : CellC g4 (Value.cells (.agg #[.slice none 0 0, .slice none 0 0, .slice none 0 0])) 98 w6 := by
    rw [← hzC]
    exact hS6.cell (i := 4) (by show some PG = _; rw [hPG])
  have hg4 : w.heap.size ≤ g4 := (hS6.lt (i := 4) (show _ = some PG from rfl) (by rw [hPG]; rfl)).1
  have hc6 := cells_heap hC6
  have eS : tab k (stF c.t k) = tab k (fS c.t) := tab_congr fun u hu => if_pos hu
  have eB : tab k (bdF c.t I k 0) = tab k (fun s => anyTo (bI c.t s) I) := tab_congr fun u hu => if_pos hu
  have eN : tab k (nxF c.t I k 0) = tab k (fun s => tab I (nI c.t s)) := tab_congr fun u hu => if_pos hu
  repeat' (first
    | (show WL _ _ _ _ _ _ _; first | apply WL.nil | (refine WL.au (k := ?_)))
    | (show Z _ _ _ _ _; apply Z.then_normal)
    | (show W _ _ _ _ _ _; first | apply W.seq | apply W.region))
  refine W.condKF rfl (dec_false (by omega)) ?_
  repeat' (first
    | (apply WL.storeB (w0 := w) tOk; exact rfl; exact rfl; exact rfl; exact rfl; assumption; (exact extA); exact rfl; exact rfl; exact rfl; (exact extA); (first | assumption | omega | (focus (apply Nat.le_trans; rotate_left; assumption; exact Below.size (by (exact extA)); done))); intro w' hb hc hX' hU; have hcc := hc; obtain ⟨h1, h2, _⟩ := hc; (obtain ⟨w9, rfl⟩ : ∃ x, x = w' := ⟨_, rfl⟩; obtain ⟨hb9, rfl⟩ : ∃ x, x = hb := ⟨_, rfl⟩; obtain ⟨hX9, rfl⟩ : ∃ x, x = hX' := ⟨_, rfl⟩))
    | (show WL _ _ _ _ _ _ _; first | apply WL.nil | (refine WL.au (k := ?_)))
    | (show Z _ _ _ _ _; first | apply Z.then_normal | apply Z.then_exit | apply Z.block_exit)
    | (show W _ _ _ _ _ _; first | apply W.seq | apply W.region | apply W.ret | apply W.exit))
  have hb9' : CellC g4 #[.slice (some ⟨g27, 0, none⟩) k k, .slice (some ⟨g29, 0, none⟩) k k, .slice (some ⟨g31, 0, none⟩) k k] 98 w9 := hb9
  have hS9 : Lt.Sep w.heap.size w9 (wlP w.heap.size g7 k (some ⟨g27, 0, none⟩) k (tab k (stF c.t k)) (some ⟨g29, 0, none⟩) k (tab k (bdF c.t I k 0)) (some ⟨g31, 0, none⟩) k rs X Y (pcell g4 #[.slice (some ⟨g27, 0, none⟩) k k, .slice (some ⟨g29, 0, none⟩) k k, .slice (some ⟨g31, 0, none⟩) k k] 98)) := Sep.updCell (i := 4) (by show some PG = _; rw [hPG]) hU hb9' hS6 (Ext.refl _) (Below.size hX6)
  have R1 := (hS9.row (i := 1) rfl).row encB_ok
  have R2 := (hS9.row (i := 2) rfl).row encB_ok
  have R3 := (hS9.row (i := 3) rfl).row encRow_ok
  have hRows : ∀ r ∈ rs, Row 1 encI w9 r.1 r.2.2 := fun r hr => by
    obtain ⟨j, hj⟩ := List.mem_iff_getElem?.1 hr
    exact (hS9.row (wl_in hj)).row encI_ok
  rw [eS] at R1
  rw [eB] at R2
  rw [eN] at hrs
  exact Z.bodyC tOk Try.results84 rfl rfl rfl rfl (cells_heap hb9') fun m => ⟨hX9.at m, some ⟨g27, 0, none⟩, k, some ⟨g29, 0, none⟩, k, some ⟨g31, 0, none⟩, k, rs, rfl, R1.ext ((Ext.refl _).at m), R2.ext ((Ext.refl _).at m), R3.ext ((Ext.refl _).at m), fun r hr => (hRows r hr).ext ((Ext.refl _).at m), hrs⟩
end Go.Proofs.Ythpnahapiodflaa
namespace Go.Proofs.Ythpnahapiodflaa
open Go Go.Lt Go.RowKit
set_option linter.unusedVariables false
set_option linter.unusedSimpArgs false
set_option maxRecDepth 20000

def mrk (nx : List Bool) (row : List Int) : List Bool := row.foldl (fun l t => l.set t.toNat true) nx
def goTo (NX : List (List Int)) (now : List Bool) (n : Nat) : Nat → List Bool
  | 0 => List.replicate n false
  | j + 1 => if now.getD j false then mrk (goTo NX now n j) (NX.getD j []) else goTo NX now n j
def hitTo (Bd now : List Bool) : Nat → Bool
  | 0 => false
  | j + 1 => hitTo Bd now j || (now.getD j false && Bd.getD j false)
def stepsV (Bd : List Bool) (NX : List (List Int)) (n : Nat) : Nat → Int → List Bool → Int
  | 0, _, _ => -1
  | f + 1, k, now => if hitTo Bd now n then k else stepsV Bd NX n f (k + 1) (goTo NX now n n)
theorem mrk_len (row : List Int) : ∀ nx : List Bool, (mrk nx row).length = nx.length := by
  unfold mrk
  induction row with
  | nil => exact fun _ => rfl
  | cons t r ih => intro nx; rw [List.foldl_cons, ih, List.length_set]
theorem mrk_snoc (nx : List Bool) (row : List Int) (t : Int) : mrk nx (row ++ [t]) = (mrk nx row).set t.toNat true := by unfold mrk; rw [List.foldl_append]; rfl
theorem goTo_len (NX : List (List Int)) (now : List Bool) (n : Nat) : ∀ j, (goTo NX now n j).length = n
  | 0 => List.length_replicate
  | j + 1 => by
    rw [goTo]; split
    · rw [mrk_len, goTo_len NX now n j]
    · exact goTo_len NX now n j
theorem hit_mono {Bd now : List Bool} {i : Nat} (h : hitTo Bd now i = true) : ∀ j, i ≤ j → hitTo Bd now j = true
  | 0, hj => by obtain rfl : i = 0 := by omega
                exact h
  | j + 1, hj => by
    by_cases he : i = j + 1
    · rw [← he]; exact h
    · rw [hitTo, hit_mono h j (by omega)]; rfl
set_option maxHeartbeats 8000000 in
theorem ref17_Steps (w : World) (sa ba na fa : Option Addr) (sc bc nc fc n most : Nat) (Bd F : List Bool) (rs : List (RowV Int)) (RB : Row 1 encB w ba Bd) (RN : Row 1 encRow w na rs) (hrs : ∀ r ∈ rs, Row 1 encI w r.1 r.2.2) (RF : Row 1 encB w fa F) (hB : Bd.length = n) (hN : rs.length = n) (hF : F.length = n)
    (hv : ∀ r ∈ rs, r.2.2.length ≤ 1000 ∧ ∀ t ∈ r.2.2, 0 ≤ t ∧ t < (n : Int)) (hn : n ≤ 1000) (hm : most ≤ 1000) (hfa : fa = none → fc = 0) :
    Lt.Spec Try.prog 85 [.agg #[.slice sa n sc, .slice ba n bc, .slice na n nc], .slice fa n fc, .int .i64 most] w (fun v w' => Ext w w' ∧ v = .int .i64 (stepsV Bd (rs.map fun r => r.2.2) n (most + 1) 0 F)) := by
  subst hF
  refine Spec.of _ Try.func85 rfl Try.ntmps85 (by kernel_rfl) rfl ?_
  repeat' (first
    | (apply WL.box; exact rfl; exact rfl; exact rfl; intro gb w' hb hge hc hx; have hcc := hc; (first | (obtain ⟨h1, h2, h3, _⟩ := hc) | (obtain ⟨h1, h2, _⟩ := hc)); (obtain ⟨gA, rfl⟩ : ∃ x, x = gb := ⟨_, rfl⟩; obtain ⟨w2, rfl⟩ : ∃ x, x = w' := ⟨_, rfl⟩; obtain ⟨hx2, rfl⟩ : ∃ x, x = hx := ⟨_, rfl⟩; have hcA := hcc))
    | (apply WL.lit (len := 0) tOk; exact rfl; exact rfl; exact rfl; exact rfl; exact rfl; exact rfl; (first | exact rfl | kernel_rfl | (simp [Instr.fill, catCells]; done)); exact rfl; intro gb w' hb hge hc hx; have hO0 := Own.of_block0 (enc := encB) (s := 1) hb hge; (obtain ⟨g12, rfl⟩ : ∃ x, x = gb := ⟨_, rfl⟩; obtain ⟨w3, rfl⟩ : ∃ x, x = w' := ⟨_, rfl⟩; obtain ⟨hx3, rfl⟩ : ∃ x, x = hx := ⟨_, rfl⟩))
    | ((apply WL.appendS (w0 := w2) tOk encB_ok; exact rfl; exact rfl; exact rfl; exact rfl; exact rfl; exact rfl; exact rfl; exact rfl; exact rfl; exact rfl; exact hO0; exact (by (exact extA)); exact rfl; exact RF; exact (by (exact extA)); exact rfl; exact hfa; exact rfl; exact (by (exact extA)); (simp only [List.length_nil]; omega); intro aN cN w4 hO4 hX4 hU4 hF4))
    | (show WL _ _ _ _ _ _ _; first | apply WL.nil | (refine WL.au (k := ?_)))
    | (show Z _ _ _ _ _; apply Z.then_normal)
    | (show W _ _ _ _ _ _; first | apply W.seq | apply W.region | apply W.block))
  have hO4' : Own 1 encB 4 w2.heap.size w4 aN cN F := hO4
  clear hO0 hcc h1 h2 h3
  obtain ⟨tot, htot⟩ : ∃ t, t = stepsV Bd (rs.map fun r => r.2.2) F.length (most + 1) 0 F := ⟨_, rfl⟩
  rw [← htot]
  refine W.loop (σ := (Option Addr × Nat × List Bool × Nat) × World) (fun s => s.1.2.2.2 ≤ most + 1 ∧ Ext w2 s.2 ∧ s.1.2.2.1.length = F.length ∧ Own 1 encB 4 w2.heap.size s.2 s.1.1 s.1.2.1 s.1.2.2.1 ∧ tot = stepsV Bd (rs.map fun r => r.2.2) F.length (most + 1 - s.1.2.2.2) s.1.2.2.2 s.1.2.2.1) (fun s => [(2, .int .i64 most), (3, .pointer (some ⟨gA, 0, none⟩)), (7, .slice s.1.1 F.length s.1.2.1), (8, .int .i64 s.1.2.2.2)]) (fun s => s.2) (fun s => most + 2 - s.1.2.2.2) ((aN, cN, F, 0), w4) ⟨Nat.zero_le _, hX4, rfl, hO4', htot⟩ ⟨rfl, rfl, rfl, rfl, trivial⟩ rfl ?_
  clear hO4 hO4' hX4 hU4 hF4 hx3 RF htot
  rintro ⟨⟨a, c, now, k⟩, w5⟩ ⟨hk, hX5, hnl, hOn, hE⟩
  dsimp only at hk hX5 hnl hOn hE ⊢
  by_cases hlt : k < most + 1
  rotate_left
  · obtain rfl : k = most + 1 := by omega
    rw [Nat.sub_self] at hE
    have hE' : tot = -1 := hE
    repeat' (first
      | (show WL _ _ _ _ _ _ _; first | apply WL.nil | (refine WL.au (k := ?_)))
      | (show Z _ _ _ _ _; apply Z.then_normal)
      | (show W _ _ _ _ _ _; first | apply W.seq | apply W.region))
    refine W.condKF rfl (dec_false (by omega)) ?_
    repeat' (first
      | (show WL _ _ _ _ _ _ _; first | apply WL.nil | (refine WL.au (k := ?_)))
      | (show Z _ _ _ _ _; first | apply Z.then_normal | apply Z.then_exit | apply Z.block_exit)
      | (show W _ _ _ _ _ _; first | apply W.seq | apply W.region | apply W.ret | apply W.exit))
    exact Z.body1 Try.results85 rfl fun m => ⟨Ext.at (hx2.trans hX5) m, by rw [hE']⟩
  obtain ⟨f, hf⟩ : ∃ f, most + 1 - k = f + 1 := ⟨most - k, by omega⟩
  rw [hf, stepsV] at hE
  repeat' (first
    | (show WL _ _ _ _ _ _ _; first | apply WL.nil | (refine WL.au (k := ?_)))
    | (show Z _ _ _ _ _; apply Z.then_normal)
    | (show W _ _ _ _ _ _; first | apply W.seq | apply W.region))
  refine W.condKT rfl (dec_true (by omega)) ?_
  repeat' (first
    | (apply WL.make (w0 := w2) (z := (false)) tOk; exact rfl; exact rfl; exact rfl; exact rfl; exact rfl; exact rfl; exact rfl; exact rfl; exact rfl; exact encB_ok; exact rfl; exact rfl; (exact extA); (first | omega | (simp; omega) | (simp at *; omega)); intro gb w' hO hge hx; (obtain ⟨g9, rfl⟩ : ∃ x, x = gb := ⟨_, rfl⟩; obtain ⟨w6, rfl⟩ : ∃ x, x = w' := ⟨_, rfl⟩; obtain ⟨hO9, rfl⟩ : ∃ x, x = hO := ⟨_, rfl⟩; obtain ⟨hge9, rfl⟩ : ∃ x, x = hge := ⟨_, rfl⟩; obtain ⟨hx6, rfl⟩ : ∃ x, x = hx := ⟨_, rfl⟩))
    | (show WL _ _ _ _ _ _ _; first | apply WL.nil | (refine WL.au (k := ?_)))
    | (show Z _ _ _ _ _; apply Z.then_normal)
    | (show W _ _ _ _ _ _; first | apply W.seq | apply W.region | apply W.block | apply W.skip))
  have hS6 : Lt.Sep w2.heap.size w6 [prow 1 encB 4 w2.heap.size (some ⟨g9, 0, none⟩) F.length (goTo (rs.map fun r => r.2.2) now F.length 0), prow 1 encB 4 w2.heap.size a c now] := Sep.newRow (Sep.ext (Sep.newRow (w := w2) Sep.none' hX5 hOn (fun k hk => (hOn.blk_lt k hk).1) (Nat.le_refl _)) (Ext.refl _)) hx6 hO9 (fun k hk => by cases hk; exact hge9) (Below.size hX5)
  have hX6 : Ext w2 w6 := hX5.trans hx6
  clear hOn hO9
  refine W.loopW F.length (fun j w' => j ≤ F.length ∧ Ext w2 w' ∧ Lt.Sep w2.heap.size w' [prow 1 encB 4 w2.heap.size (some ⟨g9, 0, none⟩) F.length (goTo (rs.map fun r => r.2.2) now F.length j), prow 1 encB 4 w2.heap.size a c now] ∧ hitTo Bd now j = false) (fun j => [(2, .int .i64 most), (3, .pointer (some ⟨gA, 0, none⟩)), (7, .slice a F.length c), (8, .int .i64 k), (9, .slice (some ⟨g9, 0, none⟩) F.length F.length), (10, .int .i64 j)]) ⟨Nat.zero_le _, hX6, hS6, rfl⟩ (fun k w' h => h.1) ⟨rfl, rfl, rfl, rfl, (by show some (Value.slice _ (List.replicate F.length false).length _) = _; rw [List.length_replicate]; rfl), rfl, trivial⟩ ?_
  clear hS6 hX6 hx6 hX5
  rintro j w5 ⟨hj, hX5, hS5, hhit⟩
  have hOn := hS5.row (i := 1) rfl
  have RNow := hOn.row encB_ok
  have hX25 : Ext w w5 := hx2.trans hX5
  have RB5 := RB.ext hX25
  have RN5 := RN.ext hX25
  have hc5 := Cells.ext hX5 hcA
  obtain ⟨n0, n1, n2, _⟩ := id hc5
  by_cases hjl : j < F.length
  · obtain ⟨bv, hbv⟩ := getI now (show j < now.length by omega)
    obtain ⟨dv, hdv⟩ := getI Bd (show j < Bd.length by omega)
    obtain ⟨r, hr⟩ := getI rs (show j < rs.length by omega)
    have hrow := (hrs r (List.mem_of_getElem? hr)).ext hX25
    have hrb := hv r (List.mem_of_getElem? hr)
    have hrl := hrb.1
    have hNX : (rs.map fun r => r.2.2).getD j [] = r.2.2 := getD_of (by rw [List.getElem?_map, hr]; rfl)
    have hgo : goTo (rs.map fun r => r.2.2) now F.length (j + 1) = if bv then mrk (goTo (rs.map fun r => r.2.2) now F.length j) r.2.2 else goTo (rs.map fun r => r.2.2) now F.length j := by rw [goTo, getD_of hbv, hNX]
    have hhs : hitTo Bd now (j + 1) = (bv && dv) := by rw [hitTo, hhit, getD_of hbv, getD_of hdv]; rfl
    have hgl := goTo_len (rs.map fun r => r.2.2) now F.length j
    cases bv with
    | false =>
      rw [if_neg (by decide)] at hgo
      repeat' (first
        | (show WL _ _ _ _ _ _ _; first | apply WL.nil | (refine WL.au (k := ?_)))
        | (show Z _ _ _ _ _; apply Z.then_normal)
        | (show W _ _ _ _ _ _; first | apply W.seq | apply W.region))
      refine W.condKT rfl (dec_true (by omega)) ?_
      repeat' (first
        | ((apply WL.index tOk; exact rfl; exact rfl; exact rfl; exact rfl; exact rfl; exact rfl; exact rfl; exact rfl; exact RNow; exact (by (exact extA)); exact hnl; omega; exact hbv; intro b off h; have hcc := h; obtain ⟨h1, _⟩ := h))
        | (show WL _ _ _ _ _ _ _; first | apply WL.nil | (refine WL.au (k := ?_)) | (apply WL.guardF; exact rfl; exact rfl))
        | (show Z _ _ _ _ _; apply Z.then_normal)
        | (show W _ _ _ _ _ _; first | apply W.seq | apply W.region | apply W.block | apply W.skip))
      refine W.condKF rfl rfl ?_
      repeat' (first
        | (show WL _ _ _ _ _ _ _; first | apply WL.nil | (refine WL.au (k := ?_)))
        | (show Z _ _ _ _ _; apply Z.then_normal)
        | (show W _ _ _ _ _ _; first | apply W.seq | apply W.region | apply W.block | apply W.skip))
      refine W.loopW 0 (fun i w' => i = 0 ∧ w' = w5) (fun i => [(2, .int .i64 most), (3, .pointer (some ⟨gA, 0, none⟩)), (7, .slice a F.length c), (8, .int .i64 k), (9, .slice (some ⟨g9, 0, none⟩) F.length F.length), (10, .int .i64 j), (11, .int .i64 i)]) ⟨rfl, rfl⟩ (fun k w' h => Nat.le_of_eq h.1) ⟨rfl, rfl, rfl, rfl, rfl, rfl, rfl, trivial⟩ ?_
      rintro i w6 ⟨rfl, rfl⟩
      by_cases hl0 : 0 < r.2.2.length
      · repeat' (first
          | (apply WL.gT; exact rfl; exact rfl; (focus (exact dec_true (by omega); done)))
          | ((apply WL.index tOk; exact rfl; exact rfl; exact rfl; exact rfl; exact rfl; exact rfl; exact rfl; exact rfl; exact RN5; exact (by (exact extA)); exact hN; omega; exact hr; intro b off h; have hcc := h; obtain ⟨h1, _⟩ := h))
          | ((apply WL.index tOk; exact rfl; exact rfl; exact rfl; exact rfl; exact rfl; exact rfl; exact rfl; exact rfl; exact RNow; exact (by (exact extA)); exact hnl; omega; exact hbv; intro b off h; have hcc := h; obtain ⟨h1, _⟩ := h))
          | (show WL _ _ _ _ _ _ _; first | apply WL.nil | (refine WL.au (k := ?_)))
          | (show Z _ _ _ _ _; apply Z.then_normal)
          | (show W _ _ _ _ _ _; first | apply W.seq | apply W.region))
        refine W.condKF rfl rfl ?_
        repeat' (first
          | (show WL _ _ _ _ _ _ _; first | apply WL.nil | (refine WL.au (k := ?_)))
          | (show Z _ _ _ _ _; first | apply Z.then_normal | apply Z.block_normal | apply Z.then_exit | apply Z.block_exit)
          | (show W _ _ _ _ _ _; first | apply W.region | apply W.exit))
        exact Z.againW ⟨by omega, hX5, by rw [hgo]; exact hS5, hhs⟩ ⟨rfl, rfl, rfl, rfl, rfl, rfl, trivial⟩
      · repeat' (first
          | (apply WL.gF; exact rfl; exact rfl; (focus (exact dec_false (by omega); done)))
          | ((apply WL.index tOk; exact rfl; exact rfl; exact rfl; exact rfl; exact rfl; exact rfl; exact rfl; exact rfl; exact RN5; exact (by (exact extA)); exact hN; omega; exact hr; intro b off h; have hcc := h; obtain ⟨h1, _⟩ := h))
          | (show WL _ _ _ _ _ _ _; first | apply WL.nil | (refine WL.au (k := ?_)) | (apply WL.guardF; exact rfl; exact rfl))
          | (show Z _ _ _ _ _; apply Z.then_normal)
          | (show W _ _ _ _ _ _; first | apply W.seq | apply W.region))
        refine W.condKF rfl rfl ?_
        repeat' (first
          | (show WL _ _ _ _ _ _ _; first | apply WL.nil | (refine WL.au (k := ?_)))
          | (show Z _ _ _ _ _; first | apply Z.then_normal | apply Z.block_normal | apply Z.then_exit | apply Z.block_exit)
          | (show W _ _ _ _ _ _; first | apply W.region | apply W.exit))
        exact Z.againW ⟨by omega, hX5, by rw [hgo]; exact hS5, hhs⟩ ⟨rfl, rfl, rfl, rfl, rfl, rfl, trivial⟩
    | true =>
      rw [if_pos rfl] at hgo
      cases dv with
      | true =>
        rw [if_pos (hit_mono hhs _ (by omega))] at hE
        repeat' (first
          | (show WL _ _ _ _ _ _ _; first | apply WL.nil | (refine WL.au (k := ?_)))
          | (show Z _ _ _ _ _; apply Z.then_normal)
          | (show W _ _ _ _ _ _; first | apply W.seq | apply W.region))
        refine W.condKT rfl (dec_true (by omega)) ?_
        repeat' (first
          | ((apply WL.index tOk; exact rfl; exact rfl; exact rfl; exact rfl; exact rfl; exact rfl; exact rfl; exact rfl; exact RNow; exact (by (exact extA)); exact hnl; omega; exact hbv; intro b off h; have hcc := h; obtain ⟨h1, _⟩ := h))
          | ((apply WL.index tOk; exact rfl; exact rfl; exact rfl; exact rfl; exact rfl; exact rfl; exact rfl; exact rfl; exact RB5; exact (by (exact extA)); exact hB; omega; exact hdv; intro b off h; have hcc := h; obtain ⟨h1, _⟩ := h))
          | (show WL _ _ _ _ _ _ _; first | apply WL.nil | (refine WL.au (k := ?_)))
          | (show Z _ _ _ _ _; apply Z.then_normal)
          | (show W _ _ _ _ _ _; first | apply W.seq | apply W.region | apply W.block | apply W.skip))
        refine W.condKT rfl rfl ?_
        repeat' (first
          | (show WL _ _ _ _ _ _ _; first | apply WL.nil | (refine WL.au (k := ?_)))
          | (show Z _ _ _ _ _; first | apply Z.then_normal | apply Z.then_ret | apply Z.block_ret)
          | (show W _ _ _ _ _ _; first | apply W.seq | apply W.region | apply W.ret))
        exact Z.body1 Try.results85 rfl fun m => ⟨Ext.at (hx2.trans hX5) m, by rw [hE]⟩
      | false =>
        repeat' (first
          | (show WL _ _ _ _ _ _ _; first | apply WL.nil | (refine WL.au (k := ?_)))
          | (show Z _ _ _ _ _; apply Z.then_normal)
          | (show W _ _ _ _ _ _; first | apply W.seq | apply W.region))
        refine W.condKT rfl (dec_true (by omega)) ?_
        repeat' (first
          | ((apply WL.index tOk; exact rfl; exact rfl; exact rfl; exact rfl; exact rfl; exact rfl; exact rfl; exact rfl; exact RNow; exact (by (exact extA)); exact hnl; omega; exact hbv; intro b off h; have hcc := h; obtain ⟨h1, _⟩ := h))
          | ((apply WL.index tOk; exact rfl; exact rfl; exact rfl; exact rfl; exact rfl; exact rfl; exact rfl; exact rfl; exact RB5; exact (by (exact extA)); exact hB; omega; exact hdv; intro b off h; have hcc := h; obtain ⟨h1, _⟩ := h))
          | (show WL _ _ _ _ _ _ _; first | apply WL.nil | (refine WL.au (k := ?_)))
          | (show Z _ _ _ _ _; apply Z.then_normal)
          | (show W _ _ _ _ _ _; first | apply W.seq | apply W.region | apply W.block | apply W.skip))
        refine W.condKF rfl rfl ?_
        repeat' (first
          | (show WL _ _ _ _ _ _ _; first | apply WL.nil | (refine WL.au (k := ?_)))
          | (show Z _ _ _ _ _; apply Z.then_normal)
          | (show W _ _ _ _ _ _; first | apply W.seq | apply W.region | apply W.block | apply W.skip))
        have hm0 : mrk (goTo (rs.map fun r => r.2.2) now F.length j) (r.2.2.take 0) = goTo (rs.map fun r => r.2.2) now F.length j := by rw [List.take_zero]; rfl
        refine W.loopW r.2.2.length (fun i w' => i ≤ r.2.2.length ∧ Ext w2 w' ∧ Lt.Sep w2.heap.size w' [prow 1 encB 4 w2.heap.size (some ⟨g9, 0, none⟩) F.length (mrk (goTo (rs.map fun r => r.2.2) now F.length j) (r.2.2.take i)), prow 1 encB 4 w2.heap.size a c now]) (fun i => [(2, .int .i64 most), (3, .pointer (some ⟨gA, 0, none⟩)), (7, .slice a F.length c), (8, .int .i64 k), (9, .slice (some ⟨g9, 0, none⟩) F.length F.length), (10, .int .i64 j), (11, .int .i64 i)]) ⟨Nat.zero_le _, hX5, by rw [hm0]; exact hS5⟩ (fun k w' h => h.1) ⟨rfl, rfl, rfl, rfl, rfl, rfl, rfl, trivial⟩ ?_
        clear hS5 hX5 hOn RNow hX25 RB5 RN5 hc5 n0 n1 n2 hrow hm0
        rintro i w6 ⟨hi, hX5, hS5⟩
        have hOn := hS5.row (i := 1) rfl
        have hOx := hS5.row (i := 0) rfl
        have RNow := hOn.row encB_ok
        have hX25 : Ext w w6 := hx2.trans hX5
        have RN5 := RN.ext hX25
        have hc5 := Cells.ext hX5 hcA
        have hrow := (hrs r (List.mem_of_getElem? hr)).ext hX25
        obtain ⟨n0, n1, n2, _⟩ := id hc5
        by_cases hil : i < r.2.2.length
        · obtain ⟨t, htt⟩ := getI r.2.2 hil
          have htb := hrb.2 t (List.mem_of_getElem? htt)
          have hml : (mrk (goTo (rs.map fun r => r.2.2) now F.length j) (r.2.2.take i)).length = F.length := (mrk_len _ _).trans hgl
          obtain ⟨zv, hzv⟩ := getI (mrk (goTo (rs.map fun r => r.2.2) now F.length j) (r.2.2.take i)) (show t.toNat < _ by rw [hml]; omega)
          have hst : mrk (goTo (rs.map fun r => r.2.2) now F.length j) (r.2.2.take (i + 1)) = (mrk (goTo (rs.map fun r => r.2.2) now F.length j) (r.2.2.take i)).set t.toNat true := by rw [take_succ' htt, mrk_snoc]
          generalize mrk (goTo (rs.map fun r => r.2.2) now F.length j) (r.2.2.take i) = M at *
          repeat' (first
            | (apply WL.gT; exact rfl; exact rfl; (focus (exact dec_true (by omega); done)))
            | ((apply WL.index tOk; exact rfl; exact rfl; exact rfl; exact rfl; exact rfl; exact rfl; exact rfl; exact rfl; exact RN5; exact (by (exact extA)); exact hN; omega; exact hr; intro b off h; have hcc := h; obtain ⟨h1, _⟩ := h))
            | ((apply WL.index tOk; exact rfl; exact rfl; exact rfl; exact rfl; exact rfl; exact rfl; exact rfl; exact rfl; exact RNow; exact (by (exact extA)); exact hnl; omega; exact hbv; intro b off h; have hcc := h; obtain ⟨h1, _⟩ := h))
            | (show WL _ _ _ _ _ _ _; first | apply WL.nil | (refine WL.au (k := ?_)))
            | (show Z _ _ _ _ _; apply Z.then_normal)
            | (show W _ _ _ _ _ _; first | apply W.seq | apply W.region))
          refine W.condKT rfl rfl ?_
          repeat' (first
            | ((apply WL.index tOk; exact rfl; exact rfl; exact rfl; exact rfl; exact rfl; exact rfl; exact rfl; exact rfl; exact hrow; exact (by (exact extA)); exact rfl; omega; exact htt; intro b off h; have hcc := h; obtain ⟨h1, _⟩ := h))
            | ((apply WL.index tOk; exact rfl; exact rfl; exact rfl; exact rfl; exact rfl; exact rfl; exact rfl; exact rfl; exact RN5; exact (by (exact extA)); exact hN; omega; exact hr; intro b off h; have hcc := h; obtain ⟨h1, _⟩ := h))
            | (apply WL.indexO tOk; exact rfl; exact rfl; exact rfl; exact rfl; exact rfl; exact rfl; exact rfl; exact rfl; assumption; (exact extA); exact encB_ok; (first | exact rfl | (focus (simp only [List.length_set]; done)) | (focus (simp; done)) | (focus (simp [*]; done)) | omega | (focus (simp only [List.length_set]; omega))); omega; assumption; intro gb ha hc; cases ha; have hcc := hc; first | (obtain ⟨h1, h2, h3, _⟩ := hc) | (obtain ⟨h1, h2, _⟩ := hc) | (obtain ⟨h1, _⟩ := hc))
            | (apply WL.storeO (z' := (true)) tOk; exact rfl; exact rfl; exact rfl; exact rfl; assumption; (exact extA); exact rfl; exact rfl; exact rfl; exact encB_ok; assumption; exact rfl; (exact extA); intro w' hO hX' hU)
            | (show WL _ _ _ _ _ _ _; first | apply WL.nil | (refine WL.au (k := ?_)))
            | (show Z _ _ _ _ _; first | apply Z.then_normal | apply Z.block_normal)
            | (show W _ _ _ _ _ _; first | apply W.seq | apply W.region | apply W.block | apply W.skip))
          have hS6 := Sep.updRow (i := 0) rfl hU hO (.inl rfl) hS5 (by (exact extA)) (Below.size hX5)
          exact Z.againW ⟨by omega, (show Ext w2 w' from (by (exact extA))), by rw [hst]; exact hS6⟩ ⟨rfl, rfl, rfl, rfl, rfl, rfl, rfl, trivial⟩
        obtain rfl : i = r.2.2.length := by omega
        rw [List.take_length] at hS5
        repeat' (first
          | (apply WL.gF; exact rfl; exact rfl; (focus (exact dec_false (by omega); done)))
          | ((apply WL.index tOk; exact rfl; exact rfl; exact rfl; exact rfl; exact rfl; exact rfl; exact rfl; exact rfl; exact RN5; exact (by (exact extA)); exact hN; omega; exact hr; intro b off h; have hcc := h; obtain ⟨h1, _⟩ := h))
          | (show WL _ _ _ _ _ _ _; first | apply WL.nil | (refine WL.au (k := ?_)) | (apply WL.guardF; exact rfl; exact rfl))
          | (show Z _ _ _ _ _; apply Z.then_normal)
          | (show W _ _ _ _ _ _; first | apply W.seq | apply W.region))
        refine W.condKF rfl rfl ?_
        repeat' (first
          | (show WL _ _ _ _ _ _ _; first | apply WL.nil | (refine WL.au (k := ?_)))
          | (show Z _ _ _ _ _; first | apply Z.then_normal | apply Z.block_normal | apply Z.then_exit | apply Z.block_exit)
          | (show W _ _ _ _ _ _; first | apply W.region | apply W.exit))
        exact Z.againW ⟨by omega, hX5, by rw [hgo]; exact hS5, hhs⟩ ⟨rfl, rfl, rfl, rfl, rfl, rfl, trivial⟩
  obtain rfl : j = F.length := by omega
  rw [if_neg (by rw [hhit]; decide)] at hE
  repeat' (first
    | (show WL _ _ _ _ _ _ _; first | apply WL.nil | (refine WL.au (k := ?_)))
    | (show Z _ _ _ _ _; apply Z.then_normal)
    | (show W _ _ _ _ _ _; first | apply W.seq | apply W.region))
  refine W.condKF rfl (dec_false (by omega)) ?_
  repeat' (first
    | (show WL _ _ _ _ _ _ _; first | apply WL.nil | (refine WL.au (k := ?_)))
    | (show Z _ _ _ _ _; first | apply Z.then_normal | apply Z.block_normal | apply Z.then_exit | apply Z.block_exit)
    | (show W _ _ _ _ _ _; first | apply W.region | apply W.exit))
  have hgl := goTo_len (rs.map fun r => r.2.2) now F.length F.length
  exact Z.again ((some ⟨g9, 0, none⟩, F.length, goTo (rs.map fun r => r.2.2) now F.length F.length, k + 1), w5) ⟨by dsimp only; omega, hX5, hgl, hS5.row (i := 0) rfl, by dsimp only; rw [show most + 1 - (k + 1) = f by omega]; exact hE⟩ (by dsimp only; omega) ⟨rfl, rfl, rfl, rfl, trivial⟩ rfl
end Go.Proofs.Ythpnahapiodflaa
namespace Go.Proofs.Ythpnahapiodflaa
open Go Go.Lt Go.RowKit
set_option linter.unusedVariables false
set_option linter.unusedSimpArgs false
set_option maxRecDepth 20000

noncomputable abbrev pB (B : Nat) (r : RowV Bool) : Piece := prow 1 encB 4 B r.1 r.2.1 r.2.2
/-- What a run is made of. -/
noncomputable abbrev rnP (B g6 : Nat) (sa : Option Addr) (sc : Nat) (S : List Bool) (ia : Option Addr) (ic : Nat) (rs : List (RowV Bool)) : List Piece :=
  pcell g6 #[.slice sa S.length sc, .slice ia rs.length ic] 82 :: prow 1 encB 4 B sa sc S :: prow 1 encRB 22 B ia ic rs :: rs.map (pB B)
theorem rn_push {B g6 sc ic ic' : Nat} {sa ia ia' : Option Addr} {S : List Bool} {rs : List (RowV Bool)} {q : RowV Bool} {w1 w2 : World} (hS : Lt.Sep B w1 (rnP B g6 sa sc S ia ic rs ++ [pB B q])) (hU : Upd B ia w1 w2) (hO : Own 1 encRB 22 B w2 ia' ic' (rs ++ [q])) (hF : blk ia' = blk ia ∨ ∃ k, blk ia' = some k ∧ w1.heap.size ≤ k) (hB : B ≤ w1.heap.size) :
    Lt.Sep B w2 (pcell g6 #[.slice sa S.length sc, .slice ia rs.length ic] 82 :: prow 1 encB 4 B sa sc S :: prow 1 encRB 22 B ia' ic' (rs ++ [q]) :: (rs ++ [q]).map (pB B)) := by
  rw [List.map_append]
  exact Sep.updRow (i := 2) rfl hU hO hF hS (Ext.refl _) hB
noncomputable def startL (c : CirT) : List Bool := c.lat.map fun x => dec (x.2.2 = 1)
theorem start_succ {c : CirT} {k : Nat} {x : T3} (h : c.lat[k]? = some x) : (c.lat.take (k + 1)).map (fun x => dec (x.2.2 = 1)) = (c.lat.take k).map (fun x => dec (x.2.2 = 1)) ++ [dec (x.2.2 = 1)] := by rw [take_succ' h, List.map_append]; rfl
set_option maxHeartbeats 16000000 in
theorem law49_run (c : Circ) (bo : Option Addr) (bc : Nat) (ins : List Bool) (w : World) (hC : CAt w c) (hg : GoodC' c.t) (hz : SzC c.t 100000) (hI : c.ins.2.2.length ≤ 1) (RB : Row 1 encB w bo ins) (hil : ins.length ≤ 1000) :
    Pure Try.prog 21 [c.val, .slice bo ins.length bc] w (.bool (dec (BreaksP c.t (startL c.t) (runL c.ins.2.2.length ins) 0))) := by
  have z2 : c.lat.2.2.length ≤ 100000 := hz.2.1
  refine Spec.of _ Try.func21 rfl Try.ntmps21 (by kernel_rfl) rfl ?_
  repeat' (first
    | (apply WL.box; exact rfl; exact rfl; exact rfl; intro gb w' hb hge hc hx; have hcc := hc; (first | (obtain ⟨h1, h2, h3, _⟩ := hc) | (obtain ⟨h1, h2, _⟩ := hc)); (obtain ⟨gc, rfl⟩ : ∃ x, x = gb := ⟨_, rfl⟩; obtain ⟨wc, rfl⟩ : ∃ x, x = w' := ⟨_, rfl⟩; obtain ⟨hxc, rfl⟩ : ∃ x, x = hx := ⟨_, rfl⟩; have hcells : Cells wc gc 0 c.vals := hcc))
    | (((show WL _ _ _ (⟨_, .call ⟨.value (.func 61), _, _⟩, _, _, _, _⟩ :: _) _ _ _); apply WL.call; exact rfl; exact rfl; exact rfl; exact rfl; exact ref17_New c _ (hC.ext (by (exact extA))) hg hz; rintro v' w4 ⟨hx4, gm, rn, ra, rfl, hM⟩))
    | (show WL _ _ _ _ _ _ _; first | apply WL.nil | (refine WL.au (k := ?_)))
    | (show Z _ _ _ _ _; apply Z.then_normal)
    | (show W _ _ _ _ _ _; first | apply W.seq | apply W.region))
  have hX4c : Ext wc w4 := hx4
  have hX4 : Ext w w4 := hxc.trans hx4
  repeat' (first
    | (apply WL.build tOk; exact rfl; exact rfl; exact rfl; exact rfl; exact rfl; exact rfl; exact rfl; kernel_rfl)
    | (apply WL.alloc tOk; exact rfl; exact rfl; exact rfl; intro gb w' hb hge hx; (obtain ⟨g6, rfl⟩ : ∃ x, x = gb := ⟨_, rfl⟩; obtain ⟨w5, rfl⟩ : ∃ x, x = w' := ⟨_, rfl⟩; obtain ⟨hx5, rfl⟩ : ∃ x, x = hx := ⟨_, rfl⟩; obtain ⟨hb5, rfl⟩ : ∃ x, x = hb := ⟨_, rfl⟩; obtain ⟨hge6, rfl⟩ : ∃ x, x = hge := ⟨_, rfl⟩))
    | (apply WL.storeB (w0 := w4) tOk; exact rfl; exact rfl; exact rfl; exact rfl; assumption; (exact extA); exact rfl; exact rfl; exact rfl; (exact extA); (first | assumption | omega | (focus (apply Nat.le_trans; rotate_left; assumption; exact Below.size (by (exact extA)); done))); intro w' hb hc hX' hU; have hcc := hc; obtain ⟨h1, h2, _⟩ := hc; (obtain ⟨w6, rfl⟩ : ∃ x, x = w' := ⟨_, rfl⟩; obtain ⟨hb6, rfl⟩ : ∃ x, x = hb := ⟨_, rfl⟩; obtain ⟨hX6, rfl⟩ : ∃ x, x = hX' := ⟨_, rfl⟩))
    | (show WL _ _ _ _ _ _ _; first | apply WL.nil | (refine WL.au (k := ?_)))
    | (show Z _ _ _ _ _; apply Z.then_normal)
    | (show W _ _ _ _ _ _; first | apply W.seq | apply W.region | apply W.block))
  have hS6 : Lt.Sep w4.heap.size w6 [prow 1 encB 4 w4.heap.size none 0 ((c.lat.2.2.take 0).map (fun x => dec (x.2.2 = 1))), pcell g6 #[.slice none ((c.lat.2.2.take 0).map (fun x => dec (x.2.2 = 1))).length 0, .slice none 0 0] 82] := Sep.newRow (Sep.newCell Sep.none' hX6 hb6 hge6 (Nat.le_refl _)) (Ext.refl _) Own.nil (fun k hk => by cases hk) (Below.size hX6)
  have hg6 : w4.heap.size ≤ g6 := (hS6.lt (i := 1) rfl rfl).1
  have hcc4 : Cells w4 gc 0 c.vals := hcells.ext hX4c
  obtain ⟨u0, u1, u2, u3, u4, u5, u6, _⟩ := id hcc4
  have RLc := hC.lat.row.ext hX4
  clear hcc h1 h2 hU
  refine W.loopW c.lat.2.2.length (fun k w' => k ≤ c.lat.2.2.length ∧ Ext w4 w' ∧ ∃ sa sc, Lt.Sep w4.heap.size w' [prow 1 encB 4 w4.heap.size sa sc ((c.lat.2.2.take k).map (fun x => dec (x.2.2 = 1))), pcell g6 #[.slice sa ((c.lat.2.2.take k).map (fun x => dec (x.2.2 = 1))).length sc, .slice none 0 0] 82]) (fun k => [(1, .slice bo ins.length bc), (2, .pointer (some ⟨gc, 0, none⟩)), (5, .pointer (some ⟨gm, 0, none⟩)), (6, .pointer (some ⟨g6, 0, none⟩)), (7, .int .i64 k)]) ⟨Nat.zero_le _, hX6, none, 0, hS6⟩ (fun k w' h => h.1) ⟨rfl, rfl, rfl, rfl, rfl, trivial⟩ ?_
  clear hS6 hb6 hX6 hb5 hx5
  rintro k w7 ⟨hk, hX7, sa, sc, hS⟩
  obtain ⟨y0, y1, y2, y3, y4, y5, y6, _⟩ := hcc4.ext hX7
  by_cases hlt : k < c.lat.2.2.length
  · obtain ⟨x, hxx⟩ := getI c.lat.2.2 hlt
    have hxx' : c.lat.2.2[((k : Nat) : Int).toNat]? = some x := by rw [Int.toNat_natCast]; exact hxx
    have e1 := start_succ (c := c.t) hxx
    have hll : ((c.lat.2.2.take k).map (fun x => dec (x.2.2 = 1))).length = k := by rw [List.length_map, List.length_take]; omega
    have hRg := hS.row (i := 0) rfl
    have hc7 := hS.cell (i := 1) rfl
    obtain ⟨n0, n1, _⟩ := cells_heap (hS.cell (i := 1) rfl)
    repeat' (first
      | (show WL _ _ _ _ _ _ _; first | apply WL.nil | (refine WL.au (k := ?_)))
      | (show Z _ _ _ _ _; apply Z.then_normal)
      | (show W _ _ _ _ _ _; first | apply W.seq | apply W.region))
    refine W.condKT rfl (dec_true (by omega)) ?_
    clear y0 y1 y2 y3 y4 y5 y6
    repeat' (first
      | (show W _ _ (.region 6 _ _) _ _ _; apply W.regionG (.fl true 0 (.fl true 2 (.fl true 4 (.fl false 3 (.fl true 5 (.fl true 6 (.fl false 7 (.fl true 8 (.br 1 (.br 9 (.br 10 (.fl true 11 (.br 12 .done .stop)) .stop) .stop) (.br 9 (.br 1 (.br 10 (.fl true 11 (.br 12 .done .stop)) .stop) .stop) .stop)))))))))) [1, 6, 7, 8, 9, 10] (Ext w4) tMix; kernel_rfl)
      | (apply WL.lit tOk; exact rfl; exact rfl; exact rfl; exact rfl; exact rfl; exact rfl; (first | exact rfl | kernel_rfl | (simp [Instr.fill, catCells]; done)); exact rfl; intro gb w' hb hge hc hx)
      | (apply WL.append1 (z := (dec (x.2.2 = 1))) tOk encB_ok; exact rfl; exact rfl; exact rfl; exact rfl; exact rfl; exact rfl; exact rfl; exact rfl; exact rfl; exact rfl; assumption; (exact extA); (first | exact rfl | (focus (simp only [List.length_set]; done)) | (focus (simp; done)) | (focus (simp [*]; done)) | omega | (focus (simp only [List.length_set]; omega))); (first | assumption | (refine Cells.ext ?_ (by assumption); exact extA)); exact rfl; exact rfl; (exact extA); (first | omega | (simp; omega) | (simp at *; omega)); intro a' cap' w' hO hX' hU hF; (first | replace hS := Sep.updRow (i := 0) rfl hU hO hF hS (by (exact extA)) (by (first | exact Nat.le_refl _ | exact Below.size (by (exact extA)))) | replace hS := Sep.updRow (i := 1) rfl hU hO hF hS (by (exact extA)) (by (first | exact Nat.le_refl _ | exact Below.size (by (exact extA)))) | replace hS := Sep.updRow (i := 2) rfl hU hO hF hS (by (exact extA)) (by (first | exact Nat.le_refl _ | exact Below.size (by (exact extA)))) | replace hS := Sep.updRow (i := 3) rfl hU hO hF hS (by (exact extA)) (by (first | exact Nat.le_refl _ | exact Below.size (by (exact extA)))) | replace hS := Sep.updRow (i := 4) rfl hU hO hF hS (by (exact extA)) (by (first | exact Nat.le_refl _ | exact Below.size (by (exact extA)))) | replace hS := Sep.updRow (i := 5) rfl hU hO hF hS (by (exact extA)) (by (first | exact Nat.le_refl _ | exact Below.size (by (exact extA))))); (try simp only [List.set_cons_zero, List.set_cons_succ] at hS); (try have hR0 := hS.row (i := 0) rfl); (try have hR1 := hS.row (i := 1) rfl); (try have hR2 := hS.row (i := 2) rfl); (try have hR3 := hS.row (i := 3) rfl); (try have hR4 := hS.row (i := 4) rfl); (try have hC0 := hS.cell (i := 0) rfl); (try have hD0 := (cells_heap hC0).1); (try have hE0 := (cells_heap hC0).2.1); (try have hF0 := (cells_heap hC0).2.2.1); (try have hG0 := (cells_heap hC0).2.2.2.1); (try have hC1 := hS.cell (i := 1) rfl); (try have hD1 := (cells_heap hC1).1); (try have hE1 := (cells_heap hC1).2.1); (try have hF1 := (cells_heap hC1).2.2.1); (try have hG1 := (cells_heap hC1).2.2.2.1); (try have hC2 := hS.cell (i := 2) rfl); (try have hD2 := (cells_heap hC2).1); (try have hE2 := (cells_heap hC2).2.1); (try have hF2 := (cells_heap hC2).2.2.1); (try have hG2 := (cells_heap hC2).2.2.2.1); (try have hC3 := hS.cell (i := 3) rfl); (try have hD3 := (cells_heap hC3).1); (try have hE3 := (cells_heap hC3).2.1); (try have hF3 := (cells_heap hC3).2.2.1); (try have hG3 := (cells_heap hC3).2.2.2.1); (try have hC4 := hS.cell (i := 4) rfl); (try have hD4 := (cells_heap hC4).1); (try have hE4 := (cells_heap hC4).2.1); (try have hF4 := (cells_heap hC4).2.2.1); (try have hG4 := (cells_heap hC4).2.2.2.1); (try have hM0 := hS.map (i := 0) rfl); (try have hM1 := hS.map (i := 1) rfl); (try have hM2 := hS.map (i := 2) rfl); (try have hM3 := hS.map (i := 3) rfl); (try have hM4 := hS.map (i := 4) rfl))
      | (apply WL.storeF (w0 := w4) tOk; exact rfl; exact rfl; exact rfl; exact rfl; assumption; (exact extA); exact rfl; exact rfl; exact rfl; exact rfl; (exact extA); (first | assumption | omega | (focus (apply Nat.le_trans; rotate_left; assumption; exact Below.size (by (exact extA))))); intro w' hb hX' hU; replace hS := Sep.updCell (i := 1) rfl hU hb hS (by (exact extA)) (by (first | exact Nat.le_refl _ | exact Below.size (by (exact extA)))); (try simp only [List.set_cons_zero, List.set_cons_succ] at hS); (try have hR0 := hS.row (i := 0) rfl); (try have hR1 := hS.row (i := 1) rfl); (try have hR2 := hS.row (i := 2) rfl); (try have hR3 := hS.row (i := 3) rfl); (try have hR4 := hS.row (i := 4) rfl); (try have hC0 := hS.cell (i := 0) rfl); (try have hD0 := (cells_heap hC0).1); (try have hE0 := (cells_heap hC0).2.1); (try have hF0 := (cells_heap hC0).2.2.1); (try have hG0 := (cells_heap hC0).2.2.2.1); (try have hC1 := hS.cell (i := 1) rfl); (try have hD1 := (cells_heap hC1).1); (try have hE1 := (cells_heap hC1).2.1); (try have hF1 := (cells_heap hC1).2.2.1); (try have hG1 := (cells_heap hC1).2.2.2.1); (try have hC2 := hS.cell (i := 2) rfl); (try have hD2 := (cells_heap hC2).1); (try have hE2 := (cells_heap hC2).2.1); (try have hF2 := (cells_heap hC2).2.2.1); (try have hG2 := (cells_heap hC2).2.2.2.1); (try have hC3 := hS.cell (i := 3) rfl); (try have hD3 := (cells_heap hC3).1); (try have hE3 := (cells_heap hC3).2.1); (try have hF3 := (cells_heap hC3).2.2.1); (try have hG3 := (cells_heap hC3).2.2.2.1); (try have hC4 := hS.cell (i := 4) rfl); (try have hD4 := (cells_heap hC4).1); (try have hE4 := (cells_heap hC4).2.1); (try have hF4 := (cells_heap hC4).2.2.1); (try have hG4 := (cells_heap hC4).2.2.2.1); (try have hM0 := hS.map (i := 0) rfl); (try have hM1 := hS.map (i := 1) rfl); (try have hM2 := hS.map (i := 2) rfl); (try have hM3 := hS.map (i := 3) rfl); (try have hM4 := hS.map (i := 4) rfl))
      | (show WL _ _ _ _ _ _ _; first | apply WL.nil | (refine WL.au (k := ?_)))
      | (show SG _ _ _ _ _ _ _ _ _; first | apply SG.done | (apply SG.fl0; exact rfl) | (apply SG.fl1; exact rfl; (focus ((intro m; first | assumption | (apply Ext.at; (exact extA)) | apply But.of_at; first | exact But.upd (by assumption) | exact But.ext (by (exact extA)) | (refine But.trans ?_ (But.upd (by assumption)); exact But.ext (by (exact extA))) | exact But.at _ _ _); done))) | (apply SG.br1; exact rfl) | (apply SG.br; exact rfl))
      | (show FL _ _ _ _ _ _ _ _; first | (apply FL.loadE tOk; exact rfl; exact rfl; exact rfl; exact rfl; exact rfl; assumption) | (apply FL.indexE tOk; exact rfl; exact rfl; exact rfl; exact rfl; exact rfl; exact rfl; exact rfl; exact rfl; assumption; exact rfl; omega; assumption; intro b off h; have hcc := h; first | (obtain ⟨h1, h2, h3, h4, h5, h6, _⟩ := h) | (obtain ⟨h1, h2, h3, _⟩ := h) | (obtain ⟨h1, h2, _⟩ := h) | (obtain ⟨h1, _⟩ := h)))
      | (show FL _ _ _ _ _ _ _ _; first | apply FL.nilS | (refine FL.au (k := ?_)))
      | (show Z _ _ _ _ _; first | (apply Z.sgL; exact rfl) | (apply Z.sgE; (focus ((intro m; first | assumption | (apply Ext.at; (exact extA)) | apply But.of_at; first | exact But.upd (by assumption) | exact But.ext (by (exact extA)) | (refine But.trans ?_ (But.upd (by assumption)); exact But.ext (by (exact extA))) | exact But.at _ _ _); done))))
      | (show Z _ _ _ _ _; first | apply Z.then_normal | apply Z.block_normal)
      | (show W _ _ _ _ _ _; first | apply W.seq | apply W.region | apply W.block | apply W.skip))
    all_goals exact Z.againW ⟨by omega, (by (exact extA)), a', cap', by rw [e1]; exact hS⟩ ⟨rfl, rfl, rfl, rfl, rfl, trivial⟩
  obtain rfl : k = c.lat.2.2.length := by omega
  rw [List.take_length] at hS
  repeat' (first
    | (show WL _ _ _ _ _ _ _; first | apply WL.nil | (refine WL.au (k := ?_)))
    | (show Z _ _ _ _ _; apply Z.then_normal)
    | (show W _ _ _ _ _ _; first | apply W.seq | apply W.region))
  refine W.condKF rfl (dec_false (by omega)) ?_
  repeat' (first
    | (show WL _ _ _ _ _ _ _; first | apply WL.nil | (refine WL.au (k := ?_)))
    | (show Z _ _ _ _ _; first | apply Z.then_normal | apply Z.then_exit | apply Z.block_exit)
    | (show W _ _ _ _ _ _; first | apply W.seq | apply W.region | apply W.block | apply W.exit))
  have hS7 : Lt.Sep w4.heap.size w7 (rnP w4.heap.size g6 sa sc (startL c.t) none 0 []) := Sep.ofPerm (List.reverse_perm [_, _, _]) (Sep.newRow (s := 1) (enc := encRB) (el := 22) (a := none) (cap := 0) (l := []) hS (Ext.refl _) Own.nil (fun k hk => by cases hk) (Below.size hX7))
  have hil9 : ins.length + 1 = (runL c.ins.2.2.length ins).length := (runL_len _ _).symm
  clear hS
  refine W.loopW (ins.length + 1) (fun k w' => k ≤ ins.length + 1 ∧ Ext w4 w' ∧ ∃ ia ic rs, Lt.Sep w4.heap.size w' (rnP w4.heap.size g6 sa sc (startL c.t) ia ic rs) ∧ rs.map (fun q => q.2.2) = (runL c.ins.2.2.length ins).take k) (fun k => [(1, .slice bo ins.length bc), (2, .pointer (some ⟨gc, 0, none⟩)), (5, .pointer (some ⟨gm, 0, none⟩)), (6, .pointer (some ⟨g6, 0, none⟩)), (8, .int .i64 k)]) ⟨Nat.zero_le _, hX7, none, 0, [], hS7, by simp⟩ (fun k w' h => h.1) ⟨rfl, rfl, rfl, rfl, rfl, trivial⟩ ?_
  clear hS7 hX7 hlt hk y0 y1 y2 y3 y4 y5 y6
  rintro k w7 ⟨hk, hX7, ia, ic, rs, hS, hrs⟩
  have hrl : rs.length = k := by have := congrArg List.length hrs; rw [List.length_map, List.length_take, runL_len] at this; omega
  obtain ⟨y0, y1, y2, y3, y4, y5, y6, _⟩ := hcc4.ext hX7
  by_cases hlt : k < ins.length + 1
  · have hrun : (runL c.ins.2.2.length ins)[k]? = some (if c.ins.2.2.length = 0 then [] else [ins.getD k false]) := by unfold runL; rw [List.getElem?_map, List.getElem?_range (by omega)]; rfl
    have hst := take_succ' hrun
    have RB7 := RB.ext (hX4.trans hX7)
    repeat' (first
      | (show WL _ _ _ _ _ _ _; first | apply WL.nil | (refine WL.au (k := ?_)))
      | (show Z _ _ _ _ _; apply Z.then_normal)
      | (show W _ _ _ _ _ _; first | apply W.seq | apply W.region))
    refine W.condKT rfl (dec_true (by omega)) ?_
    repeat' (first
      | (apply WL.lit (len := 0) tOk; exact rfl; exact rfl; exact rfl; exact rfl; exact rfl; exact rfl; (first | exact rfl | kernel_rfl | (simp [Instr.fill, catCells]; done)); exact rfl; intro gb w' hb hge hc hx; have hO0 := Own.of_block0 (enc := encB) (s := 1) hb hge; (obtain ⟨g9, rfl⟩ : ∃ x, x = gb := ⟨_, rfl⟩; obtain ⟨w8, rfl⟩ : ∃ x, x = w' := ⟨_, rfl⟩; obtain ⟨hx8, rfl⟩ : ∃ x, x = hx := ⟨_, rfl⟩; obtain ⟨hge9, rfl⟩ : ∃ x, x = hge := ⟨_, rfl⟩))
      | (show WL _ _ _ _ _ _ _; first | apply WL.nil | (refine WL.au (k := ?_)))
      | (show Z _ _ _ _ _; apply Z.then_normal)
      | (show W _ _ _ _ _ _; first | apply W.seq | apply W.region | apply W.block | apply W.skip))
    have hX8 : Ext w4 w8 := hX7.trans hx8
    by_cases hc0 : c.ins.2.2.length = 0
    · rw [if_pos hc0] at hst
      refine W.condKF rfl (dec_false (by omega)) ?_
      have hS8 : Lt.Sep w4.heap.size w8 (rnP w4.heap.size g6 sa sc (startL c.t) ia ic rs ++ [pB w4.heap.size (some ⟨g9, 0, none⟩, 0, [])]) := Sep.rot (Sep.newRow' hS hx8 hO0 (Below.size hX7))
      have hOo := hS8.row (i := 2) rfl
      have hcg := hS8.cell (i := 0) rfl
      obtain ⟨n0, n1, _⟩ := cells_heap hcg
      repeat' (first
        | (apply WL.lit tOk; exact rfl; exact rfl; exact rfl; exact rfl; exact rfl; exact rfl; (first | exact rfl | kernel_rfl | (simp [Instr.fill, catCells]; done)); exact rfl; intro gb w' hb hge hc hx)
        | (apply WL.append1 (z := (((some ⟨g9, 0, none⟩, 0, []) : RowV Bool))) tOk encRB_ok; exact rfl; exact rfl; exact rfl; exact rfl; exact rfl; exact rfl; exact rfl; exact rfl; exact rfl; exact rfl; assumption; (exact extA); (first | exact rfl | (focus (simp only [List.length_set]; done)) | (focus (simp; done)) | (focus (simp [*]; done)) | omega | (focus (simp only [List.length_set]; omega))); (first | assumption | (refine Cells.ext ?_ (by assumption); exact extA)); exact rfl; exact rfl; (exact extA); (first | omega | (simp; omega) | (simp at *; omega)); intro a' cap' w' hO hX' hU hF)
        | (show WL _ _ _ _ _ _ _; (refine WL.au (k := ?_)))
        | (show Z _ _ _ _ _; apply Z.then_normal)
        | (show W _ _ _ _ _ _; first | apply W.region | apply W.skip))
      have hS9 := rn_push (Sep.ext hS8 (by (exact extA))) hU hO hF (Below.size (show Ext w4 _ from (by (exact extA))))
      have hc9 := hS9.cell (i := 0) rfl
      obtain ⟨ia2, rfl⟩ : ∃ x, x = a' := ⟨_, rfl⟩; obtain ⟨ic2, rfl⟩ : ∃ x, x = cap' := ⟨_, rfl⟩; obtain ⟨w9, rfl⟩ : ∃ x, x = w' := ⟨_, rfl⟩
      clear hU hO hF
      repeat' (first
        | ((apply WL.storeF (w0 := w4) tOk; exact rfl; exact rfl; exact rfl; exact rfl; exact hc9; exact (by (exact extA)); exact rfl; exact rfl; exact rfl; exact rfl; exact (by (exact extA)); exact hg6; intro w' hb hX' hU))
        | (show WL _ _ _ _ _ _ _; first | apply WL.nil | (refine WL.au (k := ?_)))
        | (show Z _ _ _ _ _; first | apply Z.then_normal | apply Z.block_normal)
        | (show W _ _ _ _ _ _; apply W.region))
      have hS10 := Sep.updCell (i := 0) rfl hU hb hS9 (Ext.refl _) (Below.size (show Ext w4 _ from (by (exact extA))))
      exact Z.againW ⟨by omega, hX', ia2, ic2, _, hS10, by rw [List.map_append, hrs, hst]; rfl⟩ ⟨rfl, rfl, rfl, rfl, rfl, trivial⟩
    · rw [if_neg hc0] at hst
      refine W.condKT rfl (dec_true (by omega)) ?_
      have hz0 : ([] : List Bool).length = 0 := rfl
      have hSe : Lt.Sep w4.heap.size w8 (pB w4.heap.size (some ⟨g9, 0, none⟩, 0, []) :: rnP w4.heap.size g6 sa sc (startL c.t) ia ic rs) := Sep.newRow' hS hx8 hO0 (Below.size hX7)
      have hOe : Own 1 encB 4 w4.heap.size w8 (some ⟨g9, 0, none⟩) 0 [] := hSe.row (i := 0) rfl
      obtain ⟨b, hb9⟩ : ∃ b, ins.getD k false = b := ⟨_, rfl⟩
      rw [hb9] at hst
      refine W.cutT (σ := (Option Addr × Nat) × World) (fun s => Ext w4 s.2 ∧ Lt.Sep w4.heap.size s.2 (rnP w4.heap.size g6 sa sc (startL c.t) ia ic rs ++ [pB w4.heap.size (s.1.1, s.1.2, [b])])) (fun s => [(1, .slice bo ins.length bc), (2, .pointer (some ⟨gc, 0, none⟩)), (5, .pointer (some ⟨gm, 0, none⟩)), (6, .pointer (some ⟨g6, 0, none⟩)), (8, .int .i64 k), (9, .slice s.1.1 1 s.1.2)]) (fun s => s.2) ?_ ?_
      · by_cases hki : k < ins.length
        · obtain ⟨bb, hbb⟩ := getI ins hki
          rw [getD_of hbb] at hb9
          subst hb9
          repeat' (first
            | (apply WL.gT; exact rfl; exact rfl; (focus (first | exact dec_true (by omega); done)))
            | (apply WL.lit tOk; exact rfl; exact rfl; exact rfl; exact rfl; exact rfl; exact rfl; (first | exact rfl | kernel_rfl | (simp [Instr.fill, catCells]; done)); exact rfl; intro gb w' hb hge hc hx)
            | (apply WL.append1 (z := (bb)) tOk encB_ok; exact rfl; exact rfl; exact rfl; exact rfl; exact rfl; exact rfl; exact rfl; exact rfl; exact rfl; exact rfl; assumption; (exact extA); (first | exact rfl | (focus (simp only [List.length_set]; done)) | (focus (simp; done)) | (focus (simp [*]; done)) | omega | (focus (simp only [List.length_set]; omega))); (first | assumption | (refine Cells.ext ?_ (by assumption); exact extA)); exact rfl; exact rfl; (exact extA); (first | omega | (simp; omega) | (simp at *; omega)); intro a' cap' w' hO hX' hU hF)
            | (show WL _ _ _ _ _ _ _; first | apply WL.nil | (refine WL.au (k := ?_)) | (apply WL.index tOk; exact rfl; exact rfl; exact rfl; exact rfl; exact rfl; exact rfl; exact rfl; exact rfl; assumption; (exact extA); exact rfl; omega; assumption; intro b off h; have hcc := h; first | (obtain ⟨h1, h2, h3, h4, h5, h6, _⟩ := h) | (obtain ⟨h1, h2, h3, _⟩ := h) | (obtain ⟨h1, h2, _⟩ := h) | (obtain ⟨h1, _⟩ := h)))
            | (show W _ _ _ _ _ _; apply W.region))
          refine Z.cut ((a', cap'), w') ⟨(by (exact extA)), ?_⟩ ⟨rfl, rfl, rfl, rfl, rfl, rfl, trivial⟩ rfl
          exact Sep.rot (Sep.updRow (i := 0) rfl hU hO hF (Sep.ext hSe hx) (Ext.refl _) (Below.size (show Ext w4 _ from (by (exact extA)))))
        · have hb9' : b = false := by rw [← hb9]; simp [List.getD, List.getElem?_eq_none (show ins.length ≤ k by omega)]
          subst hb9'
          repeat' (first
            | (apply WL.gF; exact rfl; exact rfl; (focus (first | exact dec_false (by omega); done)))
            | (apply WL.lit tOk; exact rfl; exact rfl; exact rfl; exact rfl; exact rfl; exact rfl; (first | exact rfl | kernel_rfl | (simp [Instr.fill, catCells]; done)); exact rfl; intro gb w' hb hge hc hx)
            | (apply WL.append1 (z := (false)) tOk encB_ok; exact rfl; exact rfl; exact rfl; exact rfl; exact rfl; exact rfl; exact rfl; exact rfl; exact rfl; exact rfl; assumption; (exact extA); (first | exact rfl | (focus (simp only [List.length_set]; done)) | (focus (simp; done)) | (focus (simp [*]; done)) | omega | (focus (simp only [List.length_set]; omega))); (first | assumption | (refine Cells.ext ?_ (by assumption); exact extA)); exact rfl; exact rfl; (exact extA); (first | omega | (simp; omega) | (simp at *; omega)); intro a' cap' w' hO hX' hU hF)
            | (show WL _ _ _ _ _ _ _; first | apply WL.nil | (refine WL.au (k := ?_)) | (apply WL.guardF; exact rfl; exact rfl))
            | (show W _ _ _ _ _ _; apply W.region))
          refine Z.cut ((a', cap'), w') ⟨(by (exact extA)), ?_⟩ ⟨rfl, rfl, rfl, rfl, rfl, rfl, trivial⟩ rfl
          exact Sep.rot (Sep.updRow (i := 0) rfl hU hO hF (Sep.ext hSe hx) (Ext.refl _) (Below.size (show Ext w4 _ from (by (exact extA)))))
      rintro ⟨⟨qa, qc⟩, w9⟩ ⟨hX9, hS8⟩
      dsimp only at hX9 hS8 ⊢
      clear hSe hOe hO0 hx8 hS hX8 RB7 y0 y1 y2 y3 y4 y5 y6
      have hOo := hS8.row (i := 2) rfl
      have hcg := hS8.cell (i := 0) rfl
      obtain ⟨n0, n1, _⟩ := cells_heap hcg
      repeat' (first
        | (apply WL.lit tOk; exact rfl; exact rfl; exact rfl; exact rfl; exact rfl; exact rfl; (first | exact rfl | kernel_rfl | (simp [Instr.fill, catCells]; done)); exact rfl; intro gb w' hb hge hc hx)
        | (apply WL.append1 (z := (((qa, qc, [b]) : RowV Bool))) tOk encRB_ok; exact rfl; exact rfl; exact rfl; exact rfl; exact rfl; exact rfl; exact rfl; exact rfl; exact rfl; exact rfl; assumption; (exact extA); (first | exact rfl | (focus (simp only [List.length_set]; done)) | (focus (simp; done)) | (focus (simp [*]; done)) | omega | (focus (simp only [List.length_set]; omega))); (first | assumption | (refine Cells.ext ?_ (by assumption); exact extA)); exact rfl; exact rfl; (exact extA); (first | omega | (simp; omega) | (simp at *; omega)); intro a' cap' w' hO hX' hU hF)
        | (show WL _ _ _ _ _ _ _; (refine WL.au (k := ?_)))
        | (show W _ _ _ _ _ _; apply W.region))
      have hS9 := rn_push (Sep.ext hS8 (by (exact extA))) hU hO hF (Below.size (show Ext w4 _ from (by (exact extA))))
      have hc9 := hS9.cell (i := 0) rfl
      obtain ⟨ia2, rfl⟩ : ∃ x, x = a' := ⟨_, rfl⟩; obtain ⟨ic2, rfl⟩ : ∃ x, x = cap' := ⟨_, rfl⟩; obtain ⟨w9, rfl⟩ : ∃ x, x = w' := ⟨_, rfl⟩
      clear hU hO hF
      repeat' (first
        | ((apply WL.storeF (w0 := w4) tOk; exact rfl; exact rfl; exact rfl; exact rfl; exact hc9; exact (by (exact extA)); exact rfl; exact rfl; exact rfl; exact rfl; exact (by (exact extA)); exact hg6; intro w' hb hX' hU))
        | (show WL _ _ _ _ _ _ _; first | apply WL.nil | (refine WL.au (k := ?_)))
        | (show Z _ _ _ _ _; first | apply Z.then_normal | apply Z.block_normal)
        | (show W _ _ _ _ _ _; apply W.region))
      have hS10 := Sep.updCell (i := 0) rfl hU hb hS9 (Ext.refl _) (Below.size (show Ext w4 _ from (by (exact extA))))
      exact Z.againW ⟨by omega, hX', ia2, ic2, _, hS10, by rw [List.map_append, hrs, hst]; rfl⟩ ⟨rfl, rfl, rfl, rfl, rfl, trivial⟩
  obtain rfl : k = ins.length + 1 := by omega
  rw [hil9, List.take_length] at hrs
  obtain ⟨rr, hrr⟩ : ∃ rr : RunV, rr = ⟨(sa, sc, startL c.t), (ia, ic, rs)⟩ := ⟨_, rfl⟩
  have hRA : RAt w7 rr := by
    rw [hrr]
    refine ⟨(hS.row (i := 1) rfl).row encB_ok, (hS.row (i := 2) rfl).row encRB_ok, fun x hx => ?_⟩
    obtain ⟨j, hj⟩ := List.mem_iff_getElem?.1 hx
    have : (rnP w4.heap.size g6 sa sc (startL c.t) ia ic rs)[3 + j]? = some (pB w4.heap.size x) := by
      show (_ :: _ :: _ :: rs.map (pB w4.heap.size))[3 + j]? = _
      rw [show 3 + j = j + 1 + 1 + 1 by omega, List.getElem?_cons_succ, List.getElem?_cons_succ, List.getElem?_cons_succ, List.getElem?_map, hj]; rfl
    exact (hS.row this).row encB_ok
  have hxr : Cells w7 g6 0 [rowVal rr.st, rowVal rr.ins] := by rw [hrr]; exact cells_heap (hS.cell (i := 0) rfl)
  have hri : rr.i = runL c.ins.2.2.length ins := by rw [hrr]; exact hrs
  have hrs0 : rr.s = startL c.t := by rw [hrr]
  have hbr := fun (w9 : World) (h9 : Ext w7 w9) => ref17_Breaks gm c rn ra rr 0 w9 (hM.1.ext (hX7.trans h9)) (hRA.ext h9) (by rw [hrr]; show rs.length ≤ _; omega)
  rw [hri, hrs0] at hbr
  repeat' (first
    | (show WL _ _ _ _ _ _ _; first | apply WL.nil | (refine WL.au (k := ?_)))
    | (show Z _ _ _ _ _; apply Z.then_normal)
    | (show W _ _ _ _ _ _; first | apply W.seq | apply W.region))
  refine W.condKF rfl (dec_false (by omega)) ?_
  repeat' (first
    | (((show WL _ _ _ (⟨_, .call ⟨.value (.func 77), _, _⟩, _, _, _, _⟩ :: _) _ _ _); apply WL.callP; exact rfl; exact rfl; exact rfl; exact rfl; exact hbr _ (by (exact extA)); intro w9 hx9))
    | (show WL _ _ _ _ _ _ _; first | apply WL.nil | (refine WL.au (k := ?_)))
    | (show Z _ _ _ _ _; first | apply Z.then_normal | apply Z.then_exit | apply Z.block_exit)
    | (show W _ _ _ _ _ _; first | apply W.seq | apply W.region | apply W.ret | apply W.exit))
  exact Z.body1 Try.results21 rfl fun m => ⟨rfl, Ext.at (hX4.trans (hX7.trans (by (exact extA)))) m⟩
end Go.Proofs.Ythpnahapiodflaa
namespace Go.Proofs.Ythpnahapiodflaa
open Go Go.Lt Go.RowKit
set_option linter.unusedVariables false
set_option linter.unusedSimpArgs false
set_option maxRecDepth 20000

theorem gen_before (a : Option Addr) (cap : Nat) (L : List Int) (i : Nat) (x : Int) (w : World) (R : Row 1 encI w a L) (hL : L.length ≤ 1000) (hi : i < L.length) (hx : L[(i + L.length - 1) % L.length]? = some x) :
    Still Try.prog 86 [.slice a L.length cap, .int .i64 i] w (.int .i64 x) := by
  have hx' : L[(((i : Nat) : Int) + (L.length : Int) - 1).toNat % L.length]? = some x := by rw [show (((i : Nat) : Int) + (L.length : Int) - 1).toNat = i + L.length - 1 by omega]; exact hx
  have e : ((((i : Nat) : Int) + (L.length : Int) - 1) % (L.length : Int)).toNat = (i + L.length - 1) % L.length := by
    rw [show ((i : Nat) : Int) + (L.length : Int) - 1 = ((i + L.length - 1 : Nat) : Int) by omega]; rfl
  have hx2 : L[((((i : Nat) : Int) + (L.length : Int) - 1) % (L.length : Int)).toNat]? = some x := by rw [e]; exact hx
  have hm := Int.emod_nonneg (((i : Nat) : Int) + (L.length : Int) - 1) (show (L.length : Int) ≠ 0 by omega)
  have hm2 := Int.emod_lt_of_pos (((i : Nat) : Int) + (L.length : Int) - 1) (show (0 : Int) < L.length by omega)
  generalize hz : (((i : Nat) : Int) + (L.length : Int) - 1) % (L.length : Int) = z at hx2 hm hm2
  refine Spec.of _ Try.func86 rfl Try.ntmps86 (by kernel_rfl) rfl ?_
  repeat' (first
    | ((apply WL.rem; exact rfl; exact rfl; exact rfl; exact rfl; omega; rw [hz]))
    | (show WL _ _ _ _ _ _ _; first | apply WL.nil | (refine WL.au (k := ?_)) | (apply WL.index tOk; exact rfl; exact rfl; exact rfl; exact rfl; exact rfl; exact rfl; exact rfl; exact rfl; assumption; (exact extA); exact rfl; omega; assumption; intro b off h; have hcc := h; first | (obtain ⟨h1, h2, h3, h4, h5, h6, _⟩ := h) | (obtain ⟨h1, h2, h3, _⟩ := h) | (obtain ⟨h1, h2, _⟩ := h) | (obtain ⟨h1, _⟩ := h)))
    | (show Z _ _ _ _ _; apply Z.then_normal)
    | (show W _ _ _ _ _ _; first | apply W.seq | apply W.region | apply W.ret))
  exact Z.body1 Try.results86 rfl fun m => ⟨rfl, m, rfl⟩
theorem gen_RingNo (w : World) (n a : Int) (h : ¬ (1 ≤ n ∧ n ≤ 200 ∧ 0 ≤ a ∧ a < n)) : Lt.Spec Try.prog 25 [.int .i64 n, .int .i64 a] w (fun v w' => Ext w w' ∧ v = .tuple #[zCirc.val, .int .i64 1]) := by
  refine Spec.of _ Try.func25 rfl Try.ntmps25 (by kernel_rfl) rfl ?_
  repeat' (first
    | (apply WL.alloc tOk; exact rfl; exact rfl; exact rfl; intro gb w' hb hge hx; (obtain ⟨g2, rfl⟩ : ∃ x, x = gb := ⟨_, rfl⟩; obtain ⟨w2, rfl⟩ : ∃ x, x = w' := ⟨_, rfl⟩; obtain ⟨hx2, rfl⟩ : ∃ x, x = hx := ⟨_, rfl⟩; obtain ⟨hb2, rfl⟩ : ∃ x, x = hb := ⟨_, rfl⟩; obtain ⟨hge2, rfl⟩ : ∃ x, x = hge := ⟨_, rfl⟩))
    | (apply W.condKT; exact rfl; (focus (first | exact dec_true (by omega) | exact dec_false (by omega); done)))
    | (((show WL _ _ _ (⟨_, .call ⟨.value (.func 78), _, _⟩, _, _, _, _⟩ :: _) _ _ _); apply WL.call; exact rfl; exact rfl; exact rfl; exact rfl; exact gen_refused _; rintro v' w3 ⟨hx3, rfl⟩))
    | (apply WL.storeB (w0 := w) tOk; exact rfl; exact rfl; exact rfl; exact rfl; assumption; (exact extA); exact rfl; exact rfl; exact rfl; (exact extA); (first | assumption | omega | (focus (apply Nat.le_trans; rotate_left; assumption; exact Below.size (by (exact extA)); done))); intro w' hb hc hX' hU; have hcc := hc; obtain ⟨h1, h2, _⟩ := hc; (obtain ⟨w4, rfl⟩ : ∃ x, x = w' := ⟨_, rfl⟩; obtain ⟨hb4, rfl⟩ : ∃ x, x = hb := ⟨_, rfl⟩; obtain ⟨hX4, rfl⟩ : ∃ x, x = hX' := ⟨_, rfl⟩))
    | (show WL _ _ _ _ _ _ _; first | apply WL.nil | (refine WL.au (k := ?_)) | (apply WL.guardF; exact rfl; exact rfl) | (apply WL.gD; exact rfl; exact rfl; all_goals intro _))
    | (show Z _ _ _ _ _; first | apply Z.then_normal | apply Z.then_ret)
    | (show W _ _ _ _ _ _; first | apply W.seq | apply W.region | apply W.ret | (apply W.condT; exact rfl)))
  all_goals first
    | exact Z.bodyCT tOk Try.results25 rfl rfl rfl rfl rfl (cells_heap hb4) fun m => ⟨hX4.at m, rfl⟩
    | (exfalso; omega)
/-- A ring's next states, so many of them. -/
def ringTo (n k : Nat) : List Int := (List.range n).map fun i => if i < k then 2 * ((((i + n - 1) % n : Nat) : Int) + 1) else 0
theorem ringTo_len (n k : Nat) : (ringTo n k).length = n := by simp [ringTo]
theorem ringTo_0 (n : Nat) : ringTo n 0 = List.replicate n 0 := by
  apply List.ext_getElem?
  intro i
  by_cases h : i < n
  · rw [show (ringTo n 0)[i]? = some 0 from range_get _ h, List.getElem?_replicate, if_pos h]
  · rw [List.getElem?_eq_none (by rw [ringTo_len]; omega), List.getElem?_eq_none (by rw [List.length_replicate]; omega)]
theorem ringTo_all (n : Nat) : ringTo n n = ringNext n := by
  unfold ringTo ringNext
  apply List.map_congr_left
  intro i hi
  rw [if_pos (List.mem_range.1 hi)]
theorem ringTo_set {n k : Nat} (h : k < n) : (ringTo n k).set k (2 * ((((k + n - 1) % n : Nat) : Int) + 1)) = ringTo n (k + 1) := by
  apply List.ext_getElem?
  intro i
  by_cases hi : i < n
  · rw [show (ringTo n (k + 1))[i]? = _ from range_get _ hi]
    by_cases hik : i = k
    · subst hik
      rw [List.getElem?_set_self (by rw [ringTo_len]; exact h), if_pos (by omega)]
    · rw [List.getElem?_set_ne (fun h => hik h.symm), show (ringTo n k)[i]? = _ from range_get _ hi]
      by_cases h2 : i < k
      · rw [if_pos h2, if_pos (by omega)]
      · rw [if_neg h2, if_neg (by omega)]
  · rw [List.getElem?_eq_none (by rw [List.length_set, ringTo_len]; omega), List.getElem?_eq_none (by rw [ringTo_len]; omega)]
theorem ringRes_set {n : Nat} (h : 1 ≤ n) : (List.replicate n (0 : Int)).set 0 1 = ringRes n := by
  apply List.ext_getElem?
  intro i
  by_cases hi : i < n
  · rw [show (ringRes n)[i]? = _ from range_get _ hi]
    by_cases hi0 : i = 0
    · subst hi0
      rw [List.getElem?_set_self (by rw [List.length_replicate]; omega), if_pos rfl]
    · rw [List.getElem?_set_ne (fun h => hi0 h.symm), if_neg hi0, List.getElem?_replicate, if_pos hi]
  · rw [List.getElem?_eq_none (by rw [List.length_set, List.length_replicate]; omega), List.getElem?_eq_none (by rw [ringRes_len]; omega)]
set_option maxHeartbeats 16000000 in
theorem gen_Ring (w : World) (n t : Nat) (h1 : 1 ≤ n) (hn : n ≤ 200) (ht : t < n) : Lt.Spec Try.prog 25 [.int .i64 n, .int .i64 t] w (fun v w' => Ext w w' ∧ ∃ d : Circ, v = .tuple #[d.val, .int .i64 0] ∧ d.t = ringC n t ∧ CAt w' d) := by
  refine Spec.of _ Try.func25 rfl Try.ntmps25 (by kernel_rfl) rfl ?_
  repeat' (first
    | (apply WL.alloc tOk; exact rfl; exact rfl; exact rfl; intro gb w' hb hge hx; (obtain ⟨g2, rfl⟩ : ∃ x, x = gb := ⟨_, rfl⟩; obtain ⟨w2, rfl⟩ : ∃ x, x = w' := ⟨_, rfl⟩; obtain ⟨hx2, rfl⟩ : ∃ x, x = hx := ⟨_, rfl⟩; obtain ⟨hb2, rfl⟩ : ∃ x, x = hb := ⟨_, rfl⟩; obtain ⟨hge2, rfl⟩ : ∃ x, x = hge := ⟨_, rfl⟩))
    | (apply WL.gF; exact rfl; exact rfl; (focus (first | exact dec_false (by omega); done)))
    | (show WL _ _ _ _ _ _ _; first | apply WL.nil | (refine WL.au (k := ?_)))
    | (show Z _ _ _ _ _; apply Z.then_normal)
    | (show W _ _ _ _ _ _; first | apply W.seq | apply W.region))
  refine W.condKF rfl (dec_false (by omega)) ?_
  repeat' (first
    | (((show WL _ _ _ (⟨_, .call ⟨.value (.func 79), _, _⟩, _, _, _, _⟩ :: _) _ _ _); apply WL.call; exact rfl; exact rfl; exact rfl; exact rfl; exact gen_begin w2 0 n (by omega) (by omega); rintro v' w3 ⟨hx3, gb9, gs, a, cap, r, ai, ci, al, cl, rfl, hS⟩))
    | (show WL _ _ _ _ _ _ _; first | apply WL.nil | (refine WL.au (k := ?_)))
    | (show Z _ _ _ _ _; apply Z.then_normal)
    | (show W _ _ _ _ _ _; first | apply W.seq | apply W.region | apply W.skip))
  rw [Nat.zero_add] at hS
  refine W.cutT (σ := (Nat × Nat) × World) (fun s => Ext w2 s.2 ∧ Lt.Sep w2.heap.size s.2 (stN w2.heap.size gs a cap r (List.replicate n (-1, 0)) ++ (bdP w2.heap.size gb9 gs ai ci (evenL 0 0) al cl (evenL 0 n) ++ [prow 1 encI 3 w2.heap.size (some ⟨s.1.1, 0, none⟩) n (ringTo n 0), prow 1 encI 3 w2.heap.size (some ⟨s.1.2, 0, none⟩) n (List.replicate n 0)]))) (fun s => [(1, .int .i64 t), (4, .pointer (some ⟨g2, 0, none⟩)), (6, .pointer (some ⟨gb9, 0, none⟩)), (7, .slice (some ⟨s.1.1, 0, none⟩) n n), (8, .slice (some ⟨s.1.2, 0, none⟩) n n)]) (fun s => s.2) ?_ ?_
  · have hX3 : Ext w2 w3 := hx3
    repeat' (first
      | (show W _ _ (.region 4 _ _) _ _ _; apply W.regionGX (.fl true 0 (.fl true 2 (.br 1 (.fl true 4 (.br 3 (.fl true 5 .done) .stop)) (.br 3 (.br 1 (.fl true 4 (.fl true 5 .done)) .stop) .stop)))) [] tMix; kernel_rfl)
      | (apply WL.make (w0 := w2) (z := (0:Int)) tOk; exact rfl; exact rfl; exact rfl; exact rfl; exact rfl; exact rfl; exact rfl; exact rfl; exact rfl; exact encI_ok; exact rfl; exact rfl; (exact extA); (first | omega | (simp; omega) | (simp at *; omega)); intro gb w' hO hge hx; (first | (have h_0 := g31; clear h_0; obtain ⟨g33, rfl⟩ : ∃ x, x = gb := ⟨_, rfl⟩; replace hS := Sep.rot (Sep.newRow (Sep.ext hS (by (exact extA))) hx hO (fun k hk => by cases hk; exact hge) (Below.size (by (exact extA))))) | (obtain ⟨g31, rfl⟩ : ∃ x, x = gb := ⟨_, rfl⟩; replace hS := Sep.rot (Sep.newRow (Sep.ext hS (by (exact extA))) hx hO (fun k hk => by cases hk; exact hge) (Below.size (by (exact extA)))))))
      | (show SX _ _ _ _ _ _ _ _ _; first | (apply SX.done; intro w' hx) | (apply SX.fl0; exact rfl) | (apply SX.br1; exact rfl; intro w' hx) | (apply SX.br; exact rfl; (intro w' hx)))
      | (show FL _ _ _ _ _ _ _ _; apply FL.nilX)
      | (show FL _ _ _ _ _ _ _ _; (refine FL.au (k := ?_)))
      | (show Z _ _ _ _ _; (apply Z.sxL; exact rfl))
      | (show WL _ _ _ _ _ _ _; apply WL.nil))
    all_goals
      simp only [Int.toNat_natCast, List.length_replicate] at hS ⊢
      rw [ringTo_0]
      first
        | exact Z.cut ((g31, g33), w') ⟨(by (exact extA)), Sep.ext hS (by (exact extA))⟩ ⟨rfl, rfl, rfl, rfl, rfl, trivial⟩ rfl
        | exact Z.cut ((g33, g31), w') ⟨(by (exact extA)), Sep.ext (Sep.ofPerm (ps := (stN w2.heap.size gs a cap r (List.replicate n (-1, 0)) ++ bdP w2.heap.size gb9 gs ai ci (evenL 0 0) al cl (evenL 0 n)) ++ [_, _]) (List.Perm.append_left _ (List.Perm.swap _ _ [])) hS) (by (exact extA))⟩ ⟨rfl, rfl, rfl, rfl, rfl, trivial⟩ rfl
  rintro ⟨⟨g7, g8⟩, w4⟩ ⟨hX4, hS4⟩
  dsimp only at hX4 hS4 ⊢
  repeat' (first
    | (show WL _ _ _ _ _ _ _; first | apply WL.nil | (refine WL.au (k := ?_)))
    | (show Z _ _ _ _ _; apply Z.then_normal)
    | (show W _ _ _ _ _ _; first | apply W.seq | apply W.region | apply W.block))
  refine W.loopW n (fun k w' => k ≤ n ∧ Ext w2 w' ∧ Lt.Sep w2.heap.size w' (stN w2.heap.size gs a cap r (List.replicate n (-1, 0)) ++ (bdP w2.heap.size gb9 gs ai ci (evenL 0 0) al cl (evenL 0 n) ++ [prow 1 encI 3 w2.heap.size (some ⟨g7, 0, none⟩) n (ringTo n k), prow 1 encI 3 w2.heap.size (some ⟨g8, 0, none⟩) n (List.replicate n 0)]))) (fun k => [(1, .int .i64 t), (4, .pointer (some ⟨g2, 0, none⟩)), (6, .pointer (some ⟨gb9, 0, none⟩)), (7, .slice (some ⟨g7, 0, none⟩) n n), (8, .slice (some ⟨g8, 0, none⟩) n n), (35, .int .i64 n), (36, .int .i64 k)]) ⟨Nat.zero_le _, hX4, hS4⟩ (fun k w' h => h.1) ⟨rfl, rfl, rfl, rfl, rfl, rfl, rfl, trivial⟩ ?_
  clear hS4 hX4 hS
  rintro k w5 ⟨hk, hX5, hS⟩
  have hlL := evenL_len 0 n
  have hRl := (hS.row (i := 5) rfl).row encI_ok
  have hOn := hS.row (i := 6) rfl
  have hOr := hS.row (i := 7) rfl
  obtain ⟨n0, n1, n2, _⟩ := cells_heap (hS.cell (i := 3) rfl)
  by_cases hlt : k < n
  · have hm := Nat.mod_lt (k + n - 1) (show 0 < n by omega)
    have hbf := gen_before al cl (evenL 0 n) k (2 * ((((k + n - 1) % n : Nat) : Int) + 1)) w5 hRl (by omega) (by omega) (by rw [hlL, evenL_get 0 n hm, Nat.zero_add])
    have hlr := ringTo_len n k
    have hxk : (ringTo n k)[((k : Nat) : Int).toNat]? = some 0 := by rw [Int.toNat_natCast, show (ringTo n k)[k]? = _ from range_get _ hlt, if_neg (by omega)]
    repeat' (first
      | (show WL _ _ _ _ _ _ _; first | apply WL.nil | (refine WL.au (k := ?_)))
      | (show Z _ _ _ _ _; apply Z.then_normal)
      | (show W _ _ _ _ _ _; first | apply W.seq | apply W.region))
    refine W.condKT rfl (dec_true (by omega)) ?_
    repeat' (first
      | (apply WL.nilc; exact rfl; exact rfl; exact rfl)
      | (apply WL.callS; exact rfl; exact rfl; exact rfl; exact rfl; exact hbf)
      | (apply WL.indexO tOk; exact rfl; exact rfl; exact rfl; exact rfl; exact rfl; exact rfl; exact rfl; exact rfl; assumption; (exact extA); exact encI_ok; (first | exact rfl | (focus (simp only [List.length_set]; done)) | (focus (simp; done)) | (focus (simp [*]; done)) | omega | (focus (simp only [List.length_set]; omega))); omega; assumption; intro gb ha hc; cases ha; have hcc := hc; first | (obtain ⟨h1, h2, h3, _⟩ := hc) | (obtain ⟨h1, h2, _⟩ := hc) | (obtain ⟨h1, _⟩ := hc))
      | (apply WL.storeO (z' := (2 * ((((k + n - 1) % n : Nat) : Int) + 1))) tOk; exact rfl; exact rfl; exact rfl; exact rfl; assumption; (exact extA); exact rfl; exact rfl; exact rfl; exact encI_ok; assumption; exact rfl; (exact extA); intro w' hO hX' hU)
      | (show WL _ _ _ _ _ _ _; first | apply WL.nil | (refine WL.au (k := ?_)))
      | (show Z _ _ _ _ _; first | apply Z.then_normal | apply Z.block_normal)
      | (show W _ _ _ _ _ _; first | apply W.seq | apply W.region | apply W.block | apply W.skip))
    rw [Int.toNat_natCast, ringTo_set hlt] at hO
    have hS6 := Sep.updRow (i := 6) rfl hU hO (.inl rfl) hS (Ext.refl _) (Below.size hX5)
    exact Z.againW ⟨by omega, hX', hS6⟩ ⟨rfl, rfl, rfl, rfl, rfl, rfl, rfl, trivial⟩
  obtain rfl : k = n := by omega
  rw [ringTo_all] at hS hOn
  have hrl := List.length_replicate (n := k) (a := (0 : Int))
  have hx0 : (List.replicate k (0 : Int))[((0 : Int)).toNat]? = some 0 := by rw [List.getElem?_replicate, if_pos (by show 0 < k; omega)]
  have hxt : (evenL 0 k)[((t : Nat) : Int).toNat]? = some (2 * ((t : Int) + 1)) := by rw [Int.toNat_natCast, evenL_get 0 k ht, Nat.zero_add]
  repeat' (first
    | (show WL _ _ _ _ _ _ _; first | apply WL.nil | (refine WL.au (k := ?_)))
    | (show Z _ _ _ _ _; apply Z.then_normal)
    | (show W _ _ _ _ _ _; first | apply W.seq | apply W.region))
  refine W.condKF rfl (dec_false (by omega)) ?_
  repeat' (first
    | (apply WL.nilc; exact rfl; exact rfl; exact rfl)
    | (apply WL.indexO tOk; exact rfl; exact rfl; exact rfl; exact rfl; exact rfl; exact rfl; exact rfl; exact rfl; assumption; (exact extA); exact encI_ok; (first | exact rfl | (focus (simp only [List.length_set]; done)) | (focus (simp; done)) | (focus (simp [*]; done)) | omega | (focus (simp only [List.length_set]; omega))); omega; assumption; intro gb ha hc; cases ha; have hcc := hc; first | (obtain ⟨h1, h2, h3, _⟩ := hc) | (obtain ⟨h1, h2, _⟩ := hc) | (obtain ⟨h1, _⟩ := hc))
    | (apply WL.storeO (z' := ((1 : Int))) tOk; exact rfl; exact rfl; exact rfl; exact rfl; assumption; (exact extA); exact rfl; exact rfl; exact rfl; exact encI_ok; assumption; exact rfl; (exact extA); intro w' hO hX' hU)
    | (show WL _ _ _ _ _ _ _; first | apply WL.nil | (refine WL.au (k := ?_)))
    | (show Z _ _ _ _ _; first | apply Z.then_normal | apply Z.then_exit | apply Z.block_exit)
    | (show W _ _ _ _ _ _; first | apply W.seq | apply W.region | apply W.exit))
  rw [show (List.replicate k (0 : Int)).set (Int.toNat 0) 1 = ringRes k from ringRes_set (by omega)] at hO
  have hX6 : Ext w2 w' := hX'
  have hS7 := Sep.updRow (i := 7) rfl hU hO (.inl rfl) hS (Ext.refl _) (Below.size hX5)
  obtain ⟨w6, rfl⟩ : ∃ x, x = w' := ⟨_, rfl⟩
  have hSf : Lt.Sep w2.heap.size w6 (stN w2.heap.size gs a cap r (List.replicate k (-1, 0)) ++ (bdP w2.heap.size gb9 gs ai ci (evenL 0 0) al cl (evenL 0 k) ++ [prow 1 encI 3 w2.heap.size (some ⟨g7, 0, none⟩) k (ringNext k), prow 1 encI 3 w2.heap.size (some ⟨g8, 0, none⟩) k (ringRes k)])) := hS7
  clear n0 n1 n2 hRl hOn hOr
  have hRl := (hSf.row (i := 5) rfl).row encI_ok
  obtain ⟨n0, n1, n2, _⟩ := cells_heap (hSf.cell (i := 3) rfl)
  have hdn := done_gen w6 w2 0 k gb9 gs r cap ci cl k k a ai al (some ⟨g7, 0, none⟩) (some ⟨g8, 0, none⟩) (List.replicate k (-1, 0)) (ringNext k) (ringRes k) (2 * ((t : Int) + 1)) [prow 1 encI 3 w2.heap.size (some ⟨g7, 0, none⟩) k (ringNext k), prow 1 encI 3 w2.heap.size (some ⟨g8, 0, none⟩) k (ringRes k)] hSf (ring_ok hn ht) (by rw [List.length_replicate]; omega) ((hSf.row (i := 6) rfl).row encI_ok) ((hSf.row (i := 7) rfl).row encI_ok) (ringNext_len k) (ringRes_len k) (by omega)
  rw [ringNext_len, ringRes_len] at hdn
  repeat' (first
    | (((show WL _ _ _ (⟨_, .call ⟨.value (.func 82), _, _⟩, _, _, _, _⟩ :: _) _ _ _); apply WL.call; exact rfl; exact rfl; exact rfl; exact rfl; exact hdn; rintro v' w7 ⟨hx7, d, rfl, hdt, hCd, hst⟩))
    | (apply WL.storeB (w0 := w) tOk; exact rfl; exact rfl; exact rfl; exact rfl; assumption; (exact extA); exact rfl; exact rfl; exact rfl; (exact extA); (first | assumption | omega | (focus (apply Nat.le_trans; rotate_left; assumption; exact Below.size (by (exact extA)); done))); intro w' hb hc hX' hU; have hcc := hc; obtain ⟨h1, h2, _⟩ := hc; (obtain ⟨w8, rfl⟩ : ∃ x, x = w' := ⟨_, rfl⟩; obtain ⟨hb8, rfl⟩ : ∃ x, x = hb := ⟨_, rfl⟩; obtain ⟨hX8, rfl⟩ : ∃ x, x = hX' := ⟨_, rfl⟩))
    | (show WL _ _ _ _ _ _ _; first | apply WL.nil | (refine WL.au (k := ?_)) | (apply WL.index tOk; exact rfl; exact rfl; exact rfl; exact rfl; exact rfl; exact rfl; exact rfl; exact rfl; assumption; (exact extA); exact rfl; omega; assumption; intro b off h; have hcc := h; first | (obtain ⟨h1, h2, h3, h4, h5, h6, _⟩ := h) | (obtain ⟨h1, h2, h3, _⟩ := h) | (obtain ⟨h1, h2, _⟩ := h) | (obtain ⟨h1, _⟩ := h)))
    | (show Z _ _ _ _ _; apply Z.then_normal)
    | (show W _ _ _ _ _ _; apply W.ret))
  exact Z.bodyCT tOk Try.results25 rfl rfl rfl rfl rfl (cells_heap hb8) fun m => ⟨hX8.at m, d, rfl, hdt, (done_old hSf (Ext.refl _) hst hU (heap_lt hb2) hX6 hx7).ext ((Ext.refl _).at m)⟩
end Go.Proofs.Ythpnahapiodflaa
namespace Go.Proofs.Ythpnahapiodflaa
open Go Go.Lt Go.RowKit
set_option linter.unusedVariables false
set_option linter.unusedSimpArgs false
set_option maxRecDepth 20000

theorem law49_plain (c : Circ) (ni nl : Int) (w : World) (hC : CAt w c) (hg : GoodC' c.t) (hz : SzC c.t 100000) (hm : c.max ≤ 2000) (h1 : (c.ins.2.2.length : Int) = ni) (h2 : (c.lat.2.2.length : Int) = nl) (h3 : c.bads.2.2.length = 1) (h4 : c.outs.2.2.length = 0) (h5 : c.cons.2.2.length = 0) (h6 : c.syms.2.2.length = 0) (h7 : c.com.size = 0) :
    Pure Try.prog 20 [c.val, .int .i64 0, .int .i64 ni, .int .i64 nl] w (.bool true) := by
  have s1 := fun (w9 : World) (h9 : Ext w w9) => ref11_Check c w9 (hC.ext h9) hz
  rw [chkC_good.2 hg] at s1
  refine Spec.of _ Try.func20 rfl Try.ntmps20 (by kernel_rfl) rfl ?_
  repeat' (first
    | (apply WL.box; exact rfl; exact rfl; exact rfl; intro gb w' hb hge hc hx; have hcc := hc; (first | (obtain ⟨h1, h2, h3, _⟩ := hc) | (obtain ⟨h1, h2, _⟩ := hc)); (obtain ⟨gc, rfl⟩ : ∃ x, x = gb := ⟨_, rfl⟩; obtain ⟨wc, rfl⟩ : ∃ x, x = w' := ⟨_, rfl⟩; obtain ⟨hxc, rfl⟩ : ∃ x, x = hx := ⟨_, rfl⟩; have hcells : Cells wc gc 0 c.vals := hcc; obtain ⟨y0, y1, y2, y3, y4, y5, y6, y7, y8, _⟩ := id hcells))
    | (((show WL _ _ _ (⟨_, .call ⟨.value (.func 53), _, _⟩, _, _, _, _⟩ :: _) _ _ _); apply WL.callP; exact rfl; exact rfl; exact rfl; exact rfl; exact s1 _ (by (exact extA)); intro w' hx))
    | (apply WL.gT; exact rfl; exact rfl; (focus (first | exact dec_true rfl | exact dec_true (by omega); done)))
    | (show WL _ _ _ _ _ _ _; first | apply WL.nil | (refine WL.au (k := ?_)))
    | (show Z _ _ _ _ _; apply Z.then_normal)
    | (show W _ _ _ _ _ _; first | apply W.seq | apply W.region | apply W.ret))
  exact Z.body1 Try.results20 rfl fun m => ⟨congrArg Value.bool (dec_true (by omega)), Ext.at (by (exact extA)) m⟩
theorem law49_refused (c : Circ) (w : World) (hC : CAt w c) (h : c.t = zCirc.t) : Pure Try.prog 18 [c.val, .int .i64 1] w (.bool true) := by
  have s1 := fun (w9 : World) (h9 : Ext w w9) => ref11_Same c zCirc w9 (hC.ext h9) (zCirc_at w9)
  rw [dec_true h] at s1
  refine Spec.of _ Try.func18 rfl Try.ntmps18 (by kernel_rfl) rfl ?_
  repeat' (first
    | (apply WL.box; exact rfl; exact rfl; exact rfl; intro gb w' hb hge hc hx; have hcc := hc; (first | (obtain ⟨h1, h2, h3, _⟩ := hc) | (obtain ⟨h1, h2, _⟩ := hc)); (obtain ⟨gc, rfl⟩ : ∃ x, x = gb := ⟨_, rfl⟩; obtain ⟨wc, rfl⟩ : ∃ x, x = w' := ⟨_, rfl⟩; obtain ⟨hxc, rfl⟩ : ∃ x, x = hx := ⟨_, rfl⟩))
    | (apply WL.build tOk; exact rfl; exact rfl; exact rfl; exact rfl; exact rfl; exact rfl; exact rfl; kernel_rfl)
    | (((show WL _ _ _ (⟨_, .call ⟨.value (.func 32), _, _⟩, _, _, _, _⟩ :: _) _ _ _); apply WL.callP; exact rfl; exact rfl; exact rfl; exact rfl; exact s1 _ (by (exact extA)); intro w' hx))
    | (apply WL.gT; exact rfl; exact rfl; (focus (first | exact dec_true rfl; done)))
    | (show WL _ _ _ _ _ _ _; first | apply WL.nil | (refine WL.au (k := ?_)))
    | (show Z _ _ _ _ _; apply Z.then_normal)
    | (show W _ _ _ _ _ _; first | apply W.seq | apply W.region | apply W.ret))
  exact Z.body1 Try.results18 rfl fun m => ⟨rfl, Ext.at (by (exact extA)) m⟩
theorem ref49_Ring (n t k : Nat) (w : World) (hn : 1 ≤ n) : Still Try.prog 26 [.int .i64 n, .int .i64 t, .int .i64 k] w (.bool (dec (k % n = t))) := by
  have e : dec (((k : Int) % (n : Int)) = (t : Int)) = dec (k % n = t) := dec_congr (by omega)
  refine Spec.of _ Try.func26 rfl Try.ntmps26 (by kernel_rfl) rfl ?_
  repeat' (first
    | ((apply WL.rem; exact rfl; exact rfl; exact rfl; exact rfl; omega))
    | (show WL _ _ _ _ _ _ _; first | apply WL.nil | (refine WL.au (k := ?_)))
    | (show Z _ _ _ _ _; apply Z.then_normal)
    | (show W _ _ _ _ _ _; first | apply W.seq | apply W.region | apply W.ret))
  exact Z.body1 Try.results26 rfl fun m => ⟨by rw [e], m, rfl⟩
end Go.Proofs.Ythpnahapiodflaa
