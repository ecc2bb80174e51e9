/- The store of gates lives. No conditions. -/
import Derived.Test.YtfkdlepemiepdaaAig4
namespace Go.Proofs.Ytfkdlepemiepdaa
open Go Go.Lt Go.RowKit
set_option linter.unusedVariables false
set_option linter.unusedSimpArgs false

abbrev nA : List (Int × Int) := [(-1, 0)]
abbrev nB : List (Int × Int) := [(-1, 0), (-1, 0)]
abbrev nC : List (Int × Int) := [(-1, 0), (-1, 0), (2, 4)]
abbrev nD : List (Int × Int) := [(-1, 0), (-1, 0), (2, 4), (3, 5)]
abbrev mC : List ((Int × Int) × Int) := [((2, 4), 6)]
abbrev mD : List ((Int × Int) × Int) := [((2, 4), 6), ((3, 5), 8)]
theorem F1 : andF nB [] 2 4 = ⟨6, nC, mC⟩ := andF_new (by unfold hasL; decide) (by decide) (by decide) rfl
theorem F2 : andF nC mC 2 4 = ⟨6, nC, mC⟩ := andF_old (by unfold hasL; decide) (by decide) (by decide) (by unfold mget; rw [dec_true rfl]; rfl)
theorem F3 : andF nC mC 2 3 = ⟨0, nC, mC⟩ := andF_zero (by unfold hasL; decide) (by decide)
theorem F4 : andF nC mC (notL 2) (notL 4) = ⟨8, nD, mD⟩ := andF_new (x := 3) (y := 5) (by unfold hasL; decide) (by decide) (by decide) (by unfold mget; rw [dec_false (by decide)]; rfl)
set_option maxHeartbeats 4000000 in
theorem law07_lives (w : World) : Pure Try.prog 48 [] w (.bool true) := by
  refine Spec.of _ Try.func48 rfl Try.ntmps48 (by kernel_rfl) rfl ?_
  repeat' (first
    | (apply WL.gT; exact rfl; exact rfl; (focus (first | exact dec_true (by decide) | exact dec_true rfl; done)))
    | (apply WL.gF; exact rfl; exact rfl; (focus (first | exact dec_true (by decide) | exact dec_true rfl; done)))
    | (apply W.condKT; exact rfl; (focus (first | exact dec_true (by decide) | exact dec_true rfl; done)))
    | (apply W.condKF; exact rfl; (focus (first | exact dec_true (by decide) | exact dec_true rfl; done)))
    | (apply WL.nilc; exact rfl; exact rfl; exact rfl)
    | (apply WL.eqNilS tOk; exact rfl; exact rfl; exact rfl; exact rfl; exact rfl; exact rfl)
    | (apply WL.neNilS tOk; exact rfl; exact rfl; exact rfl; exact rfl; exact rfl; exact rfl)
    | (apply WL.eqNil tOk; exact rfl; exact rfl; exact rfl; exact rfl; exact rfl; exact rfl)
    | (apply WL.neNil tOk; exact rfl; exact rfl; exact rfl; exact rfl; exact rfl; exact rfl)
    | (((show WL _ _ _ (⟨_, .call ⟨.value (.func 49), _, _⟩, _, _, _, _⟩ :: _) _ _ _); apply WL.call; exact rfl; exact rfl; exact rfl; exact rfl; exact aig_New _ w (Ext.refl _); rintro v' w1 ⟨hX, gs, r, rfl, hS⟩))
    | (((show WL _ _ _ (⟨_, .call ⟨.value (.func 71), _, _⟩, _, _, _, _⟩ :: _) _ _ _); apply WL.call; exact rfl; exact rfl; exact rfl; exact rfl; exact aig_Input gs r _ _ [] [] [] _ w hX hS (by decide); rintro v' w2 ⟨hX, a, cap, rfl, hS0⟩; have hS : Lt.Sep w.heap.size w2 (stP w.heap.size gs a cap r nA [] ++ []) := hS0))
    | (((show WL _ _ _ (⟨_, .call ⟨.value (.func 71), _, _⟩, _, _, _, _⟩ :: _) _ _ _); apply WL.call; exact rfl; exact rfl; exact rfl; exact rfl; exact aig_Input gs r _ _ nA [] [] _ w hX hS (by decide); rintro v' w2 ⟨hX, a, cap, rfl, hS0⟩; have hS : Lt.Sep w.heap.size w2 (stP w.heap.size gs a cap r nB [] ++ []) := hS0))
    | (((show WL _ _ _ (⟨_, .call ⟨.value (.func 106), _, _⟩, _, _, _, _⟩ :: _) _ _ _); apply WL.call; exact rfl; exact rfl; exact rfl; exact rfl; exact aig_AndGt gs r _ _ nB [] 4 2 [] _ w hX hS (by decide) (by decide); rintro v' w2 ⟨hX, a, cap, hv, hS0⟩; rw [F1] at hv hS0; have hS := hS0; subst hv))
    | (((show WL _ _ _ (⟨_, .call ⟨.value (.func 106), _, _⟩, _, _, _, _⟩ :: _) _ _ _); apply WL.call; exact rfl; exact rfl; exact rfl; exact rfl; exact aig_AndLe gs r _ _ nC mC 2 4 [] _ w hX hS (by decide) (by decide); rintro v' w2 ⟨hX, a, cap, hv, hS0⟩; rw [F2] at hv hS0; have hS := hS0; subst hv))
    | (((show WL _ _ _ (⟨_, .call ⟨.value (.func 106), _, _⟩, _, _, _, _⟩ :: _) _ _ _); apply WL.call; exact rfl; exact rfl; exact rfl; exact rfl; exact aig_AndLe gs r _ _ nC mC 2 3 [] _ w hX hS (by decide) (by decide); rintro v' w2 ⟨hX, a, cap, hv, hS0⟩; rw [F3] at hv hS0; have hS := hS0; subst hv))
    | (((show WL _ _ _ (⟨_, .call ⟨.value (.func 52), _, _⟩, _, _, _, _⟩ :: _) _ _ _); apply WL.call; exact rfl; exact rfl; exact rfl; exact rfl; exact aig_Or gs r _ _ nC mC 2 4 [] _ w hX hS (by decide) (by decide) (by decide) (by decide) (by rw [F4]; decide); rintro v' w2 ⟨hX, a, cap, hv, hS0⟩; rw [F4] at hv hS0; have hS := hS0; subst hv))
    | ((show WL _ _ _ (⟨_, .call ⟨.value (.func 51), _, _⟩, _, _, _, _⟩ :: _) _ _ _); apply WL.callS; exact rfl; exact rfl; exact rfl; exact rfl; exact aig_Len gs _ _ 4 _ _ (hS.cell (i := 0) rfl))
    | (show WL _ _ _ _ _ _ _; first | apply WL.nil | (apply WL.pev tOk; exact rfl; exact rfl; exact rfl) | (apply WL.load tOk; exact rfl; exact rfl; exact rfl; exact rfl; exact rfl; (first | assumption | (focus (apply Ext.cell; rotate_left; assumption; (exact extA); done)))) | (apply WL.index tOk; exact rfl; exact rfl; exact rfl; exact rfl; exact rfl; exact rfl; exact rfl; exact rfl; assumption; (exact extA); exact rfl; omega; assumption; intro b off h; have hcc := h; first | (obtain ⟨h1, h2, h3, h4, h5, h6, _⟩ := h) | (obtain ⟨h1, h2, h3, _⟩ := h) | (obtain ⟨h1, h2, _⟩ := h) | (obtain ⟨h1, _⟩ := h)) | (apply WL.add; exact rfl; exact rfl; exact rfl; exact rfl; omega) | (apply WL.sub; exact rfl; exact rfl; exact rfl; exact rfl; omega) | (apply WL.mul; exact rfl; exact rfl; exact rfl; exact rfl; omega) | (apply WL.quo; exact rfl; exact rfl; exact rfl; exact rfl; omega) | (apply WL.rem; exact rfl; exact rfl; exact rfl; exact rfl; omega) | (apply WL.loadA tOk; exact rfl; exact rfl; exact rfl; exact rfl; exact rfl; (first | assumption | (focus (apply Cells.ext; rotate_left; assumption; (exact extA); done))); exact rfl) | (apply WL.guardF; exact rfl; exact rfl) | (apply WL.gD; exact rfl; exact rfl; all_goals intro _) | (apply WL.gN; exact rfl; exact rfl; all_goals intro _) | (apply WL.gB; exact rfl; exact rfl; all_goals intro _))
    | (show Z _ _ _ _ _; first | apply Z.tail | apply Z.then_normal | apply Z.block_normal | apply Z.then_exit | apply Z.block_exit | apply Z.then_ret | apply Z.block_ret | (apply Z.block_other; exact rfl))
    | (show W _ _ _ _ _ _; first | apply W.seq | apply W.region | apply W.block | apply W.skip | apply W.ret | apply W.exit | (apply W.condT; exact rfl) | (apply W.condF; exact rfl) | (apply W.condD; exact rfl; all_goals intro _) | (apply W.condN; exact rfl; all_goals intro _) | (apply W.condB; exact rfl; all_goals intro _)))
  exact Z.body1 Try.results48 rfl fun m => ⟨congrArg Value.bool (by first | rfl | exact dec_true (by decide)), hX.at m⟩
end Go.Proofs.Ytfkdlepemiepdaa
