/- Which inputs are dropped: the reference's; the example. No conditions. -/
import Derived.Test.YtfkdlepemiepdaaTern3
namespace Go.Proofs.Ytfkdlepemiepdaa
open Go Go.Lt Go.RowKit
set_option linter.unusedVariables false
set_option linter.unusedSimpArgs false

/-! ### The example -/
def ctstep (ins : List Int) (s : List Int × Nat) (x : Int × Int) : List Int × Nat :=
  if 0 ≤ x.1 then (s.1 ++ [and3 (tl s.1 x.1) (tl s.1 x.2)], s.2) else (s.1 ++ [tin ins s.2], s.2 + 1)
def ctto (n : List (Int × Int)) (ins : List Int) (k : Nat) : List Int × Nat := (n.take k).foldl (ctstep ins) ([0], 0)
theorem tto_calc {n : List (Int × Int)} (hg : GoodNet n) (hn : n.length ≤ 1048576) (ins : List Int) : ∀ k, k ≤ n.length → tto n ins k = ctto n ins k
  | 0, _ => rfl
  | k + 1, h => by
    obtain ⟨x, hx⟩ := getI n (show k < n.length by omega)
    have ih := tto_calc hg hn ins k (by omega)
    have hl := (tto_len n ins k (by omega)).1
    have h0 : (tto n ins k).1.getD 0 0 = 0 := by rw [tto_val n ins (Nat.zero_le _) (by omega), tvals_zero]
    have e : ctto n ins (k + 1) = ctstep ins (ctto n ins k) x := by unfold ctto; rw [take_succ' hx, List.foldl_append]; rfl
    rw [e, ← ih, tto_succ ins hx, tstep, ctstep]
    by_cases hin : 0 ≤ x.1
    · have hgt := hg.gate hx hin
      rw [if_pos hin, if_pos hin, lit3_tl h0 hin (by omega) (by omega), lit3_tl h0 hgt.2.1 (by omega) (by omega)]
    · rw [if_neg hin, if_neg hin]
theorem tvals_calc {n : List (Int × Int)} (hg : GoodNet n) (hn : n.length ≤ 1048576) (ins : List Int) : tvals n ins = (ctto n ins n.length).1 := by rw [tvals, tto_calc hg hn ins _ (Nat.le_refl _)]
theorem sure_calc {n : List (Int × Int)} (hg : GoodNet n) (hn : n.length ≤ 1048576) (ins : List Int) {l : List Int} (hl : ∀ x ∈ l, 0 ≤ x ∧ (x / 2).toNat ≤ n.length) : SureP n ins l ↔ (l.all (fun x => tl (ctto n ins n.length).1 x == 1)) = true := by
  rw [List.all_eq_true]
  refine ⟨fun h x hx => ?_, fun h x hx => ?_⟩
  · have := hl x hx
    have h1 := h x hx
    rw [lit3_tl (tvals_zero n ins) this.1 (by rw [tvals_len]; omega) (by omega), tvals_calc hg hn] at h1
    simpa using h1
  · have := hl x hx
    rw [lit3_tl (tvals_zero n ins) this.1 (by rw [tvals_len]; omega) (by omega), tvals_calc hg hn]
    simpa using h x hx
abbrev live10 : List (Int × Int) := [(-1, 0), (-1, 0), (3, 4)]
theorem good10 : GoodNet live10 := by
  intro i x h
  match i, h with
  | 0, h => simp [live10] at h; subst h; unfold badNode; omega
  | 1, h => simp [live10] at h; subst h; unfold badNode; omega
  | 2, h => simp [live10] at h; subst h; unfold badNode; omega
  | i + 3, h => simp [live10] at h
theorem eval10 : tvals live10 [1, 2] = [0, 1, 2, 0] := by rw [tvals_calc good10 (by decide)]; decide
theorem l7 : ∀ x ∈ [(7 : Int)], 0 ≤ x ∧ (x / 2).toNat ≤ live10.length := fun x hx => by simp at hx; subst hx; decide
theorem drop10a : dropL live10 [1, 0] [7] [] = [2, 0] := by
  have e0 : tab (cnt live10 live10.length) (tin [1, 0]) = [1, 0] := by decide
  have s0 : SureP live10 [1, 0] [7] := (sure_calc good10 (by decide) _ l7).2 (by decide)
  have s1 : SureP live10 [2, 0] [7] := (sure_calc good10 (by decide) _ l7).2 (by decide)
  have s2 : ¬ SureP live10 [2, 2] [7] := fun h => absurd ((sure_calc good10 (by decide) _ l7).1 h) (by decide)
  rw [dropL, e0, if_pos s0, show cnt live10 live10.length = 2 from rfl, dropTo, dropTo, dropTo, e0]
  have d0 : dstep live10 [7] [] [1, 0] 0 = [2, 0] := by rw [dstep, if_neg (by decide)]; exact if_pos s1
  rw [d0, dstep, if_neg (by decide)]
  exact if_neg s2
theorem drop10b : dropL live10 [1, 2] [7] [] = [1, 2] := by
  have e0 : tab (cnt live10 live10.length) (tin [1, 2]) = [1, 2] := by decide
  have s0 : SureP live10 [1, 2] [7] := (sure_calc good10 (by decide) _ l7).2 (by decide)
  have s2 : ¬ SureP live10 [2, 2] [7] := fun h => absurd ((sure_calc good10 (by decide) _ l7).1 h) (by decide)
  rw [dropL, e0, if_pos s0, show cnt live10 live10.length = 2 from rfl, dropTo, dropTo, dropTo, e0]
  have d0 : dstep live10 [7] [] [1, 2] 0 = [1, 2] := by rw [dstep, if_neg (by decide)]; exact if_neg s2
  rw [d0, dstep]
  exact if_pos (by decide)
set_option maxHeartbeats 4000000 in
theorem lives10 (w : World) : Pure Try.prog 57 [] w (.bool true) := by
  refine Spec.of _ Try.func57 rfl Try.ntmps57 (by kernel_rfl) rfl ?_
  repeat' (first
    | (apply WL.lit tOk; exact rfl; exact rfl; exact rfl; exact rfl; exact rfl; exact rfl; (first | exact rfl | kernel_rfl | (simp [Instr.fill, catCells]; done)); exact rfl; intro gb w' hb hge hc hx; have hO := Own.of_block (live10) encN_ok hb hge rfl)
    | (apply WL.build tOk; exact rfl; exact rfl; exact rfl; exact rfl; exact rfl; exact rfl; exact rfl; kernel_rfl)
    | (show WL _ _ _ _ _ _ _; first | apply WL.nil | (apply WL.pev tOk; exact rfl; exact rfl; exact rfl) | (apply WL.load tOk; exact rfl; exact rfl; exact rfl; exact rfl; exact rfl; (first | assumption | (focus (apply Ext.cell; rotate_left; assumption; (first | exact Ext.refl _ | assumption | exact Ext.trans (by assumption) (by assumption) | (focus (repeat (first | exact Ext.refl _ | assumption | (apply Ext.trans; rotate_left; assumption))); done) | solve_by_elim (maxDepth := 8) [Ext.trans]); done)))) | (apply WL.index tOk; exact rfl; exact rfl; exact rfl; exact rfl; exact rfl; exact rfl; exact rfl; exact rfl; assumption; (first | exact Ext.refl _ | assumption | exact Ext.trans (by assumption) (by assumption) | (focus (repeat (first | exact Ext.refl _ | assumption | (apply Ext.trans; rotate_left; assumption))); done) | solve_by_elim (maxDepth := 8) [Ext.trans]); exact rfl; omega; assumption; intro b off h; have hcc := h; first | (obtain ⟨h1, h2, h3, _⟩ := h) | (obtain ⟨h1, h2, _⟩ := h) | (obtain ⟨h1, _⟩ := h)) | (apply WL.add; exact rfl; exact rfl; exact rfl; exact rfl; omega) | (apply WL.sub; exact rfl; exact rfl; exact rfl; exact rfl; omega) | (apply WL.mul; exact rfl; exact rfl; exact rfl; exact rfl; omega) | (apply WL.quo; exact rfl; exact rfl; exact rfl; exact rfl; omega) | (apply WL.rem; exact rfl; exact rfl; exact rfl; exact rfl; omega) | (apply WL.loadA tOk; exact rfl; exact rfl; exact rfl; exact rfl; exact rfl; (first | assumption | (focus (apply Cells.ext; rotate_left; assumption; (first | exact Ext.refl _ | assumption | exact Ext.trans (by assumption) (by assumption) | (focus (repeat (first | exact Ext.refl _ | assumption | (apply Ext.trans; rotate_left; assumption))); done) | solve_by_elim (maxDepth := 8) [Ext.trans]); done))); exact rfl) | (apply WL.guardF; exact rfl; exact rfl) | (apply WL.gD; exact rfl; exact rfl; all_goals intro _) | (apply WL.gN; exact rfl; exact rfl; all_goals intro _) | (apply WL.gB; exact rfl; exact rfl; all_goals intro _))
    | (show Z _ _ _ _ _; first | apply Z.tail | apply Z.then_normal | apply Z.block_normal | apply Z.then_exit | apply Z.block_exit | apply Z.then_ret | apply Z.block_ret | (apply Z.block_other; exact rfl))
    | (show W _ _ _ _ _ _; first | apply W.seq | apply W.region | apply W.block | apply W.skip | apply W.ret | apply W.exit | (apply W.condT; exact rfl) | (apply W.condF; exact rfl) | (apply W.condD; exact rfl; all_goals intro _) | (apply W.condN; exact rfl; all_goals intro _) | (apply W.condB; exact rfl; all_goals intro _)))
  have hN := Own.row encN_ok (show Own 2 encN _ _ _ _ _ live10 by assumption)
  repeat' (first
    | (apply WL.lit tOk; exact rfl; exact rfl; exact rfl; exact rfl; exact rfl; exact rfl; (first | exact rfl | kernel_rfl | (simp [Instr.fill, catCells]; done)); exact rfl; intro gb w' hb hge hc hx; have hO := Own.of_block ([(1 : Int), 2]) encI_ok hb hge rfl)
    | (show WL _ _ _ _ _ _ _; first | apply WL.nil | (apply WL.pev tOk; exact rfl; exact rfl; exact rfl) | (apply WL.load tOk; exact rfl; exact rfl; exact rfl; exact rfl; exact rfl; (first | assumption | (focus (apply Ext.cell; rotate_left; assumption; (first | exact Ext.refl _ | assumption | exact Ext.trans (by assumption) (by assumption) | (focus (repeat (first | exact Ext.refl _ | assumption | (apply Ext.trans; rotate_left; assumption))); done) | solve_by_elim (maxDepth := 8) [Ext.trans]); done)))) | (apply WL.index tOk; exact rfl; exact rfl; exact rfl; exact rfl; exact rfl; exact rfl; exact rfl; exact rfl; assumption; (first | exact Ext.refl _ | assumption | exact Ext.trans (by assumption) (by assumption) | (focus (repeat (first | exact Ext.refl _ | assumption | (apply Ext.trans; rotate_left; assumption))); done) | solve_by_elim (maxDepth := 8) [Ext.trans]); exact rfl; omega; assumption; intro b off h; have hcc := h; first | (obtain ⟨h1, h2, h3, _⟩ := h) | (obtain ⟨h1, h2, _⟩ := h) | (obtain ⟨h1, _⟩ := h)) | (apply WL.add; exact rfl; exact rfl; exact rfl; exact rfl; omega) | (apply WL.sub; exact rfl; exact rfl; exact rfl; exact rfl; omega) | (apply WL.mul; exact rfl; exact rfl; exact rfl; exact rfl; omega) | (apply WL.quo; exact rfl; exact rfl; exact rfl; exact rfl; omega) | (apply WL.rem; exact rfl; exact rfl; exact rfl; exact rfl; omega) | (apply WL.loadA tOk; exact rfl; exact rfl; exact rfl; exact rfl; exact rfl; (first | assumption | (focus (apply Cells.ext; rotate_left; assumption; (first | exact Ext.refl _ | assumption | exact Ext.trans (by assumption) (by assumption) | (focus (repeat (first | exact Ext.refl _ | assumption | (apply Ext.trans; rotate_left; assumption))); done) | solve_by_elim (maxDepth := 8) [Ext.trans]); done))); exact rfl) | (apply WL.guardF; exact rfl; exact rfl) | (apply WL.gD; exact rfl; exact rfl; all_goals intro _) | (apply WL.gN; exact rfl; exact rfl; all_goals intro _) | (apply WL.gB; exact rfl; exact rfl; all_goals intro _))
    | (show Z _ _ _ _ _; first | apply Z.tail | apply Z.then_normal | apply Z.block_normal | apply Z.then_exit | apply Z.block_exit | apply Z.then_ret | apply Z.block_ret | (apply Z.block_other; exact rfl))
    | (show W _ _ _ _ _ _; first | apply W.seq | apply W.region | apply W.block | apply W.skip | apply W.ret | apply W.exit | (apply W.condT; exact rfl) | (apply W.condF; exact rfl) | (apply W.condD; exact rfl; all_goals intro _) | (apply W.condN; exact rfl; all_goals intro _) | (apply W.condB; exact rfl; all_goals intro _)))
  repeat' (first
    | ((show WL _ _ _ (⟨_, .call ⟨.value (.func 58), _, _⟩, _, _, _, _⟩ :: _) _ _ _); apply WL.call; exact rfl; exact rfl; exact rfl; exact rfl; exact tern_Eval _ _ _ _ live10 [1, 2] _ (Row.ext hN (by (first | exact Ext.refl _ | assumption | exact Ext.trans (by assumption) (by assumption) | (focus (repeat (first | exact Ext.refl _ | assumption | (apply Ext.trans; rotate_left; assumption))); done) | solve_by_elim (maxDepth := 8) [Ext.trans]))) (Own.row encI_ok (by assumption)) (Nat.le_refl _) good10 (by decide); rintro v' w' ⟨hx, a', cap', rfl, hO⟩)
    | (apply WL.lit tOk; exact rfl; exact rfl; exact rfl; exact rfl; exact rfl; exact rfl; (first | exact rfl | kernel_rfl | (simp [Instr.fill, catCells]; done)); exact rfl; intro gb w' hb hge hc hx; have hO := Own.of_block ([(0 : Int), 1, 2, 0]) encI_ok hb hge rfl)
    | (apply WL.lit tOk; exact rfl; exact rfl; exact rfl; exact rfl; exact rfl; exact rfl; (first | exact rfl | kernel_rfl | (simp [Instr.fill, catCells]; done)); exact rfl; intro gb w' hb hge hc hx; have hO := Own.of_block ([(1 : Int), 0]) encI_ok hb hge rfl)
    | (apply WL.lit tOk; exact rfl; exact rfl; exact rfl; exact rfl; exact rfl; exact rfl; (first | exact rfl | kernel_rfl | (simp [Instr.fill, catCells]; done)); exact rfl; intro gb w' hb hge hc hx; have hO := Own.of_block ([(7 : Int)]) encI_ok hb hge rfl)
    | (apply WL.lit tOk; exact rfl; exact rfl; exact rfl; exact rfl; exact rfl; exact rfl; (first | exact rfl | kernel_rfl | (simp [Instr.fill, catCells]; done)); exact rfl; intro gb w' hb hge hc hx; have hO := Own.of_block ([(2 : Int), 0]) encI_ok hb hge rfl)
    | (apply WL.lit tOk; exact rfl; exact rfl; exact rfl; exact rfl; exact rfl; exact rfl; (first | exact rfl | kernel_rfl | (simp [Instr.fill, catCells]; done)); exact rfl; intro gb w' hb hge hc hx; have hO := Own.of_block ([(1 : Int), 2]) encI_ok hb hge rfl)
    | ((show WL _ _ _ (⟨_, .call ⟨.value (.func 23), _, _⟩, _, _, _, _⟩ :: _) _ _ _); apply WL.callS; exact rfl; exact rfl; exact rfl; exact rfl; exact ref_Ints _ _ _ _ (tvals live10 [1, 2]) [0, 1, 2, 0] _ (Row.ext (Own.row encI_ok (by assumption)) (by assumption)) (Own.row encI_ok (by assumption)))
    | ((show WL _ _ _ (⟨_, .call ⟨.value (.func 23), _, _⟩, _, _, _, _⟩ :: _) _ _ _); apply WL.callS; exact rfl; exact rfl; exact rfl; exact rfl; exact ref_Ints _ _ _ _ (dropL live10 [1, 0] [7] []) [2, 0] _ (Row.ext (Own.row encI_ok (by assumption)) (by assumption)) (Own.row encI_ok (by assumption)))
    | ((show WL _ _ _ (⟨_, .call ⟨.value (.func 23), _, _⟩, _, _, _, _⟩ :: _) _ _ _); apply WL.callS; exact rfl; exact rfl; exact rfl; exact rfl; exact ref_Ints _ _ _ _ (dropL live10 [1, 2] [7] []) [1, 2] _ (Row.ext (Own.row encI_ok (by assumption)) (by assumption)) (Own.row encI_ok (by assumption)))
    | (apply WL.gT; exact rfl; exact rfl; (focus (first | exact dec_true eval10 | exact dec_true drop10a; done)))
    | (apply WL.gF; exact rfl; exact rfl; (focus (first | exact dec_true eval10 | exact dec_true drop10a; done)))
    | (apply W.condKT; exact rfl; (focus (first | exact dec_true eval10 | exact dec_true drop10a; done)))
    | (apply W.condKF; exact rfl; (focus (first | exact dec_true eval10 | exact dec_true drop10a; done)))
    | ((show WL _ _ _ (⟨_, .call ⟨.value (.func 111), _, _⟩, _, _, _, _⟩ :: _) _ _ _); apply WL.call; exact rfl; exact rfl; exact rfl; exact rfl; exact tern_Drop _ _ _ none _ _ _ 0 live10 [1, 0] [7] [] _ (Row.ext hN (by (first | exact Ext.refl _ | assumption | exact Ext.trans (by assumption) (by assumption) | (focus (repeat (first | exact Ext.refl _ | assumption | (apply Ext.trans; rotate_left; assumption))); done) | solve_by_elim (maxDepth := 8) [Ext.trans]))) (Row.ext (Own.row encI_ok (by assumption)) (by assumption)) (Own.row encI_ok (by assumption)) (Row.nil _ _ _ _) good10 (by decide); rintro v' w' ⟨hx, a', cap', rfl, hO⟩)
    | ((show WL _ _ _ (⟨_, .call ⟨.value (.func 111), _, _⟩, _, _, _, _⟩ :: _) _ _ _); apply WL.call; exact rfl; exact rfl; exact rfl; exact rfl; exact tern_Drop _ _ _ none _ _ _ 0 live10 [1, 2] [7] [] _ (Row.ext hN (by (first | exact Ext.refl _ | assumption | exact Ext.trans (by assumption) (by assumption) | (focus (repeat (first | exact Ext.refl _ | assumption | (apply Ext.trans; rotate_left; assumption))); done) | solve_by_elim (maxDepth := 8) [Ext.trans]))) (Row.ext (Own.row encI_ok (by assumption)) (by assumption)) (Own.row encI_ok (by assumption)) (Row.nil _ _ _ _) good10 (by decide); rintro v' w' ⟨hx, a', cap', rfl, hO⟩)
    | (show WL _ _ _ _ _ _ _; first | apply WL.nil | (apply WL.pev tOk; exact rfl; exact rfl; exact rfl) | (apply WL.load tOk; exact rfl; exact rfl; exact rfl; exact rfl; exact rfl; (first | assumption | (focus (apply Ext.cell; rotate_left; assumption; (first | exact Ext.refl _ | assumption | exact Ext.trans (by assumption) (by assumption) | (focus (repeat (first | exact Ext.refl _ | assumption | (apply Ext.trans; rotate_left; assumption))); done) | solve_by_elim (maxDepth := 8) [Ext.trans]); done)))) | (apply WL.index tOk; exact rfl; exact rfl; exact rfl; exact rfl; exact rfl; exact rfl; exact rfl; exact rfl; assumption; (first | exact Ext.refl _ | assumption | exact Ext.trans (by assumption) (by assumption) | (focus (repeat (first | exact Ext.refl _ | assumption | (apply Ext.trans; rotate_left; assumption))); done) | solve_by_elim (maxDepth := 8) [Ext.trans]); exact rfl; omega; assumption; intro b off h; have hcc := h; first | (obtain ⟨h1, h2, h3, _⟩ := h) | (obtain ⟨h1, h2, _⟩ := h) | (obtain ⟨h1, _⟩ := h)) | (apply WL.add; exact rfl; exact rfl; exact rfl; exact rfl; omega) | (apply WL.sub; exact rfl; exact rfl; exact rfl; exact rfl; omega) | (apply WL.mul; exact rfl; exact rfl; exact rfl; exact rfl; omega) | (apply WL.quo; exact rfl; exact rfl; exact rfl; exact rfl; omega) | (apply WL.rem; exact rfl; exact rfl; exact rfl; exact rfl; omega) | (apply WL.loadA tOk; exact rfl; exact rfl; exact rfl; exact rfl; exact rfl; (first | assumption | (focus (apply Cells.ext; rotate_left; assumption; (first | exact Ext.refl _ | assumption | exact Ext.trans (by assumption) (by assumption) | (focus (repeat (first | exact Ext.refl _ | assumption | (apply Ext.trans; rotate_left; assumption))); done) | solve_by_elim (maxDepth := 8) [Ext.trans]); done))); exact rfl) | (apply WL.guardF; exact rfl; exact rfl) | (apply WL.gD; exact rfl; exact rfl; all_goals intro _) | (apply WL.gN; exact rfl; exact rfl; all_goals intro _) | (apply WL.gB; exact rfl; exact rfl; all_goals intro _))
    | (show Z _ _ _ _ _; first | apply Z.tail | apply Z.then_normal | apply Z.block_normal | apply Z.then_exit | apply Z.block_exit | apply Z.then_ret | apply Z.block_ret | (apply Z.block_other; exact rfl))
    | (show W _ _ _ _ _ _; first | apply W.seq | apply W.region | apply W.block | apply W.skip | apply W.ret | apply W.exit | (apply W.condT; exact rfl) | (apply W.condF; exact rfl) | (apply W.condD; exact rfl; all_goals intro _) | (apply W.condN; exact rfl; all_goals intro _) | (apply W.condB; exact rfl; all_goals intro _)))
  exact Z.body1 Try.results57 rfl fun m => ⟨congrArg Value.bool (dec_true drop10b), Ext.at (by (first | exact Ext.refl _ | assumption | exact Ext.trans (by assumption) (by assumption) | (focus (repeat (first | exact Ext.refl _ | assumption | (apply Ext.trans; rotate_left; assumption))); done) | solve_by_elim (maxDepth := 8) [Ext.trans])) m⟩
end Go.Proofs.Ytfkdlepemiepdaa
