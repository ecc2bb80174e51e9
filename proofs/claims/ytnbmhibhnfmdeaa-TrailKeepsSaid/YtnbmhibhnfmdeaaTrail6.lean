/- Trails: one lives; a nil one tells nothing. No conditions. -/
import Derived.Test.YtnbmhibhnfmdeaaTrail5
namespace Go.Proofs.Ytnbmhibhnfmdeaa
open Go Go.Lt Go.RowKit
set_option linter.unusedVariables false
set_option linter.unusedSimpArgs false

abbrev tA : List T3 := [(5, 0, 0)]
abbrev tB : List T3 := [(5, 0, 0), (7, 1, 1)]
theorem liv_e1 : setE 4 [] 5 = 0 := by decide
theorem liv_e2 : setE 4 tA 7 = 0 := by decide
theorem liv_s1 : setT 4 [] 5 (([] : List Int).length : Int) 0 = tA := by unfold setT; rw [liv_e1]; rfl
theorem liv_s2 : setT 4 tA 7 (([1] : List Int).length : Int) 1 = tB := by unfold setT; rw [liv_e2]; rfl
theorem liv_b1 : backT tB [1] 0 = tA := by decide
theorem liv_b2 : backE [1] 0 = [] := by decide
theorem liv_o : ofT 4 tB 3 = (1, 1, 1) := by decide
theorem liv_v5 : valT (4 : Nat) tA 5 = 1 := by decide
theorem liv_v7 : valT (4 : Nat) tA 7 = 2 := by decide
theorem okA : TOk (4 : Nat) tA ∧ EOk tA [] := by
  have h := setT_ok (n := 4) (l := 5) (y := 0) (E := []) (TOk.nil _) EOk.nil
  rwa [liv_s1] at h
theorem okA1 : EOk tA [1] := push_ok okA.2
theorem okB : TOk (4 : Nat) tB ∧ EOk tB [1] := by
  have h := setT_ok (n := 4) (l := 7) (y := 1) (E := [1]) okA.1 okA1
  rwa [liv_s2] at h
section
variable {gt n : Nat} {w w0 : World} {av am al ae : Option Addr} {cv cm cl ce : Nat} {M Lr Lr' : List T3} {E E' : List Int} {rest : List Piece}
theorem trail_Set' (hX : Ext w0 w) (hS : Lt.Sep w0.heap.size w (trP w0.heap.size gt n av cv (vOf n Lr) am cm M al cl (Lr.map (·.1)) ae ce E ++ rest)) (hT : TOk n Lr) (hM : MarkOk n Lr M) (hn : n ≤ 1048576) (hL : Lr.length ≤ 1048576) (l y : Int) (hl : l ≤ 9223372036854775807) (ev : Int) (he : setE n Lr l = ev) (ht : setT n Lr l E.length y = Lr') :
    Lt.Spec Try.prog 88 [.pointer (some ⟨gt, 0, none⟩), .int .i64 l, .int .i64 y] w (fun v w' => Ext w0 w' ∧ v = .int .i64 ev ∧ TrAt w0.heap.size w' gt n Lr' E rest) := by
  subst he; subst ht; exact trail_Set hX hS hT hM hn hL l y hl
theorem trail_Push' (hX : Ext w0 w) (hS : Lt.Sep w0.heap.size w (trP w0.heap.size gt n av cv (vOf n Lr) am cm M al cl (Lr.map (·.1)) ae ce E ++ rest)) (hM : MarkOk n Lr M) (hE : E.length ≤ 1048576) (he : E ++ [(Lr.length : Int)] = E') :
    Lt.Spec Try.prog 89 [.pointer (some ⟨gt, 0, none⟩)] w (fun v w' => Ext w0 w' ∧ v = .tuple #[] ∧ TrAt w0.heap.size w' gt n Lr E' rest) := by
  subst he; exact trail_Push hX hS hM hE
theorem trail_Back' (hX : Ext w0 w) (hS : Lt.Sep w0.heap.size w (trP w0.heap.size gt n av cv (vOf n Lr) am cm M al cl (Lr.map (·.1)) ae ce E ++ rest)) (hT : TOk n Lr) (hM : MarkOk n Lr M) (hE : EOk Lr E) (hn : n ≤ 1048576) (hL : Lr.length ≤ 1048576) (lev : Int) (h1 : backT Lr E lev = Lr') (h2 : backE E lev = E') :
    Lt.Spec Try.prog 93 [.pointer (some ⟨gt, 0, none⟩), .int .i64 lev] w (fun v w' => Ext w0 w' ∧ v = .tuple #[] ∧ TrAt w0.heap.size w' gt n Lr' E' rest) := by
  subst h1; subst h2; exact trail_Back hX hS hT hM hE hn hL lev
theorem trail_At' (hS : Lt.Sep w0.heap.size w (trP w0.heap.size gt n av cv (vOf n Lr) am cm M al cl (Lr.map (·.1)) ae ce E ++ rest)) (hT : TOk n Lr) (hM : MarkOk n Lr M) (hn : n ≤ 1048576) (v : Int) {x : T3} (h : ofT n Lr v = x) :
    Pure Try.prog 91 [.pointer (some ⟨gt, 0, none⟩), .int .i64 v] w (.int .i64 x.1) := by subst h; exact trail_At hS hT hM hn v
theorem trail_Why' (hS : Lt.Sep w0.heap.size w (trP w0.heap.size gt n av cv (vOf n Lr) am cm M al cl (Lr.map (·.1)) ae ce E ++ rest)) (hT : TOk n Lr) (hM : MarkOk n Lr M) (hn : n ≤ 1048576) (v : Int) {x : T3} (h : ofT n Lr v = x) :
    Pure Try.prog 92 [.pointer (some ⟨gt, 0, none⟩), .int .i64 v] w (.int .i64 x.2.1) := by subst h; exact trail_Why hS hT hM hn v
theorem trail_Place' (hS : Lt.Sep w0.heap.size w (trP w0.heap.size gt n av cv (vOf n Lr) am cm M al cl (Lr.map (·.1)) ae ce E ++ rest)) (hT : TOk n Lr) (hM : MarkOk n Lr M) (hn : n ≤ 1048576) (v : Int) {x : T3} (h : ofT n Lr v = x) :
    Pure Try.prog 96 [.pointer (some ⟨gt, 0, none⟩), .int .i64 v] w (.int .i64 x.2.2) := by subst h; exact trail_Place hS hT hM hn v
theorem trail_Value' (hS : Lt.Sep w0.heap.size w (trP w0.heap.size gt n av cv (vOf n Lr) am cm M al cl (Lr.map (·.1)) ae ce E ++ rest)) (hT : TOk n Lr) (hn : n ≤ 1048576) (l : Int) {x : Int} (h : valT n Lr l = x) :
    Still Try.prog 95 [.pointer (some ⟨gt, 0, none⟩), .int .i64 l] w (.int .i64 x) := by subst h; exact trail_Value hS hT hn l
end
set_option maxHeartbeats 8000000 in
theorem law21_lives (w : World) : Pure Try.prog 97 [] w (.bool true) := by
  refine Spec.of _ Try.func97 rfl Try.ntmps97 (by kernel_rfl) rfl ?_
  repeat' (first
    | (apply WL.nilc; exact rfl; exact rfl; exact rfl)
    | (apply WL.eqNilS tOk; exact rfl; exact rfl; exact rfl; exact rfl; exact rfl; exact rfl)
    | (apply WL.neNilS tOk; exact rfl; exact rfl; exact rfl; exact rfl; exact rfl; exact rfl)
    | (apply WL.eqNil tOk; exact rfl; exact rfl; exact rfl; exact rfl; exact rfl; exact rfl)
    | (apply WL.neNil tOk; exact rfl; exact rfl; exact rfl; exact rfl; exact rfl; exact rfl)
    | (apply WL.gT; exact rfl; exact rfl; (focus (exact dec_false (fun h => h rfl); done)))
    | (apply WL.gF; exact rfl; exact rfl; (focus (exact dec_false (fun h => h rfl); done)))
    | (apply W.condKT; exact rfl; (focus (exact dec_false (fun h => h rfl); done)))
    | (apply W.condKF; exact rfl; (focus (exact dec_false (fun h => h rfl); done)))
    | (((show WL _ _ _ (⟨_, .call ⟨.value (.func 87), _, _⟩, _, _, _, _⟩ :: _) _ _ _); apply WL.call; exact rfl; exact rfl; exact rfl; exact rfl; exact trail_New 4 (by decide) _ w (Ext.refl _); rintro v' w1 ⟨hX, gt, rfl, av, cv, am, cm, M, al, cl, ae, ce, hM, hS⟩))
    | (((show WL _ _ _ (⟨_, .call ⟨.value (.func 88), _, _⟩, _, _, _, _⟩ :: _) _ _ _); apply WL.call; exact rfl; exact rfl; exact rfl; exact rfl; exact trail_Set' hX hS (TOk.nil _) hM (by decide) (by decide) 5 0 (by decide) 0 liv_e1 liv_s1; rintro v' w2 ⟨hX, rfl, av, cv, am, cm, M, al, cl, ae, ce, hM, hS⟩))
    | (show WL _ _ _ _ _ _ _; first | apply WL.nil | (apply WL.pev tOk; exact rfl; exact rfl; exact rfl) | (apply WL.load tOk; exact rfl; exact rfl; exact rfl; exact rfl; exact rfl; (first | assumption | (focus (apply Ext.cell; rotate_left; assumption; (first | exact Ext.refl _ | assumption | exact Ext.trans (by assumption) (by assumption) | (focus (repeat (first | exact Ext.refl _ | assumption | (apply Ext.trans; rotate_left; assumption))); done) | solve_by_elim (maxDepth := 8) [Ext.trans]); done)))) | (apply WL.index tOk; exact rfl; exact rfl; exact rfl; exact rfl; exact rfl; exact rfl; exact rfl; exact rfl; assumption; (first | exact Ext.refl _ | assumption | exact Ext.trans (by assumption) (by assumption) | (focus (repeat (first | exact Ext.refl _ | assumption | (apply Ext.trans; rotate_left; assumption))); done) | solve_by_elim (maxDepth := 8) [Ext.trans]); exact rfl; omega; assumption; intro b off h; have hcc := h; first | (obtain ⟨h1, h2, h3, _⟩ := h) | (obtain ⟨h1, h2, _⟩ := h) | (obtain ⟨h1, _⟩ := h)) | (apply WL.add; exact rfl; exact rfl; exact rfl; exact rfl; omega) | (apply WL.sub; exact rfl; exact rfl; exact rfl; exact rfl; omega) | (apply WL.mul; exact rfl; exact rfl; exact rfl; exact rfl; omega) | (apply WL.quo; exact rfl; exact rfl; exact rfl; exact rfl; omega) | (apply WL.rem; exact rfl; exact rfl; exact rfl; exact rfl; omega) | (apply WL.loadA tOk; exact rfl; exact rfl; exact rfl; exact rfl; exact rfl; (first | assumption | (focus (apply Cells.ext; rotate_left; assumption; (first | exact Ext.refl _ | assumption | exact Ext.trans (by assumption) (by assumption) | (focus (repeat (first | exact Ext.refl _ | assumption | (apply Ext.trans; rotate_left; assumption))); done) | solve_by_elim (maxDepth := 8) [Ext.trans]); done))); exact rfl) | (apply WL.guardF; exact rfl; exact rfl) | (apply WL.gD; exact rfl; exact rfl; all_goals intro _) | (apply WL.gN; exact rfl; exact rfl; all_goals intro _) | (apply WL.gB; exact rfl; exact rfl; all_goals intro _))
    | (show Z _ _ _ _ _; first | apply Z.tail | apply Z.then_normal | apply Z.block_normal | apply Z.then_exit | apply Z.block_exit | apply Z.then_ret | apply Z.block_ret | (apply Z.block_other; exact rfl))
    | (show W _ _ _ _ _ _; first | apply W.seq | apply W.region | apply W.block | apply W.skip | apply W.ret | apply W.exit | (apply W.condT; exact rfl) | (apply W.condF; exact rfl) | (apply W.condD; exact rfl; all_goals intro _) | (apply W.condN; exact rfl; all_goals intro _) | (apply W.condB; exact rfl; all_goals intro _)))
  repeat' (first
    | (apply WL.nilc; exact rfl; exact rfl; exact rfl)
    | (apply WL.eqNilS tOk; exact rfl; exact rfl; exact rfl; exact rfl; exact rfl; exact rfl)
    | (apply WL.neNilS tOk; exact rfl; exact rfl; exact rfl; exact rfl; exact rfl; exact rfl)
    | (apply WL.eqNil tOk; exact rfl; exact rfl; exact rfl; exact rfl; exact rfl; exact rfl)
    | (apply WL.neNil tOk; exact rfl; exact rfl; exact rfl; exact rfl; exact rfl; exact rfl)
    | (((show WL _ _ _ (⟨_, .call ⟨.value (.func 89), _, _⟩, _, _, _, _⟩ :: _) _ _ _); apply WL.call; exact rfl; exact rfl; exact rfl; exact rfl; exact trail_Push' (E' := [1]) hX hS hM (by decide) rfl; rintro v' w3 ⟨hX3, rfl, av3, cv3, am3, cm3, M3, al3, cl3, ae3, ce3, hM3, hS3⟩))
    | (show WL _ _ _ _ _ _ _; first | apply WL.nil | (apply WL.pev tOk; exact rfl; exact rfl; exact rfl) | (apply WL.load tOk; exact rfl; exact rfl; exact rfl; exact rfl; exact rfl; (first | assumption | (focus (apply Ext.cell; rotate_left; assumption; (first | exact Ext.refl _ | assumption | exact Ext.trans (by assumption) (by assumption) | (focus (repeat (first | exact Ext.refl _ | assumption | (apply Ext.trans; rotate_left; assumption))); done) | solve_by_elim (maxDepth := 8) [Ext.trans]); done)))) | (apply WL.index tOk; exact rfl; exact rfl; exact rfl; exact rfl; exact rfl; exact rfl; exact rfl; exact rfl; assumption; (first | exact Ext.refl _ | assumption | exact Ext.trans (by assumption) (by assumption) | (focus (repeat (first | exact Ext.refl _ | assumption | (apply Ext.trans; rotate_left; assumption))); done) | solve_by_elim (maxDepth := 8) [Ext.trans]); exact rfl; omega; assumption; intro b off h; have hcc := h; first | (obtain ⟨h1, h2, h3, _⟩ := h) | (obtain ⟨h1, h2, _⟩ := h) | (obtain ⟨h1, _⟩ := h)) | (apply WL.add; exact rfl; exact rfl; exact rfl; exact rfl; omega) | (apply WL.sub; exact rfl; exact rfl; exact rfl; exact rfl; omega) | (apply WL.mul; exact rfl; exact rfl; exact rfl; exact rfl; omega) | (apply WL.quo; exact rfl; exact rfl; exact rfl; exact rfl; omega) | (apply WL.rem; exact rfl; exact rfl; exact rfl; exact rfl; omega) | (apply WL.loadA tOk; exact rfl; exact rfl; exact rfl; exact rfl; exact rfl; (first | assumption | (focus (apply Cells.ext; rotate_left; assumption; (first | exact Ext.refl _ | assumption | exact Ext.trans (by assumption) (by assumption) | (focus (repeat (first | exact Ext.refl _ | assumption | (apply Ext.trans; rotate_left; assumption))); done) | solve_by_elim (maxDepth := 8) [Ext.trans]); done))); exact rfl) | (apply WL.guardF; exact rfl; exact rfl) | (apply WL.gD; exact rfl; exact rfl; all_goals intro _) | (apply WL.gN; exact rfl; exact rfl; all_goals intro _) | (apply WL.gB; exact rfl; exact rfl; all_goals intro _))
    | (show Z _ _ _ _ _; first | apply Z.tail | apply Z.then_normal | apply Z.block_normal | apply Z.then_exit | apply Z.block_exit | apply Z.then_ret | apply Z.block_ret | (apply Z.block_other; exact rfl))
    | (show W _ _ _ _ _ _; first | apply W.seq | apply W.region | apply W.block | apply W.skip | apply W.ret | apply W.exit | (apply W.condT; exact rfl) | (apply W.condF; exact rfl) | (apply W.condD; exact rfl; all_goals intro _) | (apply W.condN; exact rfl; all_goals intro _) | (apply W.condB; exact rfl; all_goals intro _)))
  repeat' (first
    | (apply WL.nilc; exact rfl; exact rfl; exact rfl)
    | (apply WL.eqNilS tOk; exact rfl; exact rfl; exact rfl; exact rfl; exact rfl; exact rfl)
    | (apply WL.neNilS tOk; exact rfl; exact rfl; exact rfl; exact rfl; exact rfl; exact rfl)
    | (apply WL.eqNil tOk; exact rfl; exact rfl; exact rfl; exact rfl; exact rfl; exact rfl)
    | (apply WL.neNil tOk; exact rfl; exact rfl; exact rfl; exact rfl; exact rfl; exact rfl)
    | (apply WL.gT; exact rfl; exact rfl; (focus (exact dec_false (fun h => h rfl); done)))
    | (apply WL.gF; exact rfl; exact rfl; (focus (exact dec_false (fun h => h rfl); done)))
    | (apply W.condKT; exact rfl; (focus (exact dec_false (fun h => h rfl); done)))
    | (apply W.condKF; exact rfl; (focus (exact dec_false (fun h => h rfl); done)))
    | (((show WL _ _ _ (⟨_, .call ⟨.value (.func 88), _, _⟩, _, _, _, _⟩ :: _) _ _ _); apply WL.call; exact rfl; exact rfl; exact rfl; exact rfl; exact trail_Set' hX3 hS3 okA.1 hM3 (by decide) (by decide) 7 1 (by decide) 0 liv_e2 liv_s2; rintro v' w4 ⟨hX4, rfl, av4, cv4, am4, cm4, M4, al4, cl4, ae4, ce4, hM4, hS4⟩))
    | ((show WL _ _ _ (⟨_, .call ⟨.value (.func 91), _, _⟩, _, _, _, _⟩ :: _) _ _ _); apply WL.callP; exact rfl; exact rfl; exact rfl; exact rfl; exact trail_At' (hS4.ext (by (first | exact Ext.refl _ | assumption | exact Ext.trans (by assumption) (by assumption) | (focus (repeat (first | exact Ext.refl _ | assumption | (apply Ext.trans; rotate_left; assumption))); done) | solve_by_elim (maxDepth := 8) [Ext.trans]))) okB.1 hM4 (by decide) 3 liv_o; intro w' hx)
    | ((show WL _ _ _ (⟨_, .call ⟨.value (.func 92), _, _⟩, _, _, _, _⟩ :: _) _ _ _); apply WL.callP; exact rfl; exact rfl; exact rfl; exact rfl; exact trail_Why' (hS4.ext (by (first | exact Ext.refl _ | assumption | exact Ext.trans (by assumption) (by assumption) | (focus (repeat (first | exact Ext.refl _ | assumption | (apply Ext.trans; rotate_left; assumption))); done) | solve_by_elim (maxDepth := 8) [Ext.trans]))) okB.1 hM4 (by decide) 3 liv_o; intro w' hx)
    | (((show WL _ _ _ (⟨_, .call ⟨.value (.func 93), _, _⟩, _, _, _, _⟩ :: _) _ _ _); apply WL.call; exact rfl; exact rfl; exact rfl; exact rfl; exact trail_Back' (w0 := w) (by (first | exact Ext.refl _ | assumption | exact Ext.trans (by assumption) (by assumption) | (focus (repeat (first | exact Ext.refl _ | assumption | (apply Ext.trans; rotate_left; assumption))); done) | solve_by_elim (maxDepth := 8) [Ext.trans])) (hS4.ext (by (first | exact Ext.refl _ | assumption | exact Ext.trans (by assumption) (by assumption) | (focus (repeat (first | exact Ext.refl _ | assumption | (apply Ext.trans; rotate_left; assumption))); done) | solve_by_elim (maxDepth := 8) [Ext.trans]))) okB.1 hM4 okB.2 (by decide) (by decide) 0 liv_b1 liv_b2; rintro v' w5 ⟨hX5, rfl, av5, cv5, am5, cm5, M5, al5, cl5, ae5, ce5, hM5, hS5⟩))
    | (show WL _ _ _ _ _ _ _; first | apply WL.nil | (apply WL.pev tOk; exact rfl; exact rfl; exact rfl) | (apply WL.load tOk; exact rfl; exact rfl; exact rfl; exact rfl; exact rfl; (first | assumption | (focus (apply Ext.cell; rotate_left; assumption; (first | exact Ext.refl _ | assumption | exact Ext.trans (by assumption) (by assumption) | (focus (repeat (first | exact Ext.refl _ | assumption | (apply Ext.trans; rotate_left; assumption))); done) | solve_by_elim (maxDepth := 8) [Ext.trans]); done)))) | (apply WL.index tOk; exact rfl; exact rfl; exact rfl; exact rfl; exact rfl; exact rfl; exact rfl; exact rfl; assumption; (first | exact Ext.refl _ | assumption | exact Ext.trans (by assumption) (by assumption) | (focus (repeat (first | exact Ext.refl _ | assumption | (apply Ext.trans; rotate_left; assumption))); done) | solve_by_elim (maxDepth := 8) [Ext.trans]); exact rfl; omega; assumption; intro b off h; have hcc := h; first | (obtain ⟨h1, h2, h3, _⟩ := h) | (obtain ⟨h1, h2, _⟩ := h) | (obtain ⟨h1, _⟩ := h)) | (apply WL.add; exact rfl; exact rfl; exact rfl; exact rfl; omega) | (apply WL.sub; exact rfl; exact rfl; exact rfl; exact rfl; omega) | (apply WL.mul; exact rfl; exact rfl; exact rfl; exact rfl; omega) | (apply WL.quo; exact rfl; exact rfl; exact rfl; exact rfl; omega) | (apply WL.rem; exact rfl; exact rfl; exact rfl; exact rfl; omega) | (apply WL.loadA tOk; exact rfl; exact rfl; exact rfl; exact rfl; exact rfl; (first | assumption | (focus (apply Cells.ext; rotate_left; assumption; (first | exact Ext.refl _ | assumption | exact Ext.trans (by assumption) (by assumption) | (focus (repeat (first | exact Ext.refl _ | assumption | (apply Ext.trans; rotate_left; assumption))); done) | solve_by_elim (maxDepth := 8) [Ext.trans]); done))); exact rfl) | (apply WL.guardF; exact rfl; exact rfl) | (apply WL.gD; exact rfl; exact rfl; all_goals intro _) | (apply WL.gN; exact rfl; exact rfl; all_goals intro _) | (apply WL.gB; exact rfl; exact rfl; all_goals intro _))
    | (show Z _ _ _ _ _; first | apply Z.tail | apply Z.then_normal | apply Z.block_normal | apply Z.then_exit | apply Z.block_exit | apply Z.then_ret | apply Z.block_ret | (apply Z.block_other; exact rfl))
    | (show W _ _ _ _ _ _; first | apply W.seq | apply W.region | apply W.block | apply W.skip | apply W.ret | apply W.exit | (apply W.condT; exact rfl) | (apply W.condF; exact rfl) | (apply W.condD; exact rfl; all_goals intro _) | (apply W.condN; exact rfl; all_goals intro _) | (apply W.condB; exact rfl; all_goals intro _)))
  repeat' (first
    | (apply WL.nilc; exact rfl; exact rfl; exact rfl)
    | (apply WL.eqNilS tOk; exact rfl; exact rfl; exact rfl; exact rfl; exact rfl; exact rfl)
    | (apply WL.neNilS tOk; exact rfl; exact rfl; exact rfl; exact rfl; exact rfl; exact rfl)
    | (apply WL.eqNil tOk; exact rfl; exact rfl; exact rfl; exact rfl; exact rfl; exact rfl)
    | (apply WL.neNil tOk; exact rfl; exact rfl; exact rfl; exact rfl; exact rfl; exact rfl)
    | (apply WL.gT; exact rfl; exact rfl; (focus (exact dec_true rfl; done)))
    | (apply WL.gF; exact rfl; exact rfl; (focus (exact dec_true rfl; done)))
    | (apply W.condKT; exact rfl; (focus (exact dec_true rfl; done)))
    | (apply W.condKF; exact rfl; (focus (exact dec_true rfl; done)))
    | ((show WL _ _ _ (⟨_, .call ⟨.value (.func 95), _, _⟩, _, _, _, _⟩ :: _) _ _ _); apply WL.callS; exact rfl; exact rfl; exact rfl; exact rfl; exact trail_Value' hS5 okA.1 (by decide) 5 liv_v5)
    | ((show WL _ _ _ (⟨_, .call ⟨.value (.func 95), _, _⟩, _, _, _, _⟩ :: _) _ _ _); apply WL.callS; exact rfl; exact rfl; exact rfl; exact rfl; exact trail_Value' hS5 okA.1 (by decide) 7 liv_v7)
    | ((show WL _ _ _ (⟨_, .call ⟨.value (.func 94), _, _⟩, _, _, _, _⟩ :: _) _ _ _); apply WL.callS; exact rfl; exact rfl; exact rfl; exact rfl; exact trail_Level hS5)
    | (show WL _ _ _ _ _ _ _; first | apply WL.nil | (apply WL.pev tOk; exact rfl; exact rfl; exact rfl) | (apply WL.load tOk; exact rfl; exact rfl; exact rfl; exact rfl; exact rfl; (first | assumption | (focus (apply Ext.cell; rotate_left; assumption; (first | exact Ext.refl _ | assumption | exact Ext.trans (by assumption) (by assumption) | (focus (repeat (first | exact Ext.refl _ | assumption | (apply Ext.trans; rotate_left; assumption))); done) | solve_by_elim (maxDepth := 8) [Ext.trans]); done)))) | (apply WL.index tOk; exact rfl; exact rfl; exact rfl; exact rfl; exact rfl; exact rfl; exact rfl; exact rfl; assumption; (first | exact Ext.refl _ | assumption | exact Ext.trans (by assumption) (by assumption) | (focus (repeat (first | exact Ext.refl _ | assumption | (apply Ext.trans; rotate_left; assumption))); done) | solve_by_elim (maxDepth := 8) [Ext.trans]); exact rfl; omega; assumption; intro b off h; have hcc := h; first | (obtain ⟨h1, h2, h3, _⟩ := h) | (obtain ⟨h1, h2, _⟩ := h) | (obtain ⟨h1, _⟩ := h)) | (apply WL.add; exact rfl; exact rfl; exact rfl; exact rfl; omega) | (apply WL.sub; exact rfl; exact rfl; exact rfl; exact rfl; omega) | (apply WL.mul; exact rfl; exact rfl; exact rfl; exact rfl; omega) | (apply WL.quo; exact rfl; exact rfl; exact rfl; exact rfl; omega) | (apply WL.rem; exact rfl; exact rfl; exact rfl; exact rfl; omega) | (apply WL.loadA tOk; exact rfl; exact rfl; exact rfl; exact rfl; exact rfl; (first | assumption | (focus (apply Cells.ext; rotate_left; assumption; (first | exact Ext.refl _ | assumption | exact Ext.trans (by assumption) (by assumption) | (focus (repeat (first | exact Ext.refl _ | assumption | (apply Ext.trans; rotate_left; assumption))); done) | solve_by_elim (maxDepth := 8) [Ext.trans]); done))); exact rfl) | (apply WL.guardF; exact rfl; exact rfl) | (apply WL.gD; exact rfl; exact rfl; all_goals intro _) | (apply WL.gN; exact rfl; exact rfl; all_goals intro _) | (apply WL.gB; exact rfl; exact rfl; all_goals intro _))
    | (show Z _ _ _ _ _; first | apply Z.tail | apply Z.then_normal | apply Z.block_normal | apply Z.then_exit | apply Z.block_exit | apply Z.then_ret | apply Z.block_ret | (apply Z.block_other; exact rfl))
    | (show W _ _ _ _ _ _; first | apply W.seq | apply W.region | apply W.block | apply W.skip | apply W.ret | apply W.exit | (apply W.condT; exact rfl) | (apply W.condF; exact rfl) | (apply W.condD; exact rfl; all_goals intro _) | (apply W.condN; exact rfl; all_goals intro _) | (apply W.condB; exact rfl; all_goals intro _)))
  exact Z.body1 Try.results97 rfl fun m => ⟨congrArg Value.bool (dec_true rfl), Ext.at hX5 m⟩

set_option maxHeartbeats 8000000 in
theorem law_TrailNone (l y : Int) (w : World) : Pure Try.prog 18 [.int .i64 l, .int .i64 y] w (.bool true) := by
  refine Spec.of _ Try.func18 rfl Try.ntmps18 (by kernel_rfl) rfl ?_
  repeat' (first
    | (apply WL.nilc; exact rfl; exact rfl; exact rfl)
    | (apply WL.eqNilS tOk; exact rfl; exact rfl; exact rfl; exact rfl; exact rfl; exact rfl)
    | (apply WL.neNilS tOk; exact rfl; exact rfl; exact rfl; exact rfl; exact rfl; exact rfl)
    | (apply WL.eqNil tOk; exact rfl; exact rfl; exact rfl; exact rfl; exact rfl; exact rfl)
    | (apply WL.neNil tOk; exact rfl; exact rfl; exact rfl; exact rfl; exact rfl; exact rfl)
    | (apply WL.gT; exact rfl; exact rfl; (focus (exact dec_true rfl; done)))
    | (apply WL.gF; exact rfl; exact rfl; (focus (exact dec_true rfl; done)))
    | (apply W.condKT; exact rfl; (focus (exact dec_true rfl; done)))
    | (apply W.condKF; exact rfl; (focus (exact dec_true rfl; done)))
    | ((show WL _ _ _ (⟨_, .call ⟨.value (.func 89), _, _⟩, _, _, _, _⟩ :: _) _ _ _); apply WL.callS; exact rfl; exact rfl; exact rfl; exact rfl; exact trail_PushN _)
    | ((show WL _ _ _ (⟨_, .call ⟨.value (.func 93), _, _⟩, _, _, _, _⟩ :: _) _ _ _); apply WL.callS; exact rfl; exact rfl; exact rfl; exact rfl; exact trail_BackN _ _)
    | ((show WL _ _ _ (⟨_, .call ⟨.value (.func 88), _, _⟩, _, _, _, _⟩ :: _) _ _ _); apply WL.callS; exact rfl; exact rfl; exact rfl; exact rfl; exact trail_SetN _ _ _)
    | ((show WL _ _ _ (⟨_, .call ⟨.value (.func 94), _, _⟩, _, _, _, _⟩ :: _) _ _ _); apply WL.callS; exact rfl; exact rfl; exact rfl; exact rfl; exact trail_LevelN _)
    | ((show WL _ _ _ (⟨_, .call ⟨.value (.func 95), _, _⟩, _, _, _, _⟩ :: _) _ _ _); apply WL.callS; exact rfl; exact rfl; exact rfl; exact rfl; exact trail_ValueN _ _)
    | ((show WL _ _ _ (⟨_, .call ⟨.value (.func 91), _, _⟩, _, _, _, _⟩ :: _) _ _ _); apply WL.callP; exact rfl; exact rfl; exact rfl; exact rfl; exact trail_AtN _ _; intro w' hx)
    | ((show WL _ _ _ (⟨_, .call ⟨.value (.func 92), _, _⟩, _, _, _, _⟩ :: _) _ _ _); apply WL.callP; exact rfl; exact rfl; exact rfl; exact rfl; exact trail_WhyN _ _; intro w' hx)
    | ((show WL _ _ _ (⟨_, .call ⟨.value (.func 96), _, _⟩, _, _, _, _⟩ :: _) _ _ _); apply WL.callP; exact rfl; exact rfl; exact rfl; exact rfl; exact trail_PlaceN _ _; intro w' hx)
    | ((show WL _ _ _ (⟨_, .call ⟨.value (.func 90), _, _⟩, _, _, _, _⟩ :: _) _ _ _); apply WL.callS; exact rfl; exact rfl; exact rfl; exact rfl; exact trail_ListN _)
    | ((show WL _ _ _ (⟨_, .call ⟨.value (.func 116), _, _⟩, _, _, _, _⟩ :: _) _ _ _); apply WL.callS; exact rfl; exact rfl; exact rfl; exact rfl; exact trail_LenN _)
    | ((show WL _ _ _ (⟨_, .call ⟨.value (.func 114), _, _⟩, _, _, _, _⟩ :: _) _ _ _); apply WL.callS; exact rfl; exact rfl; exact rfl; exact rfl; exact trail_ValuesN _)
    | ((show WL _ _ _ (⟨_, .call ⟨.value (.func 97), _, _⟩, _, _, _, _⟩ :: _) _ _ _); apply WL.callP; exact rfl; exact rfl; exact rfl; exact rfl; exact law21_lives _; intro w' hx)
    | (show WL _ _ _ _ _ _ _; first | apply WL.nil | (apply WL.pev tOk; exact rfl; exact rfl; exact rfl) | (apply WL.load tOk; exact rfl; exact rfl; exact rfl; exact rfl; exact rfl; (first | assumption | (focus (apply Ext.cell; rotate_left; assumption; (first | exact Ext.refl _ | assumption | exact Ext.trans (by assumption) (by assumption) | (focus (repeat (first | exact Ext.refl _ | assumption | (apply Ext.trans; rotate_left; assumption))); done) | solve_by_elim (maxDepth := 8) [Ext.trans]); done)))) | (apply WL.index tOk; exact rfl; exact rfl; exact rfl; exact rfl; exact rfl; exact rfl; exact rfl; exact rfl; assumption; (first | exact Ext.refl _ | assumption | exact Ext.trans (by assumption) (by assumption) | (focus (repeat (first | exact Ext.refl _ | assumption | (apply Ext.trans; rotate_left; assumption))); done) | solve_by_elim (maxDepth := 8) [Ext.trans]); exact rfl; omega; assumption; intro b off h; have hcc := h; first | (obtain ⟨h1, h2, h3, _⟩ := h) | (obtain ⟨h1, h2, _⟩ := h) | (obtain ⟨h1, _⟩ := h)) | (apply WL.add; exact rfl; exact rfl; exact rfl; exact rfl; omega) | (apply WL.sub; exact rfl; exact rfl; exact rfl; exact rfl; omega) | (apply WL.mul; exact rfl; exact rfl; exact rfl; exact rfl; omega) | (apply WL.quo; exact rfl; exact rfl; exact rfl; exact rfl; omega) | (apply WL.rem; exact rfl; exact rfl; exact rfl; exact rfl; omega) | (apply WL.loadA tOk; exact rfl; exact rfl; exact rfl; exact rfl; exact rfl; (first | assumption | (focus (apply Cells.ext; rotate_left; assumption; (first | exact Ext.refl _ | assumption | exact Ext.trans (by assumption) (by assumption) | (focus (repeat (first | exact Ext.refl _ | assumption | (apply Ext.trans; rotate_left; assumption))); done) | solve_by_elim (maxDepth := 8) [Ext.trans]); done))); exact rfl) | (apply WL.guardF; exact rfl; exact rfl) | (apply WL.gD; exact rfl; exact rfl; all_goals intro _) | (apply WL.gN; exact rfl; exact rfl; all_goals intro _) | (apply WL.gB; exact rfl; exact rfl; all_goals intro _))
    | (show Z _ _ _ _ _; first | apply Z.tail | apply Z.then_normal | apply Z.block_normal | apply Z.then_exit | apply Z.block_exit | apply Z.then_ret | apply Z.block_ret | (apply Z.block_other; exact rfl))
    | (show W _ _ _ _ _ _; first | apply W.seq | apply W.region | apply W.block | apply W.skip | apply W.ret | apply W.exit | (apply W.condT; exact rfl) | (apply W.condF; exact rfl) | (apply W.condD; exact rfl; all_goals intro _) | (apply W.condN; exact rfl; all_goals intro _) | (apply W.condB; exact rfl; all_goals intro _)))
  exact Z.body1 Try.results18 rfl fun m => ⟨rfl, Ext.at (by (first | exact Ext.refl _ | assumption | exact Ext.trans (by assumption) (by assumption) | (focus (repeat (first | exact Ext.refl _ | assumption | (apply Ext.trans; rotate_left; assumption))); done) | solve_by_elim (maxDepth := 8) [Ext.trans])) m⟩
end Go.Proofs.Ytnbmhibhnfmdeaa
