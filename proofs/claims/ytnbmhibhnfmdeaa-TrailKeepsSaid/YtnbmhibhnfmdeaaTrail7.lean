/- Trails: the reference's. No conditions. -/
import Derived.Test.YtnbmhibhnfmdeaaTrail6
import Derived.Test.YtnbmhibhnfmdeaaNet
namespace Go.Proofs.Ytnbmhibhnfmdeaa
open Go Go.Lt Go.RowKit
set_option linter.unusedVariables false
set_option linter.unusedSimpArgs false

/-- The reference's trail. -/
abbrev rfP (B gr n lev : Nat) (a : Option Addr) (c : Nat) (Lr : List T3) : List Piece :=
  [pcell gr #[.int .i64 n, .int .i64 lev, .slice a Lr.length c] 107, prow 3 enc3 167 B a c Lr]
def RfAt (B : Nat) (w : World) (gr n lev : Nat) (Lr : List T3) (rest : List Piece) : Prop := ∃ a c, Lt.Sep B w (rfP B gr n lev a c Lr ++ rest)
section
variable {B gr n lev : Nat} {w w0 : World} {a : Option Addr} {c : Nat} {Lr : List T3} {rest : List Piece}
theorem RfAt.ext {w' : World} (h : RfAt B w gr n lev Lr rest) (hx : Ext w w') : RfAt B w' gr n lev Lr rest := by
  obtain ⟨a, c, h⟩ := h; exact ⟨a, c, h.ext hx⟩
structure RfC (w : World) (gr n lev : Nat) (a : Option Addr) (c m : Nat) : Prop where
  c0 : w.cell? ⟨gr, 0, none⟩ = some (.int .i64 n)
  c1 : w.cell? ⟨gr, 0 + 1, none⟩ = some (.int .i64 lev)
  c2 : w.cell? ⟨gr, 0 + 1 + 1, none⟩ = some (.slice a m c)
theorem rfC (hS : Lt.Sep B w (rfP B gr n lev a c Lr ++ rest)) : RfC w gr n lev a c Lr.length := by
  have h := cells_heap (hS.cell (i := 0) rfl)
  exact ⟨h.1, h.2.1, h.2.2.1⟩
def plcI (o : Option Nat) : Int := match o with | some i => i | none => -1
theorem rf_place (hS : Lt.Sep B w (rfP B gr n lev a c Lr ++ rest)) (hT : TOk n Lr) (hn : n ≤ 1048576) (hL : Lr.length ≤ 1048576) (v : Int) :
    Still Try.prog 194 [.pointer (some ⟨gr, 0, none⟩), .int .i64 v] w (.int .i64 (plcI (plc v Lr))) := by
  obtain ⟨c0, c1, c2⟩ := rfC hS
  have hR1 := hS.row (i := 1) rfl
  refine Spec.of _ Try.func194 rfl Try.ntmps194 (by kernel_rfl) rfl ?_
  repeat' (first
    | (show WL _ _ _ _ _ _ _; first | apply WL.nil | (apply WL.pev tOk; exact rfl; exact rfl; exact rfl) | (apply WL.load tOk; exact rfl; exact rfl; exact rfl; exact rfl; exact rfl; (first | assumption | (focus (apply Ext.cell; rotate_left; assumption; (first | exact Ext.refl _ | assumption | exact Ext.trans (by assumption) (by assumption) | (focus (repeat (first | exact Ext.refl _ | assumption | (apply Ext.trans; rotate_left; assumption))); done) | solve_by_elim (maxDepth := 8) [Ext.trans]); done)))) | (apply WL.index tOk; exact rfl; exact rfl; exact rfl; exact rfl; exact rfl; exact rfl; exact rfl; exact rfl; assumption; (first | exact Ext.refl _ | assumption | exact Ext.trans (by assumption) (by assumption) | (focus (repeat (first | exact Ext.refl _ | assumption | (apply Ext.trans; rotate_left; assumption))); done) | solve_by_elim (maxDepth := 8) [Ext.trans]); exact rfl; omega; assumption; intro b off h; have hcc := h; first | (obtain ⟨h1, h2, h3, _⟩ := h) | (obtain ⟨h1, h2, _⟩ := h) | (obtain ⟨h1, _⟩ := h)) | (apply WL.add; exact rfl; exact rfl; exact rfl; exact rfl; omega) | (apply WL.sub; exact rfl; exact rfl; exact rfl; exact rfl; omega) | (apply WL.mul; exact rfl; exact rfl; exact rfl; exact rfl; omega) | (apply WL.quo; exact rfl; exact rfl; exact rfl; exact rfl; omega) | (apply WL.rem; exact rfl; exact rfl; exact rfl; exact rfl; omega) | (apply WL.loadA tOk; exact rfl; exact rfl; exact rfl; exact rfl; exact rfl; (first | assumption | (focus (apply Cells.ext; rotate_left; assumption; (first | exact Ext.refl _ | assumption | exact Ext.trans (by assumption) (by assumption) | (focus (repeat (first | exact Ext.refl _ | assumption | (apply Ext.trans; rotate_left; assumption))); done) | solve_by_elim (maxDepth := 8) [Ext.trans]); done))); exact rfl) | (apply WL.guardF; exact rfl; exact rfl) | (apply WL.gD; exact rfl; exact rfl; all_goals intro _) | (apply WL.gN; exact rfl; exact rfl; all_goals intro _) | (apply WL.gB; exact rfl; exact rfl; all_goals intro _))
    | (show Z _ _ _ _ _; first | apply Z.tail | apply Z.then_normal | apply Z.block_normal | apply Z.then_exit | apply Z.block_exit | apply Z.then_ret | apply Z.block_ret | (apply Z.block_other; exact rfl))
    | (show W _ _ _ _ _ _; first | apply W.seq | apply W.region | apply W.block | apply W.skip | apply W.ret | apply W.exit | (apply W.condT; exact rfl) | (apply W.condF; exact rfl) | (apply W.condD; exact rfl; all_goals intro _) | (apply W.condN; exact rfl; all_goals intro _) | (apply W.condB; exact rfl; all_goals intro _)))
  refine W.loop1 Lr.length (fun k => k ≤ Lr.length ∧ ∀ j y, j < k → Lr[j]? = some y → y.1 / 2 ≠ v) (fun k => [(0, .pointer (some ⟨gr, 0, none⟩)), (1, .int .i64 v), (5, .int .i64 k)]) ⟨by omega, fun j y hj => by omega⟩ (fun k h => h.1) ⟨rfl, rfl, rfl, trivial⟩ ?_
  rintro k ⟨hk, hne⟩
  by_cases hlt : k < Lr.length
  · obtain ⟨x, hx⟩ := getI Lr hlt
    have hxb := hT.1 x (List.mem_of_getElem? hx)
    repeat' (first
      | (apply WL.nilc; exact rfl; exact rfl; exact rfl)
      | (apply WL.eqNilS tOk; exact rfl; exact rfl; exact rfl; exact rfl; exact rfl; exact rfl)
      | (apply WL.neNilS tOk; exact rfl; exact rfl; exact rfl; exact rfl; exact rfl; exact rfl)
      | (apply WL.eqNil tOk; exact rfl; exact rfl; exact rfl; exact rfl; exact rfl; exact rfl)
      | (apply WL.neNil tOk; exact rfl; exact rfl; exact rfl; exact rfl; exact rfl; exact rfl)
      | (apply WL.indexO tOk; exact rfl; exact rfl; exact rfl; exact rfl; exact rfl; exact rfl; exact rfl; exact rfl; assumption; (first | exact Ext.refl _ | assumption | exact Ext.trans (by assumption) (by assumption) | (focus (repeat (first | exact Ext.refl _ | assumption | (apply Ext.trans; rotate_left; assumption))); done) | solve_by_elim (maxDepth := 8) [Ext.trans]); exact enc3_ok; (first | exact rfl | (simp; done) | (simp [*]; done) | omega | (simp only [List.length_set]; omega)); omega; assumption; intro gb ha hc; cases ha; have hcc := hc; first | (obtain ⟨h1, h2, h3, _⟩ := hc) | (obtain ⟨h1, h2, _⟩ := hc) | (obtain ⟨h1, _⟩ := hc))
      | (apply WL.gT; exact rfl; exact rfl; (focus (exact dec_true (by omega); done)))
      | (apply WL.gF; exact rfl; exact rfl; (focus (exact dec_true (by omega); done)))
      | (apply W.condKT; exact rfl; (focus (exact dec_true (by omega); done)))
      | (apply W.condKF; exact rfl; (focus (exact dec_true (by omega); done)))
      | (show WL _ _ _ _ _ _ _; first | apply WL.nil | (apply WL.pev tOk; exact rfl; exact rfl; exact rfl) | (apply WL.load tOk; exact rfl; exact rfl; exact rfl; exact rfl; exact rfl; (first | assumption | (focus (apply Ext.cell; rotate_left; assumption; (first | exact Ext.refl _ | assumption | exact Ext.trans (by assumption) (by assumption) | (focus (repeat (first | exact Ext.refl _ | assumption | (apply Ext.trans; rotate_left; assumption))); done) | solve_by_elim (maxDepth := 8) [Ext.trans]); done)))) | (apply WL.index tOk; exact rfl; exact rfl; exact rfl; exact rfl; exact rfl; exact rfl; exact rfl; exact rfl; assumption; (first | exact Ext.refl _ | assumption | exact Ext.trans (by assumption) (by assumption) | (focus (repeat (first | exact Ext.refl _ | assumption | (apply Ext.trans; rotate_left; assumption))); done) | solve_by_elim (maxDepth := 8) [Ext.trans]); exact rfl; omega; assumption; intro b off h; have hcc := h; first | (obtain ⟨h1, h2, h3, _⟩ := h) | (obtain ⟨h1, h2, _⟩ := h) | (obtain ⟨h1, _⟩ := h)) | (apply WL.add; exact rfl; exact rfl; exact rfl; exact rfl; omega) | (apply WL.sub; exact rfl; exact rfl; exact rfl; exact rfl; omega) | (apply WL.mul; exact rfl; exact rfl; exact rfl; exact rfl; omega) | (apply WL.quo; exact rfl; exact rfl; exact rfl; exact rfl; omega) | (apply WL.rem; exact rfl; exact rfl; exact rfl; exact rfl; omega) | (apply WL.loadA tOk; exact rfl; exact rfl; exact rfl; exact rfl; exact rfl; (first | assumption | (focus (apply Cells.ext; rotate_left; assumption; (first | exact Ext.refl _ | assumption | exact Ext.trans (by assumption) (by assumption) | (focus (repeat (first | exact Ext.refl _ | assumption | (apply Ext.trans; rotate_left; assumption))); done) | solve_by_elim (maxDepth := 8) [Ext.trans]); done))); exact rfl) | (apply WL.guardF; exact rfl; exact rfl) | (apply WL.gD; exact rfl; exact rfl; all_goals intro _) | (apply WL.gN; exact rfl; exact rfl; all_goals intro _) | (apply WL.gB; exact rfl; exact rfl; all_goals intro _))
      | (show Z _ _ _ _ _; first | apply Z.tail | apply Z.then_normal | apply Z.block_normal | apply Z.then_exit | apply Z.block_exit | apply Z.then_ret | apply Z.block_ret | (apply Z.block_other; exact rfl))
      | (show W _ _ _ _ _ _; first | apply W.seq | apply W.region | apply W.block | apply W.skip | apply W.ret | apply W.exit | (apply W.condT; exact rfl) | (apply W.condF; exact rfl) | (apply W.condD; exact rfl; all_goals intro _) | (apply W.condN; exact rfl; all_goals intro _) | (apply W.condB; exact rfl; all_goals intro _)))
    · refine Z.body1 Try.results194 rfl fun m => ⟨?_, m, rfl⟩
      rw [plc_first hx (by assumption) hne]; rfl
    · refine Z.again1 ⟨by omega, fun j y hj hy => ?_⟩ ⟨rfl, rfl, rfl, trivial⟩
      by_cases hjk : j < k
      · exact hne j y hjk hy
      · obtain rfl : j = k := by omega
        rw [hx] at hy; cases hy; assumption
  · repeat' (first
      | (apply WL.nilc; exact rfl; exact rfl; exact rfl)
      | (apply WL.eqNilS tOk; exact rfl; exact rfl; exact rfl; exact rfl; exact rfl; exact rfl)
      | (apply WL.neNilS tOk; exact rfl; exact rfl; exact rfl; exact rfl; exact rfl; exact rfl)
      | (apply WL.eqNil tOk; exact rfl; exact rfl; exact rfl; exact rfl; exact rfl; exact rfl)
      | (apply WL.neNil tOk; exact rfl; exact rfl; exact rfl; exact rfl; exact rfl; exact rfl)
      | (apply WL.gT; exact rfl; exact rfl; (focus (exact dec_false (by omega); done)))
      | (apply WL.gF; exact rfl; exact rfl; (focus (exact dec_false (by omega); done)))
      | (apply W.condKT; exact rfl; (focus (exact dec_false (by omega); done)))
      | (apply W.condKF; exact rfl; (focus (exact dec_false (by omega); done)))
      | (show WL _ _ _ _ _ _ _; first | apply WL.nil | (apply WL.pev tOk; exact rfl; exact rfl; exact rfl) | (apply WL.load tOk; exact rfl; exact rfl; exact rfl; exact rfl; exact rfl; (first | assumption | (focus (apply Ext.cell; rotate_left; assumption; (first | exact Ext.refl _ | assumption | exact Ext.trans (by assumption) (by assumption) | (focus (repeat (first | exact Ext.refl _ | assumption | (apply Ext.trans; rotate_left; assumption))); done) | solve_by_elim (maxDepth := 8) [Ext.trans]); done)))) | (apply WL.index tOk; exact rfl; exact rfl; exact rfl; exact rfl; exact rfl; exact rfl; exact rfl; exact rfl; assumption; (first | exact Ext.refl _ | assumption | exact Ext.trans (by assumption) (by assumption) | (focus (repeat (first | exact Ext.refl _ | assumption | (apply Ext.trans; rotate_left; assumption))); done) | solve_by_elim (maxDepth := 8) [Ext.trans]); exact rfl; omega; assumption; intro b off h; have hcc := h; first | (obtain ⟨h1, h2, h3, _⟩ := h) | (obtain ⟨h1, h2, _⟩ := h) | (obtain ⟨h1, _⟩ := h)) | (apply WL.add; exact rfl; exact rfl; exact rfl; exact rfl; omega) | (apply WL.sub; exact rfl; exact rfl; exact rfl; exact rfl; omega) | (apply WL.mul; exact rfl; exact rfl; exact rfl; exact rfl; omega) | (apply WL.quo; exact rfl; exact rfl; exact rfl; exact rfl; omega) | (apply WL.rem; exact rfl; exact rfl; exact rfl; exact rfl; omega) | (apply WL.loadA tOk; exact rfl; exact rfl; exact rfl; exact rfl; exact rfl; (first | assumption | (focus (apply Cells.ext; rotate_left; assumption; (first | exact Ext.refl _ | assumption | exact Ext.trans (by assumption) (by assumption) | (focus (repeat (first | exact Ext.refl _ | assumption | (apply Ext.trans; rotate_left; assumption))); done) | solve_by_elim (maxDepth := 8) [Ext.trans]); done))); exact rfl) | (apply WL.guardF; exact rfl; exact rfl) | (apply WL.gD; exact rfl; exact rfl; all_goals intro _) | (apply WL.gN; exact rfl; exact rfl; all_goals intro _) | (apply WL.gB; exact rfl; exact rfl; all_goals intro _))
      | (show Z _ _ _ _ _; first | apply Z.tail | apply Z.then_normal | apply Z.block_normal | apply Z.then_exit | apply Z.block_exit | apply Z.then_ret | apply Z.block_ret | (apply Z.block_other; exact rfl))
      | (show W _ _ _ _ _ _; first | apply W.seq | apply W.region | apply W.block | apply W.skip | apply W.ret | apply W.exit | (apply W.condT; exact rfl) | (apply W.condF; exact rfl) | (apply W.condD; exact rfl; all_goals intro _) | (apply W.condN; exact rfl; all_goals intro _) | (apply W.condB; exact rfl; all_goals intro _)))
    refine Z.body1 Try.results194 rfl fun m => ⟨?_, m, rfl⟩
    rw [plc_none.2 (fun x hx => by obtain ⟨i, hi⟩ := List.mem_iff_getElem?.1 hx; exact hne i x (by have := lt_of_get hi; omega) hi)]; rfl
set_option maxHeartbeats 4000000 in
theorem rf_Value (hS : Lt.Sep B w (rfP B gr n lev a c Lr ++ rest)) (hT : TOk n Lr) (hn : n ≤ 1048576) (hL : Lr.length ≤ 1048576) (l : Int) (hl : l ≤ 9223372036854775807) :
    Still Try.prog 168 [.pointer (some ⟨gr, 0, none⟩), .int .i64 l] w (.int .i64 (valT n Lr l)) := by
  obtain ⟨c0, c1, c2⟩ := rfC hS
  have hR1 := hS.row (i := 1) rfl
  by_cases h01 : l = 0 ∨ l = 1
  · rw [valT, if_pos h01]
    refine Spec.of _ Try.func168 rfl Try.ntmps168 (by kernel_rfl) rfl ?_
    repeat' (first
      | (apply WL.nilc; exact rfl; exact rfl; exact rfl)
      | (apply WL.eqNilS tOk; exact rfl; exact rfl; exact rfl; exact rfl; exact rfl; exact rfl)
      | (apply WL.neNilS tOk; exact rfl; exact rfl; exact rfl; exact rfl; exact rfl; exact rfl)
      | (apply WL.eqNil tOk; exact rfl; exact rfl; exact rfl; exact rfl; exact rfl; exact rfl)
      | (apply WL.neNil tOk; exact rfl; exact rfl; exact rfl; exact rfl; exact rfl; exact rfl)
      | (apply WL.gT; exact rfl; exact rfl; (focus (first | exact dec_true (by omega) | exact dec_false (by omega); done)))
      | (apply WL.gF; exact rfl; exact rfl; (focus (first | exact dec_true (by omega) | exact dec_false (by omega); done)))
      | (apply W.condKT; exact rfl; (focus (first | exact dec_true (by omega) | exact dec_false (by omega); done)))
      | (apply W.condKF; exact rfl; (focus (first | exact dec_true (by omega) | exact dec_false (by omega); done)))
      | (show WL _ _ _ _ _ _ _; first | apply WL.nil | (apply WL.pev tOk; exact rfl; exact rfl; exact rfl) | (apply WL.load tOk; exact rfl; exact rfl; exact rfl; exact rfl; exact rfl; (first | assumption | (focus (apply Ext.cell; rotate_left; assumption; (first | exact Ext.refl _ | assumption | exact Ext.trans (by assumption) (by assumption) | (focus (repeat (first | exact Ext.refl _ | assumption | (apply Ext.trans; rotate_left; assumption))); done) | solve_by_elim (maxDepth := 8) [Ext.trans]); done)))) | (apply WL.index tOk; exact rfl; exact rfl; exact rfl; exact rfl; exact rfl; exact rfl; exact rfl; exact rfl; assumption; (first | exact Ext.refl _ | assumption | exact Ext.trans (by assumption) (by assumption) | (focus (repeat (first | exact Ext.refl _ | assumption | (apply Ext.trans; rotate_left; assumption))); done) | solve_by_elim (maxDepth := 8) [Ext.trans]); exact rfl; omega; assumption; intro b off h; have hcc := h; first | (obtain ⟨h1, h2, h3, _⟩ := h) | (obtain ⟨h1, h2, _⟩ := h) | (obtain ⟨h1, _⟩ := h)) | (apply WL.add; exact rfl; exact rfl; exact rfl; exact rfl; omega) | (apply WL.sub; exact rfl; exact rfl; exact rfl; exact rfl; omega) | (apply WL.mul; exact rfl; exact rfl; exact rfl; exact rfl; omega) | (apply WL.quo; exact rfl; exact rfl; exact rfl; exact rfl; omega) | (apply WL.rem; exact rfl; exact rfl; exact rfl; exact rfl; omega) | (apply WL.loadA tOk; exact rfl; exact rfl; exact rfl; exact rfl; exact rfl; (first | assumption | (focus (apply Cells.ext; rotate_left; assumption; (first | exact Ext.refl _ | assumption | exact Ext.trans (by assumption) (by assumption) | (focus (repeat (first | exact Ext.refl _ | assumption | (apply Ext.trans; rotate_left; assumption))); done) | solve_by_elim (maxDepth := 8) [Ext.trans]); done))); exact rfl) | (apply WL.guardF; exact rfl; exact rfl) | (apply WL.gD; exact rfl; exact rfl; all_goals intro _) | (apply WL.gN; exact rfl; exact rfl; all_goals intro _) | (apply WL.gB; exact rfl; exact rfl; all_goals intro _))
      | (show Z _ _ _ _ _; first | apply Z.tail | apply Z.then_normal | apply Z.block_normal | apply Z.then_exit | apply Z.block_exit | apply Z.then_ret | apply Z.block_ret | (apply Z.block_other; exact rfl))
      | (show W _ _ _ _ _ _; first | apply W.seq | apply W.region | apply W.block | apply W.skip | apply W.ret | apply W.exit | (apply W.condT; exact rfl) | (apply W.condF; exact rfl) | (apply W.condD; exact rfl; all_goals intro _) | (apply W.condN; exact rfl; all_goals intro _) | (apply W.condB; exact rfl; all_goals intro _)))
    all_goals exact Z.body1 Try.results168 rfl fun m => ⟨rfl, m, rfl⟩
  by_cases hin : 1 < l ∧ l / 2 ≤ (n : Int)
  · cases hp : plc (l / 2) Lr with
    | none =>
      rw [valT_free hin.1 hp]
      have key := rf_place hS hT hn hL (l / 2)
      rw [hp] at key
      refine Spec.of _ Try.func168 rfl Try.ntmps168 (by kernel_rfl) rfl ?_
      repeat' (first
        | (apply WL.nilc; exact rfl; exact rfl; exact rfl)
        | (apply WL.eqNilS tOk; exact rfl; exact rfl; exact rfl; exact rfl; exact rfl; exact rfl)
        | (apply WL.neNilS tOk; exact rfl; exact rfl; exact rfl; exact rfl; exact rfl; exact rfl)
        | (apply WL.eqNil tOk; exact rfl; exact rfl; exact rfl; exact rfl; exact rfl; exact rfl)
        | (apply WL.neNil tOk; exact rfl; exact rfl; exact rfl; exact rfl; exact rfl; exact rfl)
        | (apply WL.gT; exact rfl; exact rfl; (focus (first | exact dec_true (by omega) | exact dec_false (by omega) | exact dec_true (by decide); done)))
        | (apply WL.gF; exact rfl; exact rfl; (focus (first | exact dec_true (by omega) | exact dec_false (by omega) | exact dec_true (by decide); done)))
        | (apply W.condKT; exact rfl; (focus (first | exact dec_true (by omega) | exact dec_false (by omega) | exact dec_true (by decide); done)))
        | (apply W.condKF; exact rfl; (focus (first | exact dec_true (by omega) | exact dec_false (by omega) | exact dec_true (by decide); done)))
        | (((show WL _ _ _ (⟨_, .call ⟨.value (.func 194), _, _⟩, _, _, _, _⟩ :: _) _ _ _); apply WL.callS; exact rfl; exact rfl; exact rfl; exact rfl; exact key))
        | (show WL _ _ _ _ _ _ _; first | apply WL.nil | (apply WL.pev tOk; exact rfl; exact rfl; exact rfl) | (apply WL.load tOk; exact rfl; exact rfl; exact rfl; exact rfl; exact rfl; (first | assumption | (focus (apply Ext.cell; rotate_left; assumption; (first | exact Ext.refl _ | assumption | exact Ext.trans (by assumption) (by assumption) | (focus (repeat (first | exact Ext.refl _ | assumption | (apply Ext.trans; rotate_left; assumption))); done) | solve_by_elim (maxDepth := 8) [Ext.trans]); done)))) | (apply WL.index tOk; exact rfl; exact rfl; exact rfl; exact rfl; exact rfl; exact rfl; exact rfl; exact rfl; assumption; (first | exact Ext.refl _ | assumption | exact Ext.trans (by assumption) (by assumption) | (focus (repeat (first | exact Ext.refl _ | assumption | (apply Ext.trans; rotate_left; assumption))); done) | solve_by_elim (maxDepth := 8) [Ext.trans]); exact rfl; omega; assumption; intro b off h; have hcc := h; first | (obtain ⟨h1, h2, h3, _⟩ := h) | (obtain ⟨h1, h2, _⟩ := h) | (obtain ⟨h1, _⟩ := h)) | (apply WL.add; exact rfl; exact rfl; exact rfl; exact rfl; omega) | (apply WL.sub; exact rfl; exact rfl; exact rfl; exact rfl; omega) | (apply WL.mul; exact rfl; exact rfl; exact rfl; exact rfl; omega) | (apply WL.quo; exact rfl; exact rfl; exact rfl; exact rfl; omega) | (apply WL.rem; exact rfl; exact rfl; exact rfl; exact rfl; omega) | (apply WL.loadA tOk; exact rfl; exact rfl; exact rfl; exact rfl; exact rfl; (first | assumption | (focus (apply Cells.ext; rotate_left; assumption; (first | exact Ext.refl _ | assumption | exact Ext.trans (by assumption) (by assumption) | (focus (repeat (first | exact Ext.refl _ | assumption | (apply Ext.trans; rotate_left; assumption))); done) | solve_by_elim (maxDepth := 8) [Ext.trans]); done))); exact rfl) | (apply WL.guardF; exact rfl; exact rfl) | (apply WL.gD; exact rfl; exact rfl; all_goals intro _) | (apply WL.gN; exact rfl; exact rfl; all_goals intro _) | (apply WL.gB; exact rfl; exact rfl; all_goals intro _))
        | (show Z _ _ _ _ _; first | apply Z.tail | apply Z.then_normal | apply Z.block_normal | apply Z.then_exit | apply Z.block_exit | apply Z.then_ret | apply Z.block_ret | (apply Z.block_other; exact rfl))
        | (show W _ _ _ _ _ _; first | apply W.seq | apply W.region | apply W.block | apply W.skip | apply W.ret | apply W.exit | (apply W.condT; exact rfl) | (apply W.condF; exact rfl) | (apply W.condD; exact rfl; all_goals intro _) | (apply W.condN; exact rfl; all_goals intro _) | (apply W.condB; exact rfl; all_goals intro _)))
      exact Z.body1 Try.results168 rfl fun m => ⟨rfl, m, rfl⟩
    | some i =>
      obtain ⟨x, hx, hxv⟩ := plc_some hp
      have hi := lt_of_get hx
      rw [valT_set hT hin hx hxv]
      have key := rf_place hS hT hn hL (l / 2)
      rw [hp] at key
      have key' : Still Try.prog 194 [.pointer (some ⟨gr, 0, none⟩), .int .i64 (l / 2)] w (.int .i64 (i : Int)) := key
      have hx' : Lr[((i : Nat) : Int).toNat]? = some x := by rw [Int.toNat_natCast]; exact hx
      by_cases he : x.1 = l
      · rw [if_pos he]
        refine Spec.of _ Try.func168 rfl Try.ntmps168 (by kernel_rfl) rfl ?_
        repeat' (first
          | (apply WL.nilc; exact rfl; exact rfl; exact rfl)
          | (apply WL.eqNilS tOk; exact rfl; exact rfl; exact rfl; exact rfl; exact rfl; exact rfl)
          | (apply WL.neNilS tOk; exact rfl; exact rfl; exact rfl; exact rfl; exact rfl; exact rfl)
          | (apply WL.eqNil tOk; exact rfl; exact rfl; exact rfl; exact rfl; exact rfl; exact rfl)
          | (apply WL.neNil tOk; exact rfl; exact rfl; exact rfl; exact rfl; exact rfl; exact rfl)
          | (apply WL.indexO tOk; exact rfl; exact rfl; exact rfl; exact rfl; exact rfl; exact rfl; exact rfl; exact rfl; assumption; (first | exact Ext.refl _ | assumption | exact Ext.trans (by assumption) (by assumption) | (focus (repeat (first | exact Ext.refl _ | assumption | (apply Ext.trans; rotate_left; assumption))); done) | solve_by_elim (maxDepth := 8) [Ext.trans]); exact enc3_ok; (first | exact rfl | (simp; done) | (simp [*]; done) | omega | (simp only [List.length_set]; omega)); omega; assumption; intro gb ha hc; cases ha; have hcc := hc; first | (obtain ⟨h1, h2, h3, _⟩ := hc) | (obtain ⟨h1, h2, _⟩ := hc) | (obtain ⟨h1, _⟩ := hc))
          | (apply WL.gT; exact rfl; exact rfl; (focus (first | exact dec_true he | exact dec_true (by omega) | exact dec_false (by omega); done)))
          | (apply WL.gF; exact rfl; exact rfl; (focus (first | exact dec_true he | exact dec_true (by omega) | exact dec_false (by omega); done)))
          | (apply W.condKT; exact rfl; (focus (first | exact dec_true he | exact dec_true (by omega) | exact dec_false (by omega); done)))
          | (apply W.condKF; exact rfl; (focus (first | exact dec_true he | exact dec_true (by omega) | exact dec_false (by omega); done)))
          | (((show WL _ _ _ (⟨_, .call ⟨.value (.func 194), _, _⟩, _, _, _, _⟩ :: _) _ _ _); apply WL.callS; exact rfl; exact rfl; exact rfl; exact rfl; exact key'))
          | (show WL _ _ _ _ _ _ _; first | apply WL.nil | (apply WL.pev tOk; exact rfl; exact rfl; exact rfl) | (apply WL.load tOk; exact rfl; exact rfl; exact rfl; exact rfl; exact rfl; (first | assumption | (focus (apply Ext.cell; rotate_left; assumption; (first | exact Ext.refl _ | assumption | exact Ext.trans (by assumption) (by assumption) | (focus (repeat (first | exact Ext.refl _ | assumption | (apply Ext.trans; rotate_left; assumption))); done) | solve_by_elim (maxDepth := 8) [Ext.trans]); done)))) | (apply WL.index tOk; exact rfl; exact rfl; exact rfl; exact rfl; exact rfl; exact rfl; exact rfl; exact rfl; assumption; (first | exact Ext.refl _ | assumption | exact Ext.trans (by assumption) (by assumption) | (focus (repeat (first | exact Ext.refl _ | assumption | (apply Ext.trans; rotate_left; assumption))); done) | solve_by_elim (maxDepth := 8) [Ext.trans]); exact rfl; omega; assumption; intro b off h; have hcc := h; first | (obtain ⟨h1, h2, h3, _⟩ := h) | (obtain ⟨h1, h2, _⟩ := h) | (obtain ⟨h1, _⟩ := h)) | (apply WL.add; exact rfl; exact rfl; exact rfl; exact rfl; omega) | (apply WL.sub; exact rfl; exact rfl; exact rfl; exact rfl; omega) | (apply WL.mul; exact rfl; exact rfl; exact rfl; exact rfl; omega) | (apply WL.quo; exact rfl; exact rfl; exact rfl; exact rfl; omega) | (apply WL.rem; exact rfl; exact rfl; exact rfl; exact rfl; omega) | (apply WL.loadA tOk; exact rfl; exact rfl; exact rfl; exact rfl; exact rfl; (first | assumption | (focus (apply Cells.ext; rotate_left; assumption; (first | exact Ext.refl _ | assumption | exact Ext.trans (by assumption) (by assumption) | (focus (repeat (first | exact Ext.refl _ | assumption | (apply Ext.trans; rotate_left; assumption))); done) | solve_by_elim (maxDepth := 8) [Ext.trans]); done))); exact rfl) | (apply WL.guardF; exact rfl; exact rfl) | (apply WL.gD; exact rfl; exact rfl; all_goals intro _) | (apply WL.gN; exact rfl; exact rfl; all_goals intro _) | (apply WL.gB; exact rfl; exact rfl; all_goals intro _))
          | (show Z _ _ _ _ _; first | apply Z.tail | apply Z.then_normal | apply Z.block_normal | apply Z.then_exit | apply Z.block_exit | apply Z.then_ret | apply Z.block_ret | (apply Z.block_other; exact rfl))
          | (show W _ _ _ _ _ _; first | apply W.seq | apply W.region | apply W.block | apply W.skip | apply W.ret | apply W.exit | (apply W.condT; exact rfl) | (apply W.condF; exact rfl) | (apply W.condD; exact rfl; all_goals intro _) | (apply W.condN; exact rfl; all_goals intro _) | (apply W.condB; exact rfl; all_goals intro _)))
        exact Z.body1 Try.results168 rfl fun m => ⟨rfl, m, rfl⟩
      · rw [if_neg he]
        refine Spec.of _ Try.func168 rfl Try.ntmps168 (by kernel_rfl) rfl ?_
        repeat' (first
          | (apply WL.nilc; exact rfl; exact rfl; exact rfl)
          | (apply WL.eqNilS tOk; exact rfl; exact rfl; exact rfl; exact rfl; exact rfl; exact rfl)
          | (apply WL.neNilS tOk; exact rfl; exact rfl; exact rfl; exact rfl; exact rfl; exact rfl)
          | (apply WL.eqNil tOk; exact rfl; exact rfl; exact rfl; exact rfl; exact rfl; exact rfl)
          | (apply WL.neNil tOk; exact rfl; exact rfl; exact rfl; exact rfl; exact rfl; exact rfl)
          | (apply WL.indexO tOk; exact rfl; exact rfl; exact rfl; exact rfl; exact rfl; exact rfl; exact rfl; exact rfl; assumption; (first | exact Ext.refl _ | assumption | exact Ext.trans (by assumption) (by assumption) | (focus (repeat (first | exact Ext.refl _ | assumption | (apply Ext.trans; rotate_left; assumption))); done) | solve_by_elim (maxDepth := 8) [Ext.trans]); exact enc3_ok; (first | exact rfl | (simp; done) | (simp [*]; done) | omega | (simp only [List.length_set]; omega)); omega; assumption; intro gb ha hc; cases ha; have hcc := hc; first | (obtain ⟨h1, h2, h3, _⟩ := hc) | (obtain ⟨h1, h2, _⟩ := hc) | (obtain ⟨h1, _⟩ := hc))
          | (apply WL.gT; exact rfl; exact rfl; (focus (first | exact dec_false he | exact dec_true (by omega) | exact dec_false (by omega); done)))
          | (apply WL.gF; exact rfl; exact rfl; (focus (first | exact dec_false he | exact dec_true (by omega) | exact dec_false (by omega); done)))
          | (apply W.condKT; exact rfl; (focus (first | exact dec_false he | exact dec_true (by omega) | exact dec_false (by omega); done)))
          | (apply W.condKF; exact rfl; (focus (first | exact dec_false he | exact dec_true (by omega) | exact dec_false (by omega); done)))
          | (((show WL _ _ _ (⟨_, .call ⟨.value (.func 194), _, _⟩, _, _, _, _⟩ :: _) _ _ _); apply WL.callS; exact rfl; exact rfl; exact rfl; exact rfl; exact key'))
          | (show WL _ _ _ _ _ _ _; first | apply WL.nil | (apply WL.pev tOk; exact rfl; exact rfl; exact rfl) | (apply WL.load tOk; exact rfl; exact rfl; exact rfl; exact rfl; exact rfl; (first | assumption | (focus (apply Ext.cell; rotate_left; assumption; (first | exact Ext.refl _ | assumption | exact Ext.trans (by assumption) (by assumption) | (focus (repeat (first | exact Ext.refl _ | assumption | (apply Ext.trans; rotate_left; assumption))); done) | solve_by_elim (maxDepth := 8) [Ext.trans]); done)))) | (apply WL.index tOk; exact rfl; exact rfl; exact rfl; exact rfl; exact rfl; exact rfl; exact rfl; exact rfl; assumption; (first | exact Ext.refl _ | assumption | exact Ext.trans (by assumption) (by assumption) | (focus (repeat (first | exact Ext.refl _ | assumption | (apply Ext.trans; rotate_left; assumption))); done) | solve_by_elim (maxDepth := 8) [Ext.trans]); exact rfl; omega; assumption; intro b off h; have hcc := h; first | (obtain ⟨h1, h2, h3, _⟩ := h) | (obtain ⟨h1, h2, _⟩ := h) | (obtain ⟨h1, _⟩ := h)) | (apply WL.add; exact rfl; exact rfl; exact rfl; exact rfl; omega) | (apply WL.sub; exact rfl; exact rfl; exact rfl; exact rfl; omega) | (apply WL.mul; exact rfl; exact rfl; exact rfl; exact rfl; omega) | (apply WL.quo; exact rfl; exact rfl; exact rfl; exact rfl; omega) | (apply WL.rem; exact rfl; exact rfl; exact rfl; exact rfl; omega) | (apply WL.loadA tOk; exact rfl; exact rfl; exact rfl; exact rfl; exact rfl; (first | assumption | (focus (apply Cells.ext; rotate_left; assumption; (first | exact Ext.refl _ | assumption | exact Ext.trans (by assumption) (by assumption) | (focus (repeat (first | exact Ext.refl _ | assumption | (apply Ext.trans; rotate_left; assumption))); done) | solve_by_elim (maxDepth := 8) [Ext.trans]); done))); exact rfl) | (apply WL.guardF; exact rfl; exact rfl) | (apply WL.gD; exact rfl; exact rfl; all_goals intro _) | (apply WL.gN; exact rfl; exact rfl; all_goals intro _) | (apply WL.gB; exact rfl; exact rfl; all_goals intro _))
          | (show Z _ _ _ _ _; first | apply Z.tail | apply Z.then_normal | apply Z.block_normal | apply Z.then_exit | apply Z.block_exit | apply Z.then_ret | apply Z.block_ret | (apply Z.block_other; exact rfl))
          | (show W _ _ _ _ _ _; first | apply W.seq | apply W.region | apply W.block | apply W.skip | apply W.ret | apply W.exit | (apply W.condT; exact rfl) | (apply W.condF; exact rfl) | (apply W.condD; exact rfl; all_goals intro _) | (apply W.condN; exact rfl; all_goals intro _) | (apply W.condB; exact rfl; all_goals intro _)))
        exact Z.body1 Try.results168 rfl fun m => ⟨rfl, m, rfl⟩
  · rw [valT_out (by omega)]
    refine Spec.of _ Try.func168 rfl Try.ntmps168 (by kernel_rfl) rfl ?_
    repeat' (first
      | (apply WL.nilc; exact rfl; exact rfl; exact rfl)
      | (apply WL.eqNilS tOk; exact rfl; exact rfl; exact rfl; exact rfl; exact rfl; exact rfl)
      | (apply WL.neNilS tOk; exact rfl; exact rfl; exact rfl; exact rfl; exact rfl; exact rfl)
      | (apply WL.eqNil tOk; exact rfl; exact rfl; exact rfl; exact rfl; exact rfl; exact rfl)
      | (apply WL.neNil tOk; exact rfl; exact rfl; exact rfl; exact rfl; exact rfl; exact rfl)
      | (apply WL.gT; exact rfl; exact rfl; (focus (first | exact dec_true (by omega) | exact dec_false (by omega) | exact dec_true (by decide); done)))
      | (apply WL.gF; exact rfl; exact rfl; (focus (first | exact dec_true (by omega) | exact dec_false (by omega) | exact dec_true (by decide); done)))
      | (apply W.condKT; exact rfl; (focus (first | exact dec_true (by omega) | exact dec_false (by omega) | exact dec_true (by decide); done)))
      | (apply W.condKF; exact rfl; (focus (first | exact dec_true (by omega) | exact dec_false (by omega) | exact dec_true (by decide); done)))
      | (show WL _ _ _ _ _ _ _; first | apply WL.nil | (apply WL.pev tOk; exact rfl; exact rfl; exact rfl) | (apply WL.load tOk; exact rfl; exact rfl; exact rfl; exact rfl; exact rfl; (first | assumption | (focus (apply Ext.cell; rotate_left; assumption; (first | exact Ext.refl _ | assumption | exact Ext.trans (by assumption) (by assumption) | (focus (repeat (first | exact Ext.refl _ | assumption | (apply Ext.trans; rotate_left; assumption))); done) | solve_by_elim (maxDepth := 8) [Ext.trans]); done)))) | (apply WL.index tOk; exact rfl; exact rfl; exact rfl; exact rfl; exact rfl; exact rfl; exact rfl; exact rfl; assumption; (first | exact Ext.refl _ | assumption | exact Ext.trans (by assumption) (by assumption) | (focus (repeat (first | exact Ext.refl _ | assumption | (apply Ext.trans; rotate_left; assumption))); done) | solve_by_elim (maxDepth := 8) [Ext.trans]); exact rfl; omega; assumption; intro b off h; have hcc := h; first | (obtain ⟨h1, h2, h3, _⟩ := h) | (obtain ⟨h1, h2, _⟩ := h) | (obtain ⟨h1, _⟩ := h)) | (apply WL.add; exact rfl; exact rfl; exact rfl; exact rfl; omega) | (apply WL.sub; exact rfl; exact rfl; exact rfl; exact rfl; omega) | (apply WL.mul; exact rfl; exact rfl; exact rfl; exact rfl; omega) | (apply WL.quo; exact rfl; exact rfl; exact rfl; exact rfl; omega) | (apply WL.rem; exact rfl; exact rfl; exact rfl; exact rfl; omega) | (apply WL.loadA tOk; exact rfl; exact rfl; exact rfl; exact rfl; exact rfl; (first | assumption | (focus (apply Cells.ext; rotate_left; assumption; (first | exact Ext.refl _ | assumption | exact Ext.trans (by assumption) (by assumption) | (focus (repeat (first | exact Ext.refl _ | assumption | (apply Ext.trans; rotate_left; assumption))); done) | solve_by_elim (maxDepth := 8) [Ext.trans]); done))); exact rfl) | (apply WL.guardF; exact rfl; exact rfl) | (apply WL.gD; exact rfl; exact rfl; all_goals intro _) | (apply WL.gN; exact rfl; exact rfl; all_goals intro _) | (apply WL.gB; exact rfl; exact rfl; all_goals intro _))
      | (show Z _ _ _ _ _; first | apply Z.tail | apply Z.then_normal | apply Z.block_normal | apply Z.then_exit | apply Z.block_exit | apply Z.then_ret | apply Z.block_ret | (apply Z.block_other; exact rfl))
      | (show W _ _ _ _ _ _; first | apply W.seq | apply W.region | apply W.block | apply W.skip | apply W.ret | apply W.exit | (apply W.condT; exact rfl) | (apply W.condF; exact rfl) | (apply W.condD; exact rfl; all_goals intro _) | (apply W.condN; exact rfl; all_goals intro _) | (apply W.condB; exact rfl; all_goals intro _)))
    all_goals exact Z.body1 Try.results168 rfl fun m => ⟨rfl, m, rfl⟩
set_option maxHeartbeats 4000000 in
theorem rf_Of (hS : Lt.Sep B w (rfP B gr n lev a c Lr ++ rest)) (hT : TOk n Lr) (hn : n ≤ 1048576) (hL : Lr.length ≤ 1048576) (v : Int) :
    Still Try.prog 169 [.pointer (some ⟨gr, 0, none⟩), .int .i64 v] w (.tuple #[.int .i64 (ofT n Lr v).1, .int .i64 (ofT n Lr v).2.1, .int .i64 (ofT n Lr v).2.2]) := by
  obtain ⟨c0, c1, c2⟩ := rfC hS
  have hR1 := hS.row (i := 1) rfl
  by_cases h0 : v = 0
  · subst h0
    rw [ofT_zero]
    refine Spec.of _ Try.func169 rfl Try.ntmps169 (by kernel_rfl) rfl ?_
    repeat' (first
      | (apply WL.nilc; exact rfl; exact rfl; exact rfl)
      | (apply WL.eqNilS tOk; exact rfl; exact rfl; exact rfl; exact rfl; exact rfl; exact rfl)
      | (apply WL.neNilS tOk; exact rfl; exact rfl; exact rfl; exact rfl; exact rfl; exact rfl)
      | (apply WL.eqNil tOk; exact rfl; exact rfl; exact rfl; exact rfl; exact rfl; exact rfl)
      | (apply WL.neNil tOk; exact rfl; exact rfl; exact rfl; exact rfl; exact rfl; exact rfl)
      | (apply WL.gT; exact rfl; exact rfl; (focus (exact dec_true rfl; done)))
      | (apply WL.gF; exact rfl; exact rfl; (focus (exact dec_true rfl; done)))
      | (apply W.condKT; exact rfl; (focus (exact dec_true rfl; done)))
      | (apply W.condKF; exact rfl; (focus (exact dec_true rfl; done)))
      | (show WL _ _ _ _ _ _ _; first | apply WL.nil | (apply WL.pev tOk; exact rfl; exact rfl; exact rfl) | (apply WL.load tOk; exact rfl; exact rfl; exact rfl; exact rfl; exact rfl; (first | assumption | (focus (apply Ext.cell; rotate_left; assumption; (first | exact Ext.refl _ | assumption | exact Ext.trans (by assumption) (by assumption) | (focus (repeat (first | exact Ext.refl _ | assumption | (apply Ext.trans; rotate_left; assumption))); done) | solve_by_elim (maxDepth := 8) [Ext.trans]); done)))) | (apply WL.index tOk; exact rfl; exact rfl; exact rfl; exact rfl; exact rfl; exact rfl; exact rfl; exact rfl; assumption; (first | exact Ext.refl _ | assumption | exact Ext.trans (by assumption) (by assumption) | (focus (repeat (first | exact Ext.refl _ | assumption | (apply Ext.trans; rotate_left; assumption))); done) | solve_by_elim (maxDepth := 8) [Ext.trans]); exact rfl; omega; assumption; intro b off h; have hcc := h; first | (obtain ⟨h1, h2, h3, _⟩ := h) | (obtain ⟨h1, h2, _⟩ := h) | (obtain ⟨h1, _⟩ := h)) | (apply WL.add; exact rfl; exact rfl; exact rfl; exact rfl; omega) | (apply WL.sub; exact rfl; exact rfl; exact rfl; exact rfl; omega) | (apply WL.mul; exact rfl; exact rfl; exact rfl; exact rfl; omega) | (apply WL.quo; exact rfl; exact rfl; exact rfl; exact rfl; omega) | (apply WL.rem; exact rfl; exact rfl; exact rfl; exact rfl; omega) | (apply WL.loadA tOk; exact rfl; exact rfl; exact rfl; exact rfl; exact rfl; (first | assumption | (focus (apply Cells.ext; rotate_left; assumption; (first | exact Ext.refl _ | assumption | exact Ext.trans (by assumption) (by assumption) | (focus (repeat (first | exact Ext.refl _ | assumption | (apply Ext.trans; rotate_left; assumption))); done) | solve_by_elim (maxDepth := 8) [Ext.trans]); done))); exact rfl) | (apply WL.guardF; exact rfl; exact rfl) | (apply WL.gD; exact rfl; exact rfl; all_goals intro _) | (apply WL.gN; exact rfl; exact rfl; all_goals intro _) | (apply WL.gB; exact rfl; exact rfl; all_goals intro _))
      | (show Z _ _ _ _ _; first | apply Z.tail | apply Z.then_normal | apply Z.block_normal | apply Z.then_exit | apply Z.block_exit | apply Z.then_ret | apply Z.block_ret | (apply Z.block_other; exact rfl))
      | (show W _ _ _ _ _ _; first | apply W.seq | apply W.region | apply W.block | apply W.skip | apply W.ret | apply W.exit | (apply W.condT; exact rfl) | (apply W.condF; exact rfl) | (apply W.condD; exact rfl; all_goals intro _) | (apply W.condN; exact rfl; all_goals intro _) | (apply W.condB; exact rfl; all_goals intro _)))
    exact Z.body3 Try.results169 rfl rfl rfl fun m => ⟨rfl, m, rfl⟩
  by_cases hin : 0 < v ∧ v ≤ (n : Int)
  · cases hp : plc v Lr with
    | none =>
      rw [ofT_none h0 (.inr hp)]
      have key := rf_place hS hT hn hL v
      rw [hp] at key
      refine Spec.of _ Try.func169 rfl Try.ntmps169 (by kernel_rfl) rfl ?_
      repeat' (first
        | (apply WL.nilc; exact rfl; exact rfl; exact rfl)
        | (apply WL.eqNilS tOk; exact rfl; exact rfl; exact rfl; exact rfl; exact rfl; exact rfl)
        | (apply WL.neNilS tOk; exact rfl; exact rfl; exact rfl; exact rfl; exact rfl; exact rfl)
        | (apply WL.eqNil tOk; exact rfl; exact rfl; exact rfl; exact rfl; exact rfl; exact rfl)
        | (apply WL.neNil tOk; exact rfl; exact rfl; exact rfl; exact rfl; exact rfl; exact rfl)
        | (apply WL.gT; exact rfl; exact rfl; (focus (first | exact dec_true (by omega) | exact dec_false (by omega) | exact dec_true (by decide); done)))
        | (apply WL.gF; exact rfl; exact rfl; (focus (first | exact dec_true (by omega) | exact dec_false (by omega) | exact dec_true (by decide); done)))
        | (apply W.condKT; exact rfl; (focus (first | exact dec_true (by omega) | exact dec_false (by omega) | exact dec_true (by decide); done)))
        | (apply W.condKF; exact rfl; (focus (first | exact dec_true (by omega) | exact dec_false (by omega) | exact dec_true (by decide); done)))
        | (((show WL _ _ _ (⟨_, .call ⟨.value (.func 194), _, _⟩, _, _, _, _⟩ :: _) _ _ _); apply WL.callS; exact rfl; exact rfl; exact rfl; exact rfl; exact key))
        | (show WL _ _ _ _ _ _ _; first | apply WL.nil | (apply WL.pev tOk; exact rfl; exact rfl; exact rfl) | (apply WL.load tOk; exact rfl; exact rfl; exact rfl; exact rfl; exact rfl; (first | assumption | (focus (apply Ext.cell; rotate_left; assumption; (first | exact Ext.refl _ | assumption | exact Ext.trans (by assumption) (by assumption) | (focus (repeat (first | exact Ext.refl _ | assumption | (apply Ext.trans; rotate_left; assumption))); done) | solve_by_elim (maxDepth := 8) [Ext.trans]); done)))) | (apply WL.index tOk; exact rfl; exact rfl; exact rfl; exact rfl; exact rfl; exact rfl; exact rfl; exact rfl; assumption; (first | exact Ext.refl _ | assumption | exact Ext.trans (by assumption) (by assumption) | (focus (repeat (first | exact Ext.refl _ | assumption | (apply Ext.trans; rotate_left; assumption))); done) | solve_by_elim (maxDepth := 8) [Ext.trans]); exact rfl; omega; assumption; intro b off h; have hcc := h; first | (obtain ⟨h1, h2, h3, _⟩ := h) | (obtain ⟨h1, h2, _⟩ := h) | (obtain ⟨h1, _⟩ := h)) | (apply WL.add; exact rfl; exact rfl; exact rfl; exact rfl; omega) | (apply WL.sub; exact rfl; exact rfl; exact rfl; exact rfl; omega) | (apply WL.mul; exact rfl; exact rfl; exact rfl; exact rfl; omega) | (apply WL.quo; exact rfl; exact rfl; exact rfl; exact rfl; omega) | (apply WL.rem; exact rfl; exact rfl; exact rfl; exact rfl; omega) | (apply WL.loadA tOk; exact rfl; exact rfl; exact rfl; exact rfl; exact rfl; (first | assumption | (focus (apply Cells.ext; rotate_left; assumption; (first | exact Ext.refl _ | assumption | exact Ext.trans (by assumption) (by assumption) | (focus (repeat (first | exact Ext.refl _ | assumption | (apply Ext.trans; rotate_left; assumption))); done) | solve_by_elim (maxDepth := 8) [Ext.trans]); done))); exact rfl) | (apply WL.guardF; exact rfl; exact rfl) | (apply WL.gD; exact rfl; exact rfl; all_goals intro _) | (apply WL.gN; exact rfl; exact rfl; all_goals intro _) | (apply WL.gB; exact rfl; exact rfl; all_goals intro _))
        | (show Z _ _ _ _ _; first | apply Z.tail | apply Z.then_normal | apply Z.block_normal | apply Z.then_exit | apply Z.block_exit | apply Z.then_ret | apply Z.block_ret | (apply Z.block_other; exact rfl))
        | (show W _ _ _ _ _ _; first | apply W.seq | apply W.region | apply W.block | apply W.skip | apply W.ret | apply W.exit | (apply W.condT; exact rfl) | (apply W.condF; exact rfl) | (apply W.condD; exact rfl; all_goals intro _) | (apply W.condN; exact rfl; all_goals intro _) | (apply W.condB; exact rfl; all_goals intro _)))
      exact Z.body3 Try.results169 rfl rfl rfl fun m => ⟨rfl, m, rfl⟩
    | some i =>
      obtain ⟨x, hx, hxv⟩ := plc_some hp
      have hi := lt_of_get hx
      rw [ofT_set hT hx hxv]
      have key := rf_place hS hT hn hL v
      rw [hp] at key
      have key' : Still Try.prog 194 [.pointer (some ⟨gr, 0, none⟩), .int .i64 v] w (.int .i64 (i : Int)) := key
      have hx' : Lr[((i : Nat) : Int).toNat]? = some x := by rw [Int.toNat_natCast]; exact hx
      refine Spec.of _ Try.func169 rfl Try.ntmps169 (by kernel_rfl) rfl ?_
      repeat' (first
        | (apply WL.nilc; exact rfl; exact rfl; exact rfl)
        | (apply QL.nilc; exact rfl; exact rfl; exact rfl)
        | (apply WL.eqNilS tOk; exact rfl; exact rfl; exact rfl; exact rfl; exact rfl; exact rfl)
        | (apply WL.neNilS tOk; exact rfl; exact rfl; exact rfl; exact rfl; exact rfl; exact rfl)
        | (apply WL.eqNil tOk; exact rfl; exact rfl; exact rfl; exact rfl; exact rfl; exact rfl)
        | (apply WL.neNil tOk; exact rfl; exact rfl; exact rfl; exact rfl; exact rfl; exact rfl)
        | (apply QL.eqNil tOk; exact rfl; exact rfl; exact rfl; exact rfl; exact rfl; exact rfl)
        | (apply QL.neNil tOk; exact rfl; exact rfl; exact rfl; exact rfl; exact rfl; exact rfl)
        | (apply WL.indexO tOk; exact rfl; exact rfl; exact rfl; exact rfl; exact rfl; exact rfl; exact rfl; exact rfl; assumption; (first | exact Ext.refl _ | assumption | exact Ext.trans (by assumption) (by assumption) | (focus (repeat (first | exact Ext.refl _ | assumption | (apply Ext.trans; rotate_left; assumption))); done) | solve_by_elim (maxDepth := 8) [Ext.trans]); exact enc3_ok; (first | exact rfl | (simp; done) | (simp [*]; done) | omega | (simp only [List.length_set]; omega)); omega; assumption; intro gb ha hc; cases ha; have hcc := hc; first | (obtain ⟨h1, h2, h3, _⟩ := hc) | (obtain ⟨h1, h2, _⟩ := hc) | (obtain ⟨h1, _⟩ := hc))
        | (apply QL.indexO tOk; exact rfl; exact rfl; exact rfl; exact rfl; exact rfl; exact rfl; exact rfl; exact rfl; assumption; (first | exact Ext.refl _ | assumption | exact Ext.trans (by assumption) (by assumption) | (focus (repeat (first | exact Ext.refl _ | assumption | (apply Ext.trans; rotate_left; assumption))); done) | solve_by_elim (maxDepth := 8) [Ext.trans]); exact enc3_ok; (first | exact rfl | (simp; done) | (simp [*]; done) | omega | (simp only [List.length_set]; omega)); omega; assumption; intro gb ha hc; cases ha; have hcc := hc; first | (obtain ⟨h1, h2, h3, _⟩ := hc) | (obtain ⟨h1, h2, _⟩ := hc) | (obtain ⟨h1, _⟩ := hc))
        | (apply WL.gT; exact rfl; exact rfl; (focus (first | exact dec_true (by omega) | exact dec_false (by omega); done)))
        | (apply WL.gF; exact rfl; exact rfl; (focus (first | exact dec_true (by omega) | exact dec_false (by omega); done)))
        | (apply QL.gT; exact rfl; exact rfl; (focus (first | exact dec_true (by omega) | exact dec_false (by omega); done)))
        | (apply QL.gF; exact rfl; exact rfl; (focus (first | exact dec_true (by omega) | exact dec_false (by omega); done)))
        | (apply W.condKT; exact rfl; (focus (first | exact dec_true (by omega) | exact dec_false (by omega); done)))
        | (apply W.condKF; exact rfl; (focus (first | exact dec_true (by omega) | exact dec_false (by omega); done)))
        | (((show WL _ _ _ (⟨_, .call ⟨.value (.func 194), _, _⟩, _, _, _, _⟩ :: _) _ _ _); apply WL.callS; exact rfl; exact rfl; exact rfl; exact rfl; exact key'))
        | (show WL _ _ _ _ _ _ _; first | apply WL.nil | (apply WL.pev tOk; exact rfl; exact rfl; exact rfl) | (apply WL.load tOk; exact rfl; exact rfl; exact rfl; exact rfl; exact rfl; (first | assumption | (focus (apply Ext.cell; rotate_left; assumption; (first | exact Ext.refl _ | assumption | exact Ext.trans (by assumption) (by assumption) | (focus (repeat (first | exact Ext.refl _ | assumption | (apply Ext.trans; rotate_left; assumption))); done) | solve_by_elim (maxDepth := 8) [Ext.trans]); done)))) | (apply WL.index tOk; exact rfl; exact rfl; exact rfl; exact rfl; exact rfl; exact rfl; exact rfl; exact rfl; assumption; (first | exact Ext.refl _ | assumption | exact Ext.trans (by assumption) (by assumption) | (focus (repeat (first | exact Ext.refl _ | assumption | (apply Ext.trans; rotate_left; assumption))); done) | solve_by_elim (maxDepth := 8) [Ext.trans]); exact rfl; omega; assumption; intro b off h; have hcc := h; first | (obtain ⟨h1, h2, h3, _⟩ := h) | (obtain ⟨h1, h2, _⟩ := h) | (obtain ⟨h1, _⟩ := h)) | (apply WL.add; exact rfl; exact rfl; exact rfl; exact rfl; omega) | (apply WL.sub; exact rfl; exact rfl; exact rfl; exact rfl; omega) | (apply WL.mul; exact rfl; exact rfl; exact rfl; exact rfl; omega) | (apply WL.quo; exact rfl; exact rfl; exact rfl; exact rfl; omega) | (apply WL.rem; exact rfl; exact rfl; exact rfl; exact rfl; omega) | (apply WL.loadA tOk; exact rfl; exact rfl; exact rfl; exact rfl; exact rfl; (first | assumption | (focus (apply Cells.ext; rotate_left; assumption; (first | exact Ext.refl _ | assumption | exact Ext.trans (by assumption) (by assumption) | (focus (repeat (first | exact Ext.refl _ | assumption | (apply Ext.trans; rotate_left; assumption))); done) | solve_by_elim (maxDepth := 8) [Ext.trans]); done))); exact rfl) | (apply WL.guardF; exact rfl; exact rfl) | (apply WL.gD; exact rfl; exact rfl; all_goals intro _) | (apply WL.gN; exact rfl; exact rfl; all_goals intro _) | (apply WL.gB; exact rfl; exact rfl; all_goals intro _))
        | (show QL _ _ _ _ _ _ _; first | apply QL.nil | (apply QL.pev tOk; exact rfl; exact rfl; exact rfl) | (apply QL.load tOk; exact rfl; exact rfl; exact rfl; exact rfl; exact rfl; (first | assumption | (focus (apply Ext.cell; rotate_left; assumption; (first | exact Ext.refl _ | assumption | exact Ext.trans (by assumption) (by assumption) | (focus (repeat (first | exact Ext.refl _ | assumption | (apply Ext.trans; rotate_left; assumption))); done) | solve_by_elim (maxDepth := 8) [Ext.trans]); done)))) | (apply QL.index tOk; exact rfl; exact rfl; exact rfl; exact rfl; exact rfl; exact rfl; exact rfl; exact rfl; assumption; (first | exact Ext.refl _ | assumption | exact Ext.trans (by assumption) (by assumption) | (focus (repeat (first | exact Ext.refl _ | assumption | (apply Ext.trans; rotate_left; assumption))); done) | solve_by_elim (maxDepth := 8) [Ext.trans]); exact rfl; omega; assumption; intro b off h; have hcc := h; first | (obtain ⟨h1, h2, h3, _⟩ := h) | (obtain ⟨h1, h2, _⟩ := h) | (obtain ⟨h1, _⟩ := h)) | (apply QL.add; exact rfl; exact rfl; exact rfl; exact rfl; omega) | (apply QL.sub; exact rfl; exact rfl; exact rfl; exact rfl; omega) | (apply QL.mul; exact rfl; exact rfl; exact rfl; exact rfl; omega) | (apply QL.quo; exact rfl; exact rfl; exact rfl; exact rfl; omega) | (apply QL.rem; exact rfl; exact rfl; exact rfl; exact rfl; omega) | (apply QL.loadA tOk; exact rfl; exact rfl; exact rfl; exact rfl; exact rfl; (first | assumption | (focus (apply Cells.ext; rotate_left; assumption; (first | exact Ext.refl _ | assumption | exact Ext.trans (by assumption) (by assumption) | (focus (repeat (first | exact Ext.refl _ | assumption | (apply Ext.trans; rotate_left; assumption))); done) | solve_by_elim (maxDepth := 8) [Ext.trans]); done))); exact rfl) | (apply QL.guardF; exact rfl; exact rfl) | (apply QL.gD; exact rfl; exact rfl; all_goals intro _) | (apply QL.gN; exact rfl; exact rfl; all_goals intro _) | (apply QL.gB; exact rfl; exact rfl; all_goals intro _))
        | (show Z _ _ _ _ _; first | apply Z.tail | apply Z.then_normal | apply Z.block_normal | apply Z.then_exit | apply Z.block_exit | apply Z.then_ret | apply Z.block_ret | (apply Z.block_other; exact rfl))
        | (show W _ _ _ _ _ _; first | apply W.seq | apply W.region | apply W.block | apply W.skip | apply W.ret | apply W.exit | (apply W.condT; exact rfl) | (apply W.condF; exact rfl) | (apply W.condD; exact rfl; all_goals intro _) | (apply W.condN; exact rfl; all_goals intro _) | (apply W.condB; exact rfl; all_goals intro _) | (apply W.regionD tMix; kernel_rfl)))
      exact Z.body3 Try.results169 rfl rfl rfl fun m => ⟨rfl, m, rfl⟩
  · rw [ofT_none h0 (.inl hin)]
    refine Spec.of _ Try.func169 rfl Try.ntmps169 (by kernel_rfl) rfl ?_
    repeat' (first
      | (apply WL.nilc; exact rfl; exact rfl; exact rfl)
      | (apply WL.eqNilS tOk; exact rfl; exact rfl; exact rfl; exact rfl; exact rfl; exact rfl)
      | (apply WL.neNilS tOk; exact rfl; exact rfl; exact rfl; exact rfl; exact rfl; exact rfl)
      | (apply WL.eqNil tOk; exact rfl; exact rfl; exact rfl; exact rfl; exact rfl; exact rfl)
      | (apply WL.neNil tOk; exact rfl; exact rfl; exact rfl; exact rfl; exact rfl; exact rfl)
      | (apply WL.gT; exact rfl; exact rfl; (focus (first | exact dec_true (by omega) | exact dec_false (by omega) | exact dec_true (by decide); done)))
      | (apply WL.gF; exact rfl; exact rfl; (focus (first | exact dec_true (by omega) | exact dec_false (by omega) | exact dec_true (by decide); done)))
      | (apply W.condKT; exact rfl; (focus (first | exact dec_true (by omega) | exact dec_false (by omega) | exact dec_true (by decide); done)))
      | (apply W.condKF; exact rfl; (focus (first | exact dec_true (by omega) | exact dec_false (by omega) | exact dec_true (by decide); done)))
      | (show WL _ _ _ _ _ _ _; first | apply WL.nil | (apply WL.pev tOk; exact rfl; exact rfl; exact rfl) | (apply WL.load tOk; exact rfl; exact rfl; exact rfl; exact rfl; exact rfl; (first | assumption | (focus (apply Ext.cell; rotate_left; assumption; (first | exact Ext.refl _ | assumption | exact Ext.trans (by assumption) (by assumption) | (focus (repeat (first | exact Ext.refl _ | assumption | (apply Ext.trans; rotate_left; assumption))); done) | solve_by_elim (maxDepth := 8) [Ext.trans]); done)))) | (apply WL.index tOk; exact rfl; exact rfl; exact rfl; exact rfl; exact rfl; exact rfl; exact rfl; exact rfl; assumption; (first | exact Ext.refl _ | assumption | exact Ext.trans (by assumption) (by assumption) | (focus (repeat (first | exact Ext.refl _ | assumption | (apply Ext.trans; rotate_left; assumption))); done) | solve_by_elim (maxDepth := 8) [Ext.trans]); exact rfl; omega; assumption; intro b off h; have hcc := h; first | (obtain ⟨h1, h2, h3, _⟩ := h) | (obtain ⟨h1, h2, _⟩ := h) | (obtain ⟨h1, _⟩ := h)) | (apply WL.add; exact rfl; exact rfl; exact rfl; exact rfl; omega) | (apply WL.sub; exact rfl; exact rfl; exact rfl; exact rfl; omega) | (apply WL.mul; exact rfl; exact rfl; exact rfl; exact rfl; omega) | (apply WL.quo; exact rfl; exact rfl; exact rfl; exact rfl; omega) | (apply WL.rem; exact rfl; exact rfl; exact rfl; exact rfl; omega) | (apply WL.loadA tOk; exact rfl; exact rfl; exact rfl; exact rfl; exact rfl; (first | assumption | (focus (apply Cells.ext; rotate_left; assumption; (first | exact Ext.refl _ | assumption | exact Ext.trans (by assumption) (by assumption) | (focus (repeat (first | exact Ext.refl _ | assumption | (apply Ext.trans; rotate_left; assumption))); done) | solve_by_elim (maxDepth := 8) [Ext.trans]); done))); exact rfl) | (apply WL.guardF; exact rfl; exact rfl) | (apply WL.gD; exact rfl; exact rfl; all_goals intro _) | (apply WL.gN; exact rfl; exact rfl; all_goals intro _) | (apply WL.gB; exact rfl; exact rfl; all_goals intro _))
      | (show Z _ _ _ _ _; first | apply Z.tail | apply Z.then_normal | apply Z.block_normal | apply Z.then_exit | apply Z.block_exit | apply Z.then_ret | apply Z.block_ret | (apply Z.block_other; exact rfl))
      | (show W _ _ _ _ _ _; first | apply W.seq | apply W.region | apply W.block | apply W.skip | apply W.ret | apply W.exit | (apply W.condT; exact rfl) | (apply W.condF; exact rfl) | (apply W.condD; exact rfl; all_goals intro _) | (apply W.condN; exact rfl; all_goals intro _) | (apply W.condB; exact rfl; all_goals intro _)))
    all_goals exact Z.body3 Try.results169 rfl rfl rfl fun m => ⟨rfl, m, rfl⟩
end
end Go.Proofs.Ytnbmhibhnfmdeaa
