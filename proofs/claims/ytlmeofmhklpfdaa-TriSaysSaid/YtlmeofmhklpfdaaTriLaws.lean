/- The laws TriSays and TriLits: their walks. No conditions. -/
import Derived.Test.YtlmeofmhklpfdaaLit
namespace Go.Proofs.Ytlmeofmhklpfdaa
open Go Go.Lt Go.RowKit
theorem below_and {a b : Int} (h : below3 a b) (c : Int) : below3 (and3 a c) (and3 b c) := by grind [below3, and3, val3]
theorem below_not {a b : Int} (h : below3 a b) : below3 (not3 a) (not3 b) := by grind [below3, not3, val3]
set_option maxHeartbeats 2000000 in
theorem law_TriSays (a b c : Int) (w : World) : Still Try.prog 4 [.int .i64 a, .int .i64 b, .int .i64 c] w (.bool true) := by
  refine Spec.of _ Try.func4 rfl Try.ntmps4 (by kernel_rfl) rfl ?_
  repeat' (first
    | (apply WL.callS; exact rfl; exact rfl; exact rfl; exact rfl; exact ref_Below _ _ _)
    | (apply WL.callS; exact rfl; exact rfl; exact rfl; exact rfl; exact tri_Below _ _ _)
    | (apply WL.callS; exact rfl; exact rfl; exact rfl; exact rfl; exact tri_And _ _ _)
    | (apply WL.callS; exact rfl; exact rfl; exact rfl; exact rfl; exact tri_Not _ _)
    | (apply WL.callS; exact rfl; exact rfl; exact rfl; exact rfl; exact lives3 _)
    | (apply WL.gT; exact rfl; exact rfl; (focus (first | exact dec_true (below_and (by assumption) _) | exact dec_true (below_not (by assumption)); done)))
    | (apply WL.gF; exact rfl; exact rfl; (focus (first | exact dec_true (below_and (by assumption) _) | exact dec_true (below_not (by assumption)); done)))
    | (apply W.condKT; exact rfl; (focus (first | exact dec_true (below_and (by assumption) _) | exact dec_true (below_not (by assumption)); done)))
    | (apply W.condKF; exact rfl; (focus (first | exact dec_true (below_and (by assumption) _) | exact dec_true (below_not (by assumption)); done)))
    | (show WL _ _ _ _ _ _ _; first | apply WL.nil | (apply WL.pev tOk; exact rfl; exact rfl; exact rfl) | (apply WL.load tOk; exact rfl; exact rfl; exact rfl; exact rfl; exact rfl; assumption) | (apply WL.index tOk; exact rfl; exact rfl; exact rfl; exact rfl; exact rfl; exact rfl; exact rfl; exact rfl; assumption; (first | exact Ext.refl _ | assumption); exact rfl; omega; assumption; intro b off h; first | (obtain ⟨h1, h2, _⟩ := h) | (obtain ⟨h1, _⟩ := h)) | (apply WL.add; exact rfl; exact rfl; exact rfl; exact rfl; omega) | (apply WL.sub; exact rfl; exact rfl; exact rfl; exact rfl; omega) | (apply WL.mul; exact rfl; exact rfl; exact rfl; exact rfl; omega) | (apply WL.quo; exact rfl; exact rfl; exact rfl; exact rfl; omega) | (apply WL.rem; exact rfl; exact rfl; exact rfl; exact rfl; omega) | (apply WL.loadA tOk; exact rfl; exact rfl; exact rfl; exact rfl; exact rfl; assumption; exact rfl) | (apply WL.guardF; exact rfl; exact rfl) | (apply WL.gD; exact rfl; exact rfl; all_goals intro _) | (apply WL.gN; exact rfl; exact rfl; all_goals intro _) | (apply WL.gB; exact rfl; exact rfl; all_goals intro _))
    | (show Z _ _ _ _ _; first | apply Z.tail | apply Z.then_normal | apply Z.block_normal | apply Z.then_exit | apply Z.block_exit | apply Z.then_ret | apply Z.block_ret | (apply Z.block_other; exact rfl))
    | (show W _ _ _ _ _ _; first | apply W.seq | apply W.region | apply W.block | apply W.skip | apply W.ret | apply W.exit | (apply W.condT; exact rfl) | (apply W.condF; exact rfl) | (apply W.condD; exact rfl; all_goals intro _) | (apply W.condN; exact rfl; all_goals intro _) | (apply W.condB; exact rfl; all_goals intro _)))
  all_goals (refine Z.body1 Try.results4 rfl fun m => ⟨?_, m, rfl⟩; rfl)
set_option maxHeartbeats 2000000 in
theorem law_TriLits (a : Option Addr) (cap : Nat) (l : List Int) (x : Int) (w : World) (R : Row 1 encI w a l) (hna : a = none → cap = 0) (hl : l.length ≤ cap) : Pure Try.prog 5 [.slice a l.length cap, .int .i64 x] w (.bool true) := by
  refine Spec.of _ Try.func5 rfl Try.ntmps5 (by kernel_rfl) rfl ?_
  repeat' (first
    | (apply WL.lit (len := 0) tOk; exact rfl; exact rfl; exact rfl; exact rfl; exact rfl; exact rfl; (first | exact rfl | kernel_rfl | (simp [Instr.fill, catCells]; done)); exact rfl; intro gb w' hb hge hc hx; have hO0 := Own.of_block0 (enc := encI) (s := 1) hb hge)
    | (apply WL.appendS tOk encI_ok; exact rfl; exact rfl; exact rfl; exact rfl; exact rfl; exact rfl; exact rfl; exact rfl; exact rfl; exact rfl; assumption; (first | exact Ext.refl _ | assumption | exact Ext.trans (by assumption) (by assumption) | solve_by_elim (config := { maxDepth := 8 }) [Ext.trans]); (first | exact rfl | (simp; done) | (simp [*]; done) | omega); assumption; (first | exact Ext.refl _ | assumption | exact Ext.trans (by assumption) (by assumption) | solve_by_elim (config := { maxDepth := 8 }) [Ext.trans]); (first | exact rfl | (simp; done) | (simp [*]; done) | omega); (first | assumption | (intro h; cases h) | exact Own.noneCap (by assumption)); exact rfl; (first | exact Ext.refl _ | assumption | exact Ext.trans (by assumption) (by assumption) | solve_by_elim (config := { maxDepth := 8 }) [Ext.trans]); (first | omega | (simp; omega) | (simp at *; omega)); intro a' cap' w' hO hX' hU hF)
    | (apply WL.sliceH tOk; exact rfl; exact rfl; exact rfl; exact rfl; exact rfl; exact rfl; exact rfl; assumption; (first | exact rfl | (simp; done) | (simp [*]; done) | omega); (first | assumption | omega); (first | omega | (simp; omega) | (simp at *; omega)); intro hR hc)
    | (apply WL.callS; exact rfl; exact rfl; exact rfl; exact rfl; exact tri_Lit _ _ _ _ _ (Own.row encI_ok (by assumption)))
    | (apply WL.callS; exact rfl; exact rfl; exact rfl; exact rfl; exact ref_Lit _ _ _ _ _ (Row.ext (by assumption) (by assumption)))
    | (apply WL.callS; exact rfl; exact rfl; exact rfl; exact rfl; exact lives3 _)
    | (apply WL.gT; exact rfl; exact rfl; (focus (exact dec_true rfl; done)))
    | (apply WL.gF; exact rfl; exact rfl; (focus (exact dec_true rfl; done)))
    | (apply W.condKT; exact rfl; (focus (exact dec_true rfl; done)))
    | (apply W.condKF; exact rfl; (focus (exact dec_true rfl; done)))
    | (show WL _ _ _ _ _ _ _; first | apply WL.nil | (apply WL.pev tOk; exact rfl; exact rfl; exact rfl) | (apply WL.load tOk; exact rfl; exact rfl; exact rfl; exact rfl; exact rfl; assumption) | (apply WL.index tOk; exact rfl; exact rfl; exact rfl; exact rfl; exact rfl; exact rfl; exact rfl; exact rfl; assumption; (first | exact Ext.refl _ | assumption); exact rfl; omega; assumption; intro b off h; first | (obtain ⟨h1, h2, _⟩ := h) | (obtain ⟨h1, _⟩ := h)) | (apply WL.add; exact rfl; exact rfl; exact rfl; exact rfl; omega) | (apply WL.sub; exact rfl; exact rfl; exact rfl; exact rfl; omega) | (apply WL.mul; exact rfl; exact rfl; exact rfl; exact rfl; omega) | (apply WL.quo; exact rfl; exact rfl; exact rfl; exact rfl; omega) | (apply WL.rem; exact rfl; exact rfl; exact rfl; exact rfl; omega) | (apply WL.loadA tOk; exact rfl; exact rfl; exact rfl; exact rfl; exact rfl; assumption; exact rfl) | (apply WL.guardF; exact rfl; exact rfl) | (apply WL.gD; exact rfl; exact rfl; all_goals intro _) | (apply WL.gN; exact rfl; exact rfl; all_goals intro _) | (apply WL.gB; exact rfl; exact rfl; all_goals intro _))
    | (show Z _ _ _ _ _; first | apply Z.tail | apply Z.then_normal | apply Z.block_normal | apply Z.then_exit | apply Z.block_exit | apply Z.then_ret | apply Z.block_ret | (apply Z.block_other; exact rfl))
    | (show W _ _ _ _ _ _; first | apply W.seq | apply W.region | apply W.block | apply W.skip | apply W.ret | apply W.exit | (apply W.condT; exact rfl) | (apply W.condF; exact rfl) | (apply W.condD; exact rfl; all_goals intro _) | (apply W.condN; exact rfl; all_goals intro _) | (apply W.condB; exact rfl; all_goals intro _)))
  all_goals (refine Z.body1 Try.results5 rfl fun m => ⟨?_, Ext.at (by assumption) m⟩; rfl)
end Go.Proofs.Ytlmeofmhklpfdaa
